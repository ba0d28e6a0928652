/-
  How many places of a line are drawn: by the reference.
-/
import Derived.Test.YtjigoidcmlebhaaDash
namespace Go.Proofs.Ytjigoidcmlebhaa
open Go.RowKit
set_option linter.unusedSimpArgs false
set_option linter.unusedVariables false

/-- Is there a line with a pattern? -/
def dashB (zs : List Int) (b n : Int) : Bool := patB zs && inB b 0 400 && inB n 0 400
/-- Is place i of a line that begins at b drawn? -/
def dr (zs : List Int) (b : Int) : Nat → Bool := fun i => drB zs (b + (i : Int))
def lenV (zs : List Int) (b n : Int) : Int := if dashB zs b n = true then cnt (dr zs b) n.toNat else -1
theorem dashB_true {zs : List Int} {b n : Int} (h : dashB zs b n = true) : patB zs = true ∧ 0 ≤ b ∧ b ≤ 400 ∧ 0 ≤ n ∧ n ≤ 400 := by
  simp only [dashB, Bool.and_eq_true, inB_true] at h
  exact ⟨h.1.1, h.1.2.1, h.1.2.2, h.2.1, h.2.2⟩
theorem toInt_c (x : Bool) (w : World) : Calls Try.prog 39 #[.bool x] w fun e w' => e = .returned (.int .i64 (if x = true then 1 else 0)) ∧ w = w' := by
  cases x
  all_goals
    go_enter Try.func39, Try.ntmps39
    go_wp2
    go_ret
    exact ⟨rfl, rfl⟩
theorem dashValid_c (zs : List Int) (A : Option Addr) (n cap : Nat) (b t : Int) (w : World) (h : Ints w A zs) (hn : zs.length = n) (hm : zs.length ≤ 1000000000000) :
    Calls Try.prog 40 #[.slice A n cap, .int .i64 b, .int .i64 t] w fun e w' => e = .returned (.bool (dashB zs b t)) ∧ w = w' := by
  subst hn
  have HI := Lib.hid h
  clear h
  cases h1 : patB zs <;> cases h2 : inB b 0 400
  all_goals
    go_enter Try.func40, Try.ntmps40
    go_wp2_with (first | (go_at_call 33; refine (patternValid_c zs _ _ _ _ HI.out rfl hm).mono ?_; rintro e w' ⟨rfl, rfl⟩) | (go_at_call 34; refine (in_c _ _ _ _).mono ?_; rintro e w' ⟨rfl, rfl⟩))
    go_ret
    exact ⟨ret_b (by simp [dashB, h1, h2]), rfl⟩
set_option maxHeartbeats 1000000 in
theorem DashLength_s (zs : List Int) (A : Option Addr) (n cap : Nat) (b t : Int) (w : World) (h : Ints w A zs) (hn : zs.length = n) (hm : zs.length ≤ 1000000000000) :
    Calls Try.prog 19 #[.slice A n cap, .int .i64 b, .int .i64 t] w fun e w' => e = .returned (.int .i64 (lenV zs b t)) ∧ w = w' := by
  subst hn
  have HI := Lib.hid h
  clear h
  cases h1 : patB zs
  · have hV := Lib.hid (show lenV zs b t = -1 by simp [lenV, dashB, h1])
    go_enter Try.func19, Try.ntmps19
    go_wp2_with (first | (go_at_call 30; refine (validDash_c zs _ _ _ _ HI.out rfl hm).mono ?_; rintro e w' ⟨rfl, rfl⟩) | (go_at_call 31; refine (inRange_c _ _ _ _).mono ?_; rintro e w' ⟨rfl, rfl⟩))
    go_ret
    exact ⟨ret_int hV.out.symm, rfl⟩
  cases h2 : inB b 0 400
  · have hV := Lib.hid (show lenV zs b t = -1 by simp [lenV, dashB, h2])
    go_enter Try.func19, Try.ntmps19
    go_wp2_with (first | (go_at_call 30; refine (validDash_c zs _ _ _ _ HI.out rfl hm).mono ?_; rintro e w' ⟨rfl, rfl⟩) | (go_at_call 31; refine (inRange_c _ _ _ _).mono ?_; rintro e w' ⟨rfl, rfl⟩))
    go_ret
    exact ⟨ret_int hV.out.symm, rfl⟩
  cases h3 : inB t 0 400
  · have hV := Lib.hid (show lenV zs b t = -1 by simp [lenV, dashB, h3])
    go_enter Try.func19, Try.ntmps19
    go_wp2_with (first | (go_at_call 30; refine (validDash_c zs _ _ _ _ HI.out rfl hm).mono ?_; rintro e w' ⟨rfl, rfl⟩) | (go_at_call 31; refine (inRange_c _ _ _ _).mono ?_; rintro e w' ⟨rfl, rfl⟩))
    go_ret
    exact ⟨ret_int hV.out.symm, rfl⟩
  have hV := Lib.hid (show lenV zs b t = cnt (dr zs b) t.toNat by simp [lenV, dashB, h1, h2, h3])
  obtain ⟨b0, b1⟩ := inB_true.1 h2
  obtain ⟨t0, t1⟩ := inB_true.1 h3
  have HP := Lib.hid (patB_pat h1)
  go_enter Try.func19, Try.ntmps19
  go_wp2_with (first | (go_at_call 30; refine (validDash_c zs _ _ _ _ HI.out rfl hm).mono ?_; rintro e w' ⟨rfl, rfl⟩) | (go_at_call 31; refine (inRange_c _ _ _ _).mono ?_; rintro e w' ⟨rfl, rfl⟩))
  go_loop [7, 8] (fun s i => ∃ k : Nat, (k : Int) ≤ t ∧ i = .int .i64 k ∧ s = .int .i64 (cnt (dr zs b) k)) (fun _ i => t.toNat - (intOf i).toNat)
  case atStart => exact ⟨0, by omega, rfl, rfl⟩
  case round =>
    obtain ⟨k, hk, rfl, rfl⟩ := hrel
    obtain ⟨z1, z2⟩ := cnt_bd (dr zs b) k
    by_cases hlt : (k : Int) < t
    · have HN := Lib.hid (show cnt (dr zs b) (k + 1) = cnt (dr zs b) k + (if drB zs (b + (k : Int)) = true then 1 else 0) from rfl)
      cases hd : drB zs (b + (k : Int))
      all_goals
        go_wp2_with (first | (go_at_call 32; refine (drawn_s zs _ _ _ _ _ HI.out rfl HP.out (by omega) (by omega)).mono ?_; rintro e w' ⟨rfl, rfl⟩) | (go_at_call 39; refine (toInt_c _ _).mono ?_; rintro e w' ⟨rfl, rfl⟩))
        go_round
        case rel => exact ⟨k + 1, by omega, by go_num, by show Value.int .i64 _ = Value.int .i64 _; congr 1; rw [HN.out, hd]; simp⟩
        case measure => simp [intOf]; omega
    · have he : t.toNat = k := by omega
      go_wp2
      go_ret
      exact ⟨ret_int (by rw [hV.out, he]), rfl⟩
end Go.Proofs.Ytjigoidcmlebhaa
