/-
  Which places of a line are drawn: by the program and by the reference.
-/
import Derived.Test.YtjigoidcmlebhaaDashM
import Derived.Test.YtjigoidcmlebhaaOwn
namespace Go.Proofs.Ytjigoidcmlebhaa
open Go.RowKit
set_option linter.unusedSimpArgs false
set_option linter.unusedVariables false

theorem part_f (x : Int) (w : World) : Calls Try.prog 47 #[.int .i64 x] w fun e w' => e = .returned (.bool (!inB x 1 50)) ∧ w = w' := by
  go_enter Try.func47, Try.ntmps47
  go_wp2_with (go_at_call 34; refine (in_c _ _ _ _).mono ?_; rintro e w' ⟨rfl, rfl⟩)
  go_ret
  exact ⟨rfl, rfl⟩
def Found (lo hi : Int) (zs : List Int) (w : World) (e : Ending) (w' : World) : Prop := ∃ r : Int, e = .returned (.int .i64 r) ∧ -1 ≤ r ∧ r ≤ 4611686018427387904 ∧ (r < 0 ↔ allInB zs lo hi = true) ∧ w = w'
theorem IndexFunc_c (zs : List Int) (A : Option Addr) (n cap : Nat) (w : World) (h : Ints w A zs) (hn : zs.length = n) (hm : zs.length ≤ 1000000000000) :
    Calls Try.prog 51 #[.slice A n cap, .func (Fn.func 47) #[] #[]] w (Found 1 50 zs w) := by
  subst hn
  have HA := Lib.hid h
  clear h
  have hm1 : (zs.length : Int) ≤ 1000000000000 := by omega
  go_enter Try.func51, Try.ntmps51
  go_wp2
  go_loop [8] (fun i => ∃ k : Nat, k ≤ zs.length ∧ i = .int .i64 k ∧ ∀ j, j < k → inB (nth zs j) 1 50 = true) (fun i => zs.length - (intOf i).toNat)
  case atStart => exact ⟨0, Nat.zero_le _, rfl, fun j hj => absurd hj (by omega)⟩
  case round =>
    obtain ⟨k, hk, rfl, hall0⟩ := hrel
    have hall := Lib.hid hall0
    clear hall0
    by_cases hlt : k < zs.length
    · obtain ⟨b, off, rfl, hb, hc⟩ := HA.out (by omega)
      have hck := hc k hlt
      clear hc
      cases hin : inB (nth zs k) 1 50
      · go_wp2_with (go_at_call 47; refine (part_f _ _).mono ?_; rintro e w' ⟨rfl, rfl⟩)
        go_ret
        exact ⟨(k : Int), rfl, by omega, by omega, ⟨fun h => absurd h (by omega), fun h => by rw [allInB_false hlt hin] at h; cases h⟩, rfl⟩
      · go_wp2_with (go_at_call 47; refine (part_f _ _).mono ?_; rintro e w' ⟨rfl, rfl⟩)
        go_round
        case rel =>
          refine ⟨k + 1, by omega, by go_num, fun j hj => ?_⟩
          by_cases hjk : j = k
          · subst hjk; exact hin
          · exact hall.out j (by omega)
        case measure => simp [intOf]; omega
    · have he : k = zs.length := by omega
      go_wp2
      go_ret
      exact ⟨-1, rfl, by omega, by omega, ⟨fun _ => allInB_true.2 (by subst he; exact hall.out), fun _ => by omega⟩, rfl⟩
theorem ContainsFunc_c (zs : List Int) (A : Option Addr) (n cap : Nat) (w : World) (h : Ints w A zs) (hn : zs.length = n) (hm : zs.length ≤ 1000000000000) :
    Calls Try.prog 46 #[.slice A n cap, .func (Fn.func 47) #[] #[]] w fun e w' => e = .returned (.bool (!allInB zs 1 50)) ∧ w = w' := by
  go_enter Try.func46, Try.ntmps46
  go_wp2_with fail
  refine (IndexFunc_c zs _ _ _ _ h hn hm).mono ?_
  rintro e w1 ⟨r, rfl, r1, r2, hr, rfl⟩
  by_cases hr0 : r < 0
  · have hv := hr.1 hr0
    clear hr
    go_wp2
    go_ret
    exact ⟨by simp [hv] <;> omega, rfl⟩
  · have hv : allInB zs 1 50 = false := by
      cases e : allInB zs 1 50
      · rfl
      · exact absurd (hr.2 e) hr0
    clear hr
    go_wp2
    go_ret
    exact ⟨by simp [hv] <;> omega, rfl⟩
/-- Is this a pattern? -/
def patB (zs : List Int) : Bool := inB (zs.length : Int) 1 4 && allInB zs 1 50
theorem patB_pat {zs : List Int} (h : patB zs = true) : Pat zs := by
  simp only [patB, Bool.and_eq_true, inB_true, allInB_true] at h
  exact ⟨by omega, by omega, h.2⟩
def isD (zs : List Int) (a : Int) : Bool := patB zs && inB a 0 400 && drB zs a
theorem par_i (k : Nat) : (((k : Int) % 2) == 0) = (k % 2 == 0) := by rw [Bool.eq_iff_iff, beq_iff_eq, beq_iff_eq]; omega
theorem patternValid_c (zs : List Int) (A : Option Addr) (n cap : Nat) (w : World) (h : Ints w A zs) (hn : zs.length = n) (hm : zs.length ≤ 1000000000000) :
    Calls Try.prog 33 #[.slice A n cap] w fun e w' => e = .returned (.bool (patB zs)) ∧ w = w' := by
  subst hn
  cases hv : inB (zs.length : Int) 1 4
  all_goals
    go_enter Try.func33, Try.ntmps33
    go_wp2_with (first | (go_at_call 34; refine (in_c _ _ _ _).mono ?_; rintro e w' ⟨rfl, rfl⟩) | (go_at_call 46; refine (ContainsFunc_c zs _ _ _ _ h rfl hm).mono ?_; rintro e w' ⟨rfl, rfl⟩))
    go_ret
    exact ⟨ret_b (by simp [patB, hv]), rfl⟩
theorem validDash_c (zs : List Int) (A : Option Addr) (n cap : Nat) (w : World) (h : Ints w A zs) (hn : zs.length = n) (hm : zs.length ≤ 1000000000000) :
    Calls Try.prog 30 #[.slice A n cap] w fun e w' => e = .returned (.bool (patB zs)) ∧ w = w' := by
  subst hn
  cases hv : inB (zs.length : Int) 1 4
  all_goals
    go_enter Try.func30, Try.ntmps30
    go_wp2_with (first | (go_at_call 31; refine (inRange_c _ _ _ _).mono ?_; rintro e w' ⟨rfl, rfl⟩) | (go_at_call 44; refine (allIn_c zs _ _ _ _ _ _ h rfl (by omega)).mono ?_; rintro e w' ⟨rfl, rfl⟩))
    go_ret
    exact ⟨ret_b (by simp [patB, hv]), rfl⟩
set_option maxHeartbeats 1000000 in
theorem drawn_i (zs : List Int) (A : Option Addr) (n cap : Nat) (a : Int) (w : World) (h : Ints w A zs) (hn : zs.length = n) (hp : Pat zs) (a0 : 0 ≤ a) (a1 : a ≤ 2000000) :
    Calls Try.prog 35 #[.slice A n cap, .int .i64 a] w fun e w' => e = .returned (.bool (drB zs a)) ∧ w = w' := by
  subst hn
  obtain ⟨p1, p2, p3⟩ := hp
  have HP := Lib.hid (show Pat zs from ⟨p1, p2, p3⟩)
  obtain ⟨b, off, rfl, hb, hc⟩ := h p1
  have HC := Lib.hid hc
  have hne : ((zs.length : Int) == 0) = false := by rw [beq_eq_false_iff_ne]; omega
  have hlp : (1 : Int) ≤ (zs.length : Int) := by omega
  clear hc h p3
  go_enter Try.func35, Try.ntmps35
  go_wp2
  go_loop [1, 5] (fun t i => ∃ k : Nat, i = .int .i64 k ∧ t = .int .i64 (a - pre zs k) ∧ pre zs k ≤ a) (fun t _ => (intOf t).toNat)
  case atStart => exact ⟨0, rfl, by simp [pre], by simpa [pre] using a0⟩
  case round =>
    obtain ⟨k, rfl, rfl, hk⟩ := hrel
    have hbd := HP.out.bd k
    have hst := HP.out.step k
    have hsg := HP.out.seg k
    have hE := Lib.hid (show pre zs (k + 1) = pre zs k + seg zs k from rfl)
    have hEle : pre zs (k + 1) ≤ pre zs k + seg zs k ∧ pre zs k + seg zs k ≤ pre zs (k + 1) := by rw [hE.out]; omega
    have hmod : k % zs.length < zs.length := Nat.mod_lt _ p1
    have hmi : (0 : Int) ≤ (k : Int) % (zs.length : Int) := by omega
    have hmi2 : (k : Int) % (zs.length : Int) < (zs.length : Int) := by omega
    have hck : w.cell? ⟨b, off + k % zs.length, none⟩ = some (.int .i64 (seg zs k)) := HC.out _ hmod
    by_cases hlt : seg zs k ≤ a - pre zs k
    · go_wp2
      go_round
      case rel => exact ⟨k + 1, by go_num, by show Value.int .i64 _ = Value.int .i64 _; congr 1; omega, by omega⟩
      case measure => simp [intOf]; omega
    · go_wp2
      go_ret
      exact ⟨ret_b (by rw [drB_of HP.out a0 hk (by omega)]; first | exact par_i k | rfl), rfl⟩
theorem total_c (zs : List Int) (A : Option Addr) (n cap : Nat) (w : World) (h : Ints w A zs) (hn : zs.length = n) (hp : Pat zs) :
    Calls Try.prog 45 #[.slice A n cap] w fun e w' => e = .returned (.int .i64 (pre zs zs.length)) ∧ w = w' := by
  subst hn
  obtain ⟨p1, p2, p3⟩ := hp
  have HP := Lib.hid (show Pat zs from ⟨p1, p2, p3⟩)
  obtain ⟨b, off, rfl, hb, hc⟩ := h p1
  have HC := Lib.hid hc
  clear hc h p3
  go_enter Try.func45, Try.ntmps45
  go_wp2
  go_loop [3, 4] (fun s i => ∃ k : Nat, k ≤ zs.length ∧ i = .int .i64 k ∧ s = .int .i64 (pre zs k)) (fun _ i => zs.length - (intOf i).toNat)
  case atStart => exact ⟨0, Nat.zero_le _, rfl, rfl⟩
  case round =>
    obtain ⟨k, hk, rfl, rfl⟩ := hrel
    have hbd := HP.out.bd k
    have hst := HP.out.step k
    by_cases hlt : k < zs.length
    · have hs : seg zs k = nth zs k := by unfold seg; rw [Nat.mod_eq_of_lt hlt]
      have HS := Lib.hid hs
      have hsg := HP.out.seg k
      rw [hs] at hsg
      have hck := HC.out k hlt
      clear hs
      go_wp2
      go_round
      case rel => exact ⟨k + 1, by omega, by go_num, by show Value.int .i64 _ = Value.int .i64 _; congr 1; show pre zs k + nth zs k = pre zs k + seg zs k; rw [HS.out]⟩
      case measure => simp [intOf]; omega
    · have he : k = zs.length := by omega
      go_wp2
      go_ret
      exact ⟨ret_int (by first | rfl | rw [he]), rfl⟩
set_option maxHeartbeats 1000000 in
theorem drawn_s (zs : List Int) (A : Option Addr) (n cap : Nat) (a : Int) (w : World) (h : Ints w A zs) (hn : zs.length = n) (hp : Pat zs) (a0 : 0 ≤ a) (a1 : a ≤ 2000000) :
    Calls Try.prog 32 #[.slice A n cap, .int .i64 a] w fun e w' => e = .returned (.bool (drB zs a)) ∧ w = w' := by
  subst hn
  have HP := Lib.hid hp
  have HI := Lib.hid h
  obtain ⟨p1, p2, -⟩ := hp
  obtain ⟨b, off, rfl, hb, hc⟩ := h p1
  have HC := Lib.hid hc
  have hT := HP.out.bd zs.length
  have hm0 : 0 ≤ a % (2 * pre zs zs.length) := Int.emod_nonneg _ (by omega)
  have hm1 : a % (2 * pre zs zs.length) < 2 * pre zs zs.length := Int.emod_lt_of_pos _ (by omega)
  have hne : ((2 * pre zs zs.length) == 0) = false := by rw [beq_eq_false_iff_ne]; omega
  have hne2 : ((zs.length : Int) == 0) = false := by rw [beq_eq_false_iff_ne]; omega
  have HL := Lib.hid (show pre zs (2 * zs.length) = 2 * pre zs zs.length by rw [show 2 * zs.length = zs.length + zs.length by omega, pre_len]; omega)
  clear hc h
  go_enter Try.func32, Try.ntmps32
  go_wp2_with (go_at_call 45; refine (total_c zs _ _ _ _ HI.out rfl HP.out).mono ?_; rintro e w' ⟨rfl, rfl⟩)
  go_loop [5, 6] (fun s i => ∃ k : Nat, k ≤ 2 * zs.length ∧ i = .int .i64 k ∧ s = .int .i64 (a % (2 * pre zs zs.length) - pre zs k) ∧ pre zs k ≤ a % (2 * pre zs zs.length)) (fun _ i => 2 * zs.length - (intOf i).toNat)
  case atStart => exact ⟨0, Nat.zero_le _, rfl, by simp [pre], by simpa [pre] using hm0⟩
  case round =>
    obtain ⟨k, hk, rfl, rfl, hle⟩ := hrel
    have hbd := HP.out.bd k
    have hst := HP.out.step k
    have hsg := HP.out.seg k
    have hE := Lib.hid (show pre zs (k + 1) = pre zs k + seg zs k from rfl)
    have hEle : pre zs (k + 1) ≤ pre zs k + seg zs k ∧ pre zs k + seg zs k ≤ pre zs (k + 1) := by rw [hE.out]; omega
    have hmod : k % zs.length < zs.length := Nat.mod_lt _ p1
    have hmi : (0 : Int) ≤ (k : Int) % (zs.length : Int) := by omega
    have hmi2 : (k : Int) % (zs.length : Int) < (zs.length : Int) := by omega
    have hck : w.cell? ⟨b, off + k % zs.length, none⟩ = some (.int .i64 (seg zs k)) := HC.out _ hmod
    have hk2 : k < 2 * zs.length := by
      rcases Nat.lt_or_ge k (2 * zs.length) with hl | hl
      · exact hl
      · have e : k = 2 * zs.length := by omega
        rw [e, HL.out] at hle; omega
    have hk3 : (k : Int) < 2 * (zs.length : Int) := by omega
    by_cases hlt : seg zs k ≤ a % (2 * pre zs zs.length) - pre zs k
    · go_wp2
      go_round
      case rel => exact ⟨k + 1, by omega, by go_num, by show Value.int .i64 _ = Value.int .i64 _; congr 1; omega, by omega⟩
      case measure => simp [intOf]; omega
    · go_wp2
      go_ret
      exact ⟨ret_b (by rw [drB_spec HP.out (i := k) a0 hle (by omega)]; first | exact par_i k | rfl), rfl⟩
theorem IsDrawn_i (zs : List Int) (A : Option Addr) (n cap : Nat) (a : Int) (w : World) (h : Ints w A zs) (hn : zs.length = n) (hm : zs.length ≤ 1000000000000) :
    Calls Try.prog 15 #[.slice A n cap, .int .i64 a] w fun e w' => e = .returned (.bool (isD zs a)) ∧ w = w' := by
  cases hv : patB zs
  · go_enter Try.func15, Try.ntmps15
    go_wp2_with (first | (go_at_call 33; refine (patternValid_c zs _ _ _ _ h hn hm).mono ?_; rintro e w' ⟨rfl, rfl⟩))
    go_ret
    exact ⟨ret_b (by simp [isD, hv]), rfl⟩
  cases hu : inB a 0 400
  · go_enter Try.func15, Try.ntmps15
    go_wp2_with (first | (go_at_call 33; refine (patternValid_c zs _ _ _ _ h hn hm).mono ?_; rintro e w' ⟨rfl, rfl⟩) | (go_at_call 34; refine (in_c _ _ _ _).mono ?_; rintro e w' ⟨rfl, rfl⟩))
    go_ret
    exact ⟨ret_b (by simp [isD, hv, hu]), rfl⟩
  obtain ⟨u1, u2⟩ := inB_true.1 hu
  have HP := Lib.hid (patB_pat hv)
  go_enter Try.func15, Try.ntmps15
  go_wp2_with (first | (go_at_call 33; refine (patternValid_c zs _ _ _ _ h hn hm).mono ?_; rintro e w' ⟨rfl, rfl⟩) | (go_at_call 34; refine (in_c _ _ _ _).mono ?_; rintro e w' ⟨rfl, rfl⟩) | (go_at_call 35; refine (drawn_i zs _ _ _ _ _ h hn HP.out (by omega) (by omega)).mono ?_; rintro e w' ⟨rfl, rfl⟩))
  go_ret
  exact ⟨ret_b (by simp [isD, hv, hu]), rfl⟩
theorem IsDrawn_s (zs : List Int) (A : Option Addr) (n cap : Nat) (a : Int) (w : World) (h : Ints w A zs) (hn : zs.length = n) (hm : zs.length ≤ 1000000000000) :
    Calls Try.prog 13 #[.slice A n cap, .int .i64 a] w fun e w' => e = .returned (.bool (isD zs a)) ∧ w = w' := by
  cases hv : patB zs
  · go_enter Try.func13, Try.ntmps13
    go_wp2_with (first | (go_at_call 30; refine (validDash_c zs _ _ _ _ h hn hm).mono ?_; rintro e w' ⟨rfl, rfl⟩))
    go_ret
    exact ⟨ret_b (by simp [isD, hv]), rfl⟩
  cases hu : inB a 0 400
  · go_enter Try.func13, Try.ntmps13
    go_wp2_with (first | (go_at_call 30; refine (validDash_c zs _ _ _ _ h hn hm).mono ?_; rintro e w' ⟨rfl, rfl⟩) | (go_at_call 31; refine (inRange_c _ _ _ _).mono ?_; rintro e w' ⟨rfl, rfl⟩))
    go_ret
    exact ⟨ret_b (by simp [isD, hv, hu]), rfl⟩
  obtain ⟨u1, u2⟩ := inB_true.1 hu
  have HP := Lib.hid (patB_pat hv)
  go_enter Try.func13, Try.ntmps13
  go_wp2_with (first | (go_at_call 30; refine (validDash_c zs _ _ _ _ h hn hm).mono ?_; rintro e w' ⟨rfl, rfl⟩) | (go_at_call 31; refine (inRange_c _ _ _ _).mono ?_; rintro e w' ⟨rfl, rfl⟩) | (go_at_call 32; refine (drawn_s zs _ _ _ _ _ h hn HP.out (by omega) (by omega)).mono ?_; rintro e w' ⟨rfl, rfl⟩))
  go_ret
  exact ⟨ret_b (by simp [isD, hv, hu]), rfl⟩
end Go.Proofs.Ytjigoidcmlebhaa
