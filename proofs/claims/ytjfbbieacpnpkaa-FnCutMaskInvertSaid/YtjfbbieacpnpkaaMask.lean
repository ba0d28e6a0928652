/-
  Masks: which are valid; what is left of them; by the program and by the reference.
-/
import Derived.Test.YtjfbbieacpnpkaaOwn
namespace Go.Proofs.Ytjfbbieacpnpkaa
open Go.RowKit
set_option linter.unusedSimpArgs false
set_option linter.unusedVariables false

theorem mask_f (x : Int) (w : World) : Calls Try.prog 51 #[.int .i64 x] w fun e w' => e = .returned (.bool (!inB x 0 16)) ∧ w = w' := by
  go_enter Try.func51, Try.ntmps51
  go_wp2_with (go_at_call 33; refine (in_c _ _ _ _).mono ?_; rintro e w' ⟨rfl, rfl⟩)
  go_ret
  exact ⟨rfl, rfl⟩
def Found (lo hi : Int) (zs : List Int) (w : World) (e : Ending) (w' : World) : Prop := ∃ r : Int, e = .returned (.int .i64 r) ∧ -1 ≤ r ∧ r ≤ 4611686018427387904 ∧ (r < 0 ↔ allInB zs lo hi = true) ∧ w = w'
theorem IndexFunc_c (zs : List Int) (A : Option Addr) (n cap : Nat) (w : World) (h : Ints w A zs) (hn : zs.length = n) (hm : zs.length ≤ 1000000000000) :
    Calls Try.prog 57 #[.slice A n cap, .func (Fn.func 51) #[] #[]] w (Found 0 16 zs w) := by
  subst hn
  have HA := Lib.hid h
  clear h
  have hm1 : (zs.length : Int) ≤ 1000000000000 := by omega
  go_enter Try.func57, Try.ntmps57
  go_wp2
  go_loop [8] (fun i => ∃ k : Nat, k ≤ zs.length ∧ i = .int .i64 k ∧ ∀ j, j < k → inB (nth zs j) 0 16 = true) (fun i => zs.length - (intOf i).toNat)
  case atStart => exact ⟨0, Nat.zero_le _, rfl, fun j hj => absurd hj (by omega)⟩
  case round =>
    obtain ⟨k, hk, rfl, hall0⟩ := hrel
    have hall := Lib.hid hall0
    clear hall0
    by_cases hlt : k < zs.length
    · obtain ⟨b, off, rfl, hb, hc⟩ := HA.out (by omega)
      have hck := hc k hlt
      clear hc
      cases hin : inB (nth zs k) 0 16
      · go_wp2_with (go_at_call 51; refine (mask_f _ _).mono ?_; rintro e w' ⟨rfl, rfl⟩)
        go_ret
        exact ⟨(k : Int), rfl, by omega, by omega, ⟨fun h => absurd h (by omega), fun h => by rw [allInB_false hlt hin] at h; cases h⟩, rfl⟩
      · go_wp2_with (go_at_call 51; refine (mask_f _ _).mono ?_; rintro e w' ⟨rfl, rfl⟩)
        go_round
        case rel =>
          refine ⟨k + 1, by omega, by go_num, fun j hj => ?_⟩
          by_cases hjk : j = k
          · subst hjk; exact hin
          · exact hall.out j (by omega)
        case measure => simp [intOf]; omega
    · have he : k = zs.length := by omega
      go_wp2
      go_ret
      exact ⟨-1, rfl, by omega, by omega, ⟨fun _ => allInB_true.2 (by subst he; exact hall.out), fun _ => by omega⟩, rfl⟩
theorem ContainsFunc_c (zs : List Int) (A : Option Addr) (n cap : Nat) (w : World) (h : Ints w A zs) (hn : zs.length = n) (hm : zs.length ≤ 1000000000000) :
    Calls Try.prog 50 #[.slice A n cap, .func (Fn.func 51) #[] #[]] w fun e w' => e = .returned (.bool (!allInB zs 0 16)) ∧ w = w' := by
  go_enter Try.func50, Try.ntmps50
  go_wp2_with fail
  refine (IndexFunc_c zs _ _ _ _ h hn hm).mono ?_
  rintro e w1 ⟨r, rfl, r1, r2, hr, rfl⟩
  by_cases hr0 : r < 0
  · have hv := hr.1 hr0
    clear hr
    go_wp2
    go_ret
    exact ⟨by simp [hv] <;> omega, rfl⟩
  · have hv : allInB zs 0 16 = false := by
      cases e : allInB zs 0 16
      · rfl
      · exact absurd (hr.2 e) hr0
    clear hr
    go_wp2
    go_ret
    exact ⟨by simp [hv] <;> omega, rfl⟩
/-- Is this a mask? -/
def maskB (zs : List Int) : Bool := decide (zs.length ≤ 144) && allInB zs 0 16
theorem maskB_true {zs : List Int} : maskB zs = true ↔ zs.length ≤ 144 ∧ ∀ i, i < zs.length → 0 ≤ nth zs i ∧ nth zs i ≤ 16 := by
  simp only [maskB, Bool.and_eq_true, decide_eq_true_eq, allInB_true, inB_true]
theorem maskValid_c (zs : List Int) (A : Option Addr) (n cap : Nat) (w : World) (h : Ints w A zs) (hn : zs.length = n) (hm : zs.length ≤ 1000000000000) :
    Calls Try.prog 36 #[.slice A n cap] w fun e w' => e = .returned (.bool (maskB zs)) ∧ w = w' := by
  by_cases hl : zs.length ≤ 144
  · have hl1 : (n : Int) ≤ 144 := by omega
    go_enter Try.func36, Try.ntmps36
    go_wp2_with (go_at_call 50; refine (ContainsFunc_c zs _ _ _ _ h hn hm).mono ?_; rintro e w' ⟨rfl, rfl⟩)
    go_ret
    exact ⟨by simp [maskB, hl], rfl⟩
  · have hl1 : ¬ (n : Int) ≤ 144 := by omega
    go_enter Try.func36, Try.ntmps36
    go_wp2_with fail
    go_ret
    exact ⟨by simp [maskB, hl], rfl⟩
theorem validMask_c (zs : List Int) (A : Option Addr) (n cap : Nat) (w : World) (h : Ints w A zs) (hn : zs.length = n) (hm : zs.length ≤ 1000000000000) :
    Calls Try.prog 35 #[.slice A n cap] w fun e w' => e = .returned (.bool (maskB zs)) ∧ w = w' := by
  by_cases hl : zs.length ≤ 144
  · have hl1 : (n : Int) ≤ 144 := by omega
    go_enter Try.func35, Try.ntmps35
    go_wp2_with (go_at_call 49; refine (allIn_c zs _ _ _ _ _ _ h hn (by omega)).mono ?_; rintro e w' ⟨rfl, rfl⟩)
    go_ret
    exact ⟨by simp [maskB, hl], rfl⟩
  · have hl1 : ¬ (n : Int) ≤ 144 := by omega
    go_enter Try.func35, Try.ntmps35
    go_wp2_with fail
    go_ret
    exact ⟨by simp [maskB, hl], rfl⟩
/-- What is left of a mask; what two masks have. -/
def invM (zs : List Int) : List Int := zs.map fun x => 16 - x
theorem nth_invM {zs : List Int} {i : Nat} (h : i < zs.length) : nth (invM zs) i = 16 - nth zs i := by
  rw [nth_getElem (by simpa [invM] using h), nth_getElem h]; simp [invM]
theorem invM_length (zs : List Int) : (invM zs).length = zs.length := by simp [invM]
def cutM (xs ys : List Int) : List Int := (List.range xs.length).map fun i => rnd (nth xs i * nth ys i) 16
theorem cutM_length (xs ys : List Int) : (cutM xs ys).length = xs.length := by simp [cutM]
theorem nth_cutM {xs ys : List Int} {i : Nat} (h : i < xs.length) : nth (cutM xs ys) i = rnd (nth xs i * nth ys i) 16 := by
  rw [nth_getElem (by rw [cutM_length]; exact h)]; simp [cutM]
/-- The value that a mask's function hands back: nil, or the new list. -/
def invV (zs : List Int) : List Int := if maskB zs = true then invM zs else []
def cutV (xs ys : List Int) : List Int := if (maskB xs && maskB ys && decide (xs.length = ys.length)) = true then cutM xs ys else []
theorem own_of_row {w : World} {base n : Nat} {v : Value} {zs : List Int} (h : w.ownsRow base 3 1 v n (zs.map (Value.int .i64))) : ∃ A cap, v = .slice A n cap ∧ n ≤ cap ∧ zs.length = n ∧ Own base w.heap.size w A zs := by
  obtain ⟨hl, hv⟩ := h
  simp only [List.length_map, Nat.mul_one] at hl
  rcases hv with ⟨rfl, rfl⟩ | ⟨g, cap, cur, rfl, hb, hh, hnc, hcm, hsz, htk⟩
  · exact ⟨none, 0, rfl, Nat.le_refl _, hl, fun hn => by omega⟩
  · refine ⟨some ⟨g, 0, none⟩, cap, rfl, hnc, hl, fun hn => ⟨g, rfl, hb, ?_, cur, hh, fun i hi => ?_⟩⟩
    · rcases Nat.lt_or_ge g w.heap.size with hlt | hge
      · exact hlt
      · rw [Array.getElem?_eq_none hge] at hh; cases hh
    · have e : (cur.toList.take (n * 1))[i]? = (zs.map (Value.int .i64))[i]? := by rw [htk]
      rw [List.getElem?_take_of_lt (by omega), List.getElem?_map, List.getElem?_eq_getElem hi] at e
      rw [← Array.getElem?_toList, e]; simp [nth_getElem hi]
end Go.Proofs.Ytjfbbieacpnpkaa
