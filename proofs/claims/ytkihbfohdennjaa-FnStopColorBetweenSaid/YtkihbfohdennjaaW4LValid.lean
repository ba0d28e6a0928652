/-
  The walk of FnValidStops: it returns true for every code.
-/
import Derived.Test.YtkihbfohdennjaaStopE
import Derived.Test.YtkihbfohdennjaaStopCA
import Derived.Deep.RegionHeld3
import Derived.Deep.DrawnRows
import Derived.Deep.DeepCutAuto
namespace Go.Proofs.Ytkihbfohdennjaa
open Go.RowKit
set_option linter.unusedSimpArgs false
set_option linter.unusedVariables false

attribute [local go_sem ↓] Go.wp_at_zero Go.wp_at_succ
theorem ints_back {w w' : World} {A : Option Addr} {zs : List Int} (h : Ints w A zs) (hb : Below w.heap.size w w') : Ints w' A zs := h.below hb
theorem Ints.alloc {w : World} {A : Option Addr} {zs : List Int} (h : Ints w A zs) (o : Obj) : Ints (w.alloc o) A zs := h.below ((Below.refl _ _).alloc (Nat.le_refl _) o)
theorem Ints.drew {w : World} {A : Option Addr} {zs : List Int} (h : Ints w A zs) : Ints w.drew A zs := h
theorem Ints.take5 {w : World} {A : Option Addr} {zs : List Int} (h : Ints w A zs) (m : Nat) : Ints w A (zs.take m) := fun hn => by
  rw [List.length_take] at hn
  obtain ⟨b, off, e, hb, hc⟩ := h (by omega)
  refine ⟨b, off, e, hb, fun i hi => ?_⟩
  rw [List.length_take] at hi
  rw [hc i (by omega), nth_take (by omega)]
section
variable {zs : List Int} {n m : Nat}
theorem take_at {k : Nat} (hk : k < m) : sAt (zs.take (5 * m)) k = sAt zs k ∧ sR (zs.take (5 * m)) k = sR zs k ∧ sG (zs.take (5 * m)) k = sG zs k ∧ sB (zs.take (5 * m)) k = sB zs k ∧ sA (zs.take (5 * m)) k = sA zs k :=
  ⟨nth_take (by omega), nth_take (by omega), nth_take (by omega), nth_take (by omega), nth_take (by omega)⟩
theorem take_stop {k : Nat} (hk : k < m) : stopB (zs.take (5 * m)) k = stopB zs k := by
  obtain ⟨a, r, g, b, c⟩ := take_at (zs := zs) hk
  have hp : prevAt (zs.take (5 * m)) k = prevAt zs k := by
    cases k with
    | zero => rfl
    | succ k => exact (take_at (zs := zs) (show k < m by omega)).1
  unfold stopB colAt; rw [a, r, g, b, c, hp]
theorem take_all {k : Nat} (hk : k ≤ m) : allS (zs.take (5 * m)) k = allS zs k := by
  induction k with
  | zero => rfl
  | succ k ih => simp only [allS]; rw [ih (by omega), take_stop (by omega)]
theorem stops_take (h : stopsB zs n = true) (h1 : 1 ≤ m) (h2 : m ≤ n) : stopsB (zs.take (5 * m)) m = true := by
  simp only [stopsB, Bool.and_eq_true, inB_true] at h ⊢
  rw [take_all (Nat.le_refl _)]
  exact ⟨allS_le h.1 h2, by omega⟩
end
set_option maxHeartbeats 4000000 in
theorem walk_FnValidStops (w : World) (a0 : Option Addr) (len0 cap0 : Nat) (z0 : List Int) (w0 : IsRow .u8 w a0 len0 cap0 z0) :
    Calls Try.prog 5 #[.slice a0 len0 cap0] w fun e w' => e = .returned (.bool true) ∧ Below w.heap.size w w' := by
  have HC := Lib.hid w0.code
  clear w0
  by_cases hl : 1048576 < len0
  · have hl2 : (1048576 : Int) < (len0 : Int) := by omega
    go_enter Try.func5, Try.ntmps5
    go_wp2
    go_ret
    exact ⟨rfl, Below.refl _ _⟩
  have hl2 : ¬ (1048576 : Int) < (len0 : Int) := by omega
  go_enter Try.func5, Try.ntmps5
  go_wp2_with fail
  refine (DrawValidStops_c _ _ _ _ HC.out).mono ?_
  rintro e w1 ⟨zs, A1, cap1, n, hn5, hzl, hca, hcb, rfl, hi1, hb1⟩
  have HM := Lib.hid hi1
  have HB := Lib.hid hb1
  have HCM := Lib.hid hcb
  have hcb2 := hcb
  unfold maxLen at hcb2
  clear hi1 hb1 hcb
  go_wp2_with fail
  refine (ValidStops_i zs _ _ _ _ HM.out hzl (by omega)).mono ?_
  rintro e w2 ⟨rfl, hb2⟩
  have hb := (show Below w1.heap.size w1 w2 from below_then (by go_grown) hb2)
  have HM_ := Lib.hid (show Ints w2 A1 zs from HM.out.below hb)
  clear HM
  have HM := HM_
  clear HM_
  have HB_ := Lib.hid (show Below w.heap.size w w2 from below_then HB.out hb)
  clear HB
  have HB := HB_
  clear HB_
  have hs2 := hb.size
  clear hb hb2
  cases hv : stopsB zs n
  · go_wp2_with fail
    refine (ValidStops_s zs _ _ _ _ HM.out hzl (by omega)).mono ?_
    rintro e w3 ⟨rfl, hb3⟩
    have hb := (show Below w2.heap.size w2 w3 from below_then (by go_grown) hb3)
    have HM_ := Lib.hid (show Ints w3 A1 zs from HM.out.below hb)
    clear HM
    have HM := HM_
    clear HM_
    have HB_ := Lib.hid (show Below w.heap.size w w3 from below_then HB.out hb)
    clear HB
    have HB := HB_
    clear HB_
    have hs3 := hb.size
    clear hb hb3
    go_wp2_with fail
    refine (ValidStops_s zs _ _ _ _ HM.out hzl (by omega)).mono ?_
    rintro e w4 ⟨rfl, hb4⟩
    have hb := (show Below w3.heap.size w3 w4 from below_then (by go_grown) hb4)
    have HM_ := Lib.hid (show Ints w4 A1 zs from HM.out.below hb)
    clear HM
    have HM := HM_
    clear HM_
    have HB_ := Lib.hid (show Below w.heap.size w w4 from below_then HB.out hb)
    clear HB
    have HB := HB_
    clear HB_
    have hs4 := hb.size
    clear hb hb4
    rw [hv]
    go_wp2
    go_ret
    exact ⟨rfl, HB.out⟩
  by_cases h2 : n < 2
  · go_wp2_with fail
    refine (ValidStops_s zs _ _ _ _ HM.out hzl (by omega)).mono ?_
    rintro e w3 ⟨rfl, hb3⟩
    have hb := (show Below w2.heap.size w2 w3 from below_then (by go_grown) hb3)
    have HM_ := Lib.hid (show Ints w3 A1 zs from HM.out.below hb)
    clear HM
    have HM := HM_
    clear HM_
    have HB_ := Lib.hid (show Below w.heap.size w w3 from below_then HB.out hb)
    clear HB
    have HB := HB_
    clear HB_
    have hs3 := hb.size
    clear hb hb3
    go_wp2_with fail
    refine (ValidStops_s zs _ _ _ _ HM.out hzl (by omega)).mono ?_
    rintro e w4 ⟨rfl, hb4⟩
    have hb := (show Below w3.heap.size w3 w4 from below_then (by go_grown) hb4)
    have HM_ := Lib.hid (show Ints w4 A1 zs from HM.out.below hb)
    clear HM
    have HM := HM_
    clear HM_
    have HB_ := Lib.hid (show Below w.heap.size w w4 from below_then HB.out hb)
    clear HB
    have HB := HB_
    clear HB_
    have hs4 := hb.size
    clear hb hb4
    rw [hv]
    go_wp2
    go_ret
    exact ⟨rfl, HB.out⟩
  obtain ⟨bb, off, rfl, -, -⟩ := HM.out (by omega)
  have HT := Lib.hid (stops_take (m := n - 1) hv (by omega) (by omega))
  have hj : IntKind.i64.wrap ((n : Int) - 1) = ((n - 1 : Nat) : Int) := by rw [IntWalk.i64_in _ (by omega)]; omega
  have hj1 : (0 : Int) ≤ ((n - 1 : Nat) : Int) := by omega
  have hj2 : ((n - 1 : Nat) : Int) ≤ (cap1 : Int) := by omega
  have hcap : ¬ cap1 = 0 := by omega
  go_wp2_with fail
  refine (ValidStops_s zs _ _ _ _ HM.out hzl (by omega)).mono ?_
  rintro e w3 ⟨rfl, hb3⟩
  have hb := (show Below w2.heap.size w2 w3 from below_then (by go_grown) hb3)
  have HM_ := Lib.hid (show Ints w3 (some ⟨bb, off, none⟩) zs from HM.out.below hb)
  clear HM
  have HM := HM_
  clear HM_
  have HB_ := Lib.hid (show Below w.heap.size w w3 from below_then HB.out hb)
  clear HB
  have HB := HB_
  clear HB_
  have hs3 := hb.size
  clear hb hb3
  go_wp2_with fail
  refine (ValidStops_i (zs.take (5 * (n - 1))) _ _ _ _ (HM.out.take5 _) (by rw [List.length_take]; omega) (by omega)).mono ?_
  rintro e w4 ⟨rfl, hb4⟩
  have hb := (show Below w3.heap.size w3 w4 from below_then (by go_grown) hb4)
  have HM_ := Lib.hid (show Ints w4 (some ⟨bb, off, none⟩) zs from HM.out.below hb)
  clear HM
  have HM := HM_
  clear HM_
  have HB_ := Lib.hid (show Below w.heap.size w w4 from below_then HB.out hb)
  clear HB
  have HB := HB_
  clear HB_
  have hs4 := hb.size
  clear hb hb4
  rw [HT.out]
  go_wp2
  go_ret
  exact ⟨rfl, HB.out⟩

end Go.Proofs.Ytkihbfohdennjaa
