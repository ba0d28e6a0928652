/-
  The walk of FnExactSpanCover: it returns true for every list of parts and every column.
-/
import Derived.Test.YtjfbbieacpnpkaaCover
import Derived.Test.YtjfbbieacpnpkaaGrid
namespace Go.Proofs.Ytjfbbieacpnpkaa
open Go.RowKit
set_option linter.unusedSimpArgs false
set_option linter.unusedVariables false

theorem szSpanS_c (A : Option Addr) (n cap : Nat) (t : Int) (w : World) (ht : n ≤ 1000000000000 ∧ -1000000000000 ≤ t ∧ t ≤ 1000000000000) : Calls Try.prog 10 #[.slice A n cap, .int .i64 t] w fun e w' => e = .returned (.int .i64 (if t < (n : Int) then -1 else t - (n : Int))) ∧ w = w' := by
  obtain ⟨h1, h2, h3⟩ := ht
  by_cases h : t < (n : Int)
  · rw [if_pos h]
    go_enter Try.func10, Try.ntmps10
    go_wp2
    go_ret
    exact ⟨rfl, rfl⟩
  · rw [if_neg h]
    go_enter Try.func10, Try.ntmps10
    go_wp2
    go_ret
    exact ⟨rfl, rfl⟩
set_option maxHeartbeats 2000000 in
theorem walk_FnExactSpanCover (w : World) (a0 : Option Addr) (len0 cap0 : Nat) (f0 : Nat → Nat → Int) (w0 : IsGrid 2 w a0 len0 cap0 f0) (a1 : Int) (w1 : (Lit.int .i64 a1).wf = true) :
    Calls Try.prog 3 #[.slice a0 len0 cap0, .int .i64 a1] w fun e w' => e = .returned (.bool true) ∧ Below w.heap.size w w' := by
  obtain ⟨l, rfl, hi0, hlc, hcm, hwf⟩ := w0.pairs
  clear w0 w1 hwf f0
  have H0 := Lib.hid hi0
  have HB := Lib.hid (Below.refl w.heap.size w)
  clear hi0
  unfold maxLen at hcm
  by_cases hl : 1048576 < l.length
  · have hl2 : (1048576 : Int) < (l.length : Int) := by omega
    go_enter Try.func3, Try.ntmps3
    go_wp2
    go_ret
    exact ⟨rfl, Below.refl _ _⟩
  have hl2 : ¬ (1048576 : Int) < (l.length : Int) := by omega
  go_enter Try.func3, Try.ntmps3
  go_wp2_with (first | (go_at_call 10; refine (szSpanS_c _ _ _ _ _ (by omega)).mono ?_; rintro e wz ⟨rfl, rfl⟩) | fail)
  refine (toSpanS_c l _ _ _ _ H0.out rfl (by omega)).mono ?_
  rintro e w1 ⟨A1, cap1, rfl, hc1, ho1, hb1⟩
  have H0_ := Lib.hid (show Ints w1 a0 (flat l) from H0.out.below hb1)
  clear H0
  have H0 := H0_
  clear H0_
  have HB_ := Lib.hid (below_then HB.out hb1)
  clear HB
  have HB := HB_
  clear HB_
  have hs1 := hb1.size
  have HA := Lib.hid (show Ints w1 A1 (flat l) from ho1.ints)
  clear ho1 hb1
  go_wp2_with (first | (go_at_call 10; refine (szSpanS_c _ _ _ _ _ (by omega)).mono ?_; rintro e wz ⟨rfl, rfl⟩) | fail)
  refine (SpanCover_s l _ _ _ _ _ HA.out rfl (by omega)).mono ?_
  rintro e w2 ⟨rfl, hb2⟩
  have H0_ := Lib.hid (show Ints w2 a0 (flat l) from H0.out.below hb2)
  clear H0
  have H0 := H0_
  clear H0_
  have HA_ := Lib.hid (show Ints w2 A1 (flat l) from HA.out.below hb2)
  clear HA
  have HA := HA_
  clear HA_
  have HB_ := Lib.hid (below_then HB.out hb2)
  clear HB
  have HB := HB_
  clear HB_
  have hs2 := hb2.size
  clear hb2
  go_wp2_with (first | (go_at_call 10; refine (szSpanS_c _ _ _ _ _ (by omega)).mono ?_; rintro e wz ⟨rfl, rfl⟩) | fail)
  refine (toSpanS_c l _ _ _ _ H0.out rfl (by omega)).mono ?_
  rintro e w3 ⟨A2, cap3, rfl, hc3, ho3, hb3⟩
  have H0_ := Lib.hid (show Ints w3 a0 (flat l) from H0.out.below hb3)
  clear H0
  have H0 := H0_
  clear H0_
  have HA_ := Lib.hid (show Ints w3 A1 (flat l) from HA.out.below hb3)
  clear HA
  have HA := HA_
  clear HA_
  have HB_ := Lib.hid (below_then HB.out hb3)
  clear HB
  have HB := HB_
  clear HB_
  have hs3 := hb3.size
  have HX := Lib.hid (show Ints w3 A2 (flat l) from ho3.ints)
  clear ho3 hb3
  go_wp2_with (first | (go_at_call 10; refine (szSpanS_c _ _ _ _ _ (by omega)).mono ?_; rintro e wz ⟨rfl, rfl⟩) | fail)
  refine (SpanCover_i l _ _ _ _ _ HX.out rfl (by omega)).mono ?_
  rintro e w4 ⟨rfl, hb4⟩
  have H0_ := Lib.hid (show Ints w4 a0 (flat l) from H0.out.below hb4)
  clear H0
  have H0 := H0_
  clear H0_
  have HA_ := Lib.hid (show Ints w4 A1 (flat l) from HA.out.below hb4)
  clear HA
  have HA := HA_
  clear HA_
  have HX_ := Lib.hid (show Ints w4 A2 (flat l) from HX.out.below hb4)
  clear HX
  have HX := HX_
  clear HX_
  have HB_ := Lib.hid (below_then HB.out hb4)
  clear HB
  have HB := HB_
  clear HB_
  have hs4 := hb4.size
  clear hb4
  go_wp2_with (first | (go_at_call 10; refine (szSpanS_c _ _ _ _ _ (by omega)).mono ?_; rintro e wz ⟨rfl, rfl⟩) | fail)
  refine (toSpanS_c l _ _ _ _ H0.out rfl (by omega)).mono ?_
  rintro e w5 ⟨A3, cap5, rfl, hc5, ho5, hb5⟩
  have H0_ := Lib.hid (show Ints w5 a0 (flat l) from H0.out.below hb5)
  clear H0
  have H0 := H0_
  clear H0_
  have HA_ := Lib.hid (show Ints w5 A1 (flat l) from HA.out.below hb5)
  clear HA
  have HA := HA_
  clear HA_
  have HX_ := Lib.hid (show Ints w5 A2 (flat l) from HX.out.below hb5)
  clear HX
  have HX := HX_
  clear HX_
  have HB_ := Lib.hid (below_then HB.out hb5)
  clear HB
  have HB := HB_
  clear HB_
  have hs5 := hb5.size
  have HY := Lib.hid (show Ints w5 A3 (flat l) from ho5.ints)
  clear ho5 hb5
  go_wp2_with (first | (go_at_call 10; refine (szSpanS_c _ _ _ _ _ (by omega)).mono ?_; rintro e wz ⟨rfl, rfl⟩) | fail)
  refine (eqSpanS_c l _ _ _ _ _ _ _ HX.out HY.out rfl rfl (by omega)).mono ?_
  rintro e w6 ⟨rfl, hb6⟩
  have H0_ := Lib.hid (show Ints w6 a0 (flat l) from H0.out.below hb6)
  clear H0
  have H0 := H0_
  clear H0_
  have HA_ := Lib.hid (show Ints w6 A1 (flat l) from HA.out.below hb6)
  clear HA
  have HA := HA_
  clear HA_
  have HX_ := Lib.hid (show Ints w6 A2 (flat l) from HX.out.below hb6)
  clear HX
  have HX := HX_
  clear HX_
  have HY_ := Lib.hid (show Ints w6 A3 (flat l) from HY.out.below hb6)
  clear HY
  have HY := HY_
  clear HY_
  have HB_ := Lib.hid (below_then HB.out hb6)
  clear HB
  have HB := HB_
  clear HB_
  have hs6 := hb6.size
  clear hb6
  go_wp2
  go_ret
  exact ⟨rfl, HB.out⟩

end Go.Proofs.Ytjfbbieacpnpkaa
