/-
  The walk of FnExactDashLength: it returns true for every list and every two numbers.
-/
import Derived.Test.YtjigoidcmlebhaaOwn
import Derived.Test.YtjigoidcmlebhaaDashI
namespace Go.Proofs.Ytjigoidcmlebhaa
open Go.RowKit
set_option linter.unusedSimpArgs false
set_option linter.unusedVariables false

set_option maxHeartbeats 2000000 in
theorem walk_FnExactDashLength (w : World) (a0 : Option Addr) (len0 cap0 : Nat) (z0 : List Int) (w0 : IsRow .i64 w a0 len0 cap0 z0) (a1 : Int) (w1 : (Lit.int .i64 a1).wf = true) (a2 : Int) (w2 : (Lit.int .i64 a2).wf = true) :
    Calls Try.prog 7 #[.slice a0 len0 cap0, .int .i64 a1, .int .i64 a2] w fun e w' => e = .returned (.bool true) ∧ Below w.heap.size w w' := by
  obtain ⟨hi0, hL, hlc, hcm, hwf⟩ := w0.ints
  clear w0 w1 w2 hwf
  generalize z0.take len0 = zs at *
  subst hL
  have H0 := Lib.hid hi0
  have HB := Lib.hid (Below.refl w.heap.size w)
  clear hi0
  unfold maxLen at hcm
  by_cases hl : 1048576 < zs.length
  · have hl2 : (1048576 : Int) < (zs.length : Int) := by omega
    go_enter Try.func7, Try.ntmps7
    go_wp2
    go_ret
    exact ⟨rfl, Below.refl _ _⟩
  have hl2 : ¬ (1048576 : Int) < (zs.length : Int) := by omega
  go_enter Try.func7, Try.ntmps7
  go_wp2_with (first | (go_at_call 19; refine (DashLength_s zs _ _ _ _ _ _ HA.out rfl (by omega)).mono ?_; rintro e wz ⟨rfl, rfl⟩) | fail)
  refine (toIntS_c zs _ _ _ _ H0.out rfl (by omega)).mono ?_
  rintro e w1 ⟨A1, cap1, rfl, hc1, ho1, hb1⟩
  have H0_ := Lib.hid (show Ints w1 a0 zs from H0.out.below hb1)
  clear H0
  have H0 := H0_
  clear H0_
  have HB_ := Lib.hid (below_then HB.out hb1)
  clear HB
  have HB := HB_
  clear HB_
  have hs1 := hb1.size
  have HA := Lib.hid (show Ints w1 A1 zs from ho1.ints)
  clear ho1 hb1
  go_wp2_with (first | (go_at_call 19; refine (DashLength_s zs _ _ _ _ _ _ HA.out rfl (by omega)).mono ?_; rintro e wz ⟨rfl, rfl⟩) | fail)
  refine (toIntS_c zs _ _ _ _ H0.out rfl (by omega)).mono ?_
  rintro e w2 ⟨A2, cap2, rfl, hc2, ho2, hb2⟩
  have H0_ := Lib.hid (show Ints w2 a0 zs from H0.out.below hb2)
  clear H0
  have H0 := H0_
  clear H0_
  have HA_ := Lib.hid (show Ints w2 A1 zs from HA.out.below hb2)
  clear HA
  have HA := HA_
  clear HA_
  have HB_ := Lib.hid (below_then HB.out hb2)
  clear HB
  have HB := HB_
  clear HB_
  have hs2 := hb2.size
  have HX := Lib.hid (show Ints w2 A2 zs from ho2.ints)
  clear ho2 hb2
  go_wp2_with (first | (go_at_call 19; refine (DashLength_s zs _ _ _ _ _ _ HA.out rfl (by omega)).mono ?_; rintro e wz ⟨rfl, rfl⟩) | fail)
  refine (DashLength_i zs _ _ _ _ _ _ HX.out rfl (by omega)).mono ?_
  rintro e w3 ⟨rfl, hb3⟩
  have H0_ := Lib.hid (show Ints w3 a0 zs from H0.out.below hb3)
  clear H0
  have H0 := H0_
  clear H0_
  have HA_ := Lib.hid (show Ints w3 A1 zs from HA.out.below hb3)
  clear HA
  have HA := HA_
  clear HA_
  have HX_ := Lib.hid (show Ints w3 A2 zs from HX.out.below hb3)
  clear HX
  have HX := HX_
  clear HX_
  have HB_ := Lib.hid (below_then HB.out hb3)
  clear HB
  have HB := HB_
  clear HB_
  have hs3 := hb3.size
  clear hb3
  go_wp2_with (first | (go_at_call 19; refine (DashLength_s zs _ _ _ _ _ _ HA.out rfl (by omega)).mono ?_; rintro e wz ⟨rfl, rfl⟩) | fail)
  refine (toIntS_c zs _ _ _ _ H0.out rfl (by omega)).mono ?_
  rintro e w4 ⟨A3, cap4, rfl, hc4, ho4, hb4⟩
  have H0_ := Lib.hid (show Ints w4 a0 zs from H0.out.below hb4)
  clear H0
  have H0 := H0_
  clear H0_
  have HA_ := Lib.hid (show Ints w4 A1 zs from HA.out.below hb4)
  clear HA
  have HA := HA_
  clear HA_
  have HX_ := Lib.hid (show Ints w4 A2 zs from HX.out.below hb4)
  clear HX
  have HX := HX_
  clear HX_
  have HB_ := Lib.hid (below_then HB.out hb4)
  clear HB
  have HB := HB_
  clear HB_
  have hs4 := hb4.size
  have HY := Lib.hid (show Ints w4 A3 zs from ho4.ints)
  clear ho4 hb4
  go_wp2_with (first | (go_at_call 19; refine (DashLength_s zs _ _ _ _ _ _ HA.out rfl (by omega)).mono ?_; rintro e wz ⟨rfl, rfl⟩) | fail)
  refine (eqIntS_c zs _ _ _ _ _ _ _ HX.out HY.out rfl rfl (by omega)).mono ?_
  rintro e w5 ⟨rfl, hb5, hz5⟩
  have H0_ := Lib.hid (show Ints w5 a0 zs from H0.out.below hb5)
  clear H0
  have H0 := H0_
  clear H0_
  have HA_ := Lib.hid (show Ints w5 A1 zs from HA.out.below hb5)
  clear HA
  have HA := HA_
  clear HA_
  have HX_ := Lib.hid (show Ints w5 A2 zs from HX.out.below hb5)
  clear HX
  have HX := HX_
  clear HX_
  have HY_ := Lib.hid (show Ints w5 A3 zs from HY.out.below hb5)
  clear HY
  have HY := HY_
  clear HY_
  have HB_ := Lib.hid (below_then HB.out hb5)
  clear HB
  have HB := HB_
  clear HB_
  have hs5 := hb5.size
  clear hb5
  go_wp2
  go_ret
  exact ⟨rfl, HB.out⟩

end Go.Proofs.Ytjigoidcmlebhaa
