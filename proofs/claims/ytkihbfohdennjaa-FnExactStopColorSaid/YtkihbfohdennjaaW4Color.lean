/-
  The walk of FnExactStopColor: it returns true for every slice of stops and every number.
-/
import Derived.Test.YtkihbfohdennjaaBox4
import Derived.Test.YtkihbfohdennjaaGrid5
namespace Go.Proofs.Ytkihbfohdennjaa
open Go.RowKit
set_option linter.unusedSimpArgs false
set_option linter.unusedVariables false

attribute [local go_sem ↓] Go.wp_at_zero Go.wp_at_succ
set_option maxHeartbeats 4000000 in
theorem walk_FnExactStopColor (w : World) (a0 : Option Addr) (len0 cap0 : Nat) (zs : List Int) (w0 : Flat5 w a0 len0 cap0 zs) (a1 : Int) (w1 : (Lit.int .i64 a1).wf = true) :
    Calls Try.prog 4 #[.slice a0 len0 cap0, .int .i64 a1] w fun e w' => e = .returned (.bool true) ∧ Below w.heap.size w w' := by
  obtain ⟨hlen, hlc, hcm, hi0⟩ := w0
  clear w1
  unfold maxLen at hcm
  have H0 := Lib.hid hi0
  clear hi0
  by_cases hbig : 1048576 < len0
  · have hb2 : (1048576 : Int) < (len0 : Int) := by omega
    go_enter Try.func4, Try.ntmps4
    go_wp2
    go_ret
    exact ⟨rfl, by go_grown⟩
  have hb2 : (len0 : Int) ≤ 1048576 := by omega
  have hlm : len0 ≤ 1000000000 := by omega
  have hlm2 : len0 ≤ 1000000000000 := by omega
  go_enter Try.func4, Try.ntmps4
  obtain ⟨p, hp⟩ := place_ex zs len0 a1
  have HP := Lib.hid hp
  clear hp
  go_wp2_with (first | (go_at_call 9; go_in) | fail)
  refine (toStopS_c zs _ _ _ _ (H0.out.below (by go_grown)) hlen hlm).mono ?_
  rintro e w1 ⟨Aa, ca, rfl, hca, ho1, hb1⟩
  have hb := (show Below w.heap.size w w1 from below_then (by go_grown) hb1)
  have H0_ := Lib.hid (show Ints w1 a0 zs from H0.out.below hb)
  clear H0
  have H0 := H0_
  clear H0_
  have HB := Lib.hid (show Below w.heap.size w w1 from hb)
  have hs1 := hb.size
  clear hb
  clear hb1
  have Ia := Lib.hid (show Ints w1 Aa zs from ho1.ints)
  clear ho1
  go_wp2_with fail
  refine (StopColor_s zs _ _ _ _ _ Ia.out hlen hca.1 hca.2 hlm2 p HP.out).mono ?_
  rintro e w2 ⟨rfl, hb2⟩
  have hb := (show Below w1.heap.size w1 w2 from below_then (by go_grown) hb2)
  have H0_ := Lib.hid (show Ints w2 a0 zs from H0.out.below hb)
  clear H0
  have H0 := H0_
  clear H0_
  have Ia_ := Lib.hid (show Ints w2 Aa zs from Ia.out.below hb)
  clear Ia
  have Ia := Ia_
  clear Ia_
  have HB_ := Lib.hid (show Below w.heap.size w w2 from below_then HB.out hb)
  clear HB
  have HB := HB_
  clear HB_
  have hs2 := hb.size
  clear hb
  clear hb2
  go_wp2_with fail
  refine (toStopS_c zs _ _ _ _ (H0.out.below (by go_grown)) hlen hlm).mono ?_
  rintro e w3 ⟨Ax, cx, rfl, hcx, ho3, hb3⟩
  have hb := (show Below w2.heap.size w2 w3 from below_then (by go_grown) hb3)
  have RB := Lib.hid (show Row w3 (w2.heap.size) 30 4 (col4 (.int .i64 (ssel (stopsB zs len0) (vC (sR zs) zs len0 p a1))) (.int .i64 (ssel (stopsB zs len0) (vC (sG zs) zs len0 p a1))) (.int .i64 (ssel (stopsB zs len0) (vC (sB zs) zs len0 p a1))) (.int .i64 (ssel (stopsB zs len0) (vC (sA zs) zs len0 p a1)))) from Row.back (by (repeat (first | ((with_reducible refine row_box4x _ _ _ _ _ _ _ ?_) <;> (go_size; done)) | (with_reducible refine Row.alloc ?_ _) | (with_reducible refine Row.drew ?_)))) hb3)
  have H0_ := Lib.hid (show Ints w3 a0 zs from H0.out.below hb)
  clear H0
  have H0 := H0_
  clear H0_
  have Ia_ := Lib.hid (show Ints w3 Aa zs from Ia.out.below hb)
  clear Ia
  have Ia := Ia_
  clear Ia_
  have HB_ := Lib.hid (show Below w.heap.size w w3 from below_then HB.out hb)
  clear HB
  have HB := HB_
  clear HB_
  have hs3 := hb.size
  clear hb
  clear hb3
  have Ix := Lib.hid (show Ints w3 Ax zs from ho3.ints)
  clear ho3
  go_wp2_with fail
  refine (StopColor_i zs _ _ _ _ _ Ix.out hlen hcx.1 hcx.2 hlm2 p HP.out).mono ?_
  rintro e w4 ⟨rfl, hb4⟩
  have hb := (show Below w3.heap.size w3 w4 from below_then (by go_grown) hb4)
  have RB_ := Lib.hid (show Row w4 (w2.heap.size) 30 4 (col4 (.int .i64 (ssel (stopsB zs len0) (vC (sR zs) zs len0 p a1))) (.int .i64 (ssel (stopsB zs len0) (vC (sG zs) zs len0 p a1))) (.int .i64 (ssel (stopsB zs len0) (vC (sB zs) zs len0 p a1))) (.int .i64 (ssel (stopsB zs len0) (vC (sA zs) zs len0 p a1)))) from RB.out.back hb)
  clear RB
  have RB := RB_
  clear RB_
  have H0_ := Lib.hid (show Ints w4 a0 zs from H0.out.below hb)
  clear H0
  have H0 := H0_
  clear H0_
  have Ia_ := Lib.hid (show Ints w4 Aa zs from Ia.out.below hb)
  clear Ia
  have Ia := Ia_
  clear Ia_
  have Ix_ := Lib.hid (show Ints w4 Ax zs from Ix.out.below hb)
  clear Ix
  have Ix := Ix_
  clear Ix_
  have HB_ := Lib.hid (show Below w.heap.size w w4 from below_then HB.out hb)
  clear HB
  have HB := HB_
  clear HB_
  have hs4 := hb.size
  clear hb
  clear hb4
  obtain ⟨cB_0, cB_1, cB_2, cB_3⟩ := cells4 RB.out
  have lB := RB.out.lt
  go_wp2_with (first | (go_at_call 16; refine (eqColor_c _ _ _ _ _).mono ?_; rintro e w_ ⟨rfl, rfl⟩) | fail)
  refine (toStopS_c zs _ _ _ _ (H0.out.below (by go_grown)) hlen hlm).mono ?_
  rintro e w5 ⟨Ay, cy, rfl, hcy, ho5, hb5⟩
  have hb := (show Below w4.heap.size w4 w5 from below_then (by go_grown) hb5)
  have RB_ := Lib.hid (show Row w5 (w2.heap.size) 30 4 (col4 (.int .i64 (ssel (stopsB zs len0) (vC (sR zs) zs len0 p a1))) (.int .i64 (ssel (stopsB zs len0) (vC (sG zs) zs len0 p a1))) (.int .i64 (ssel (stopsB zs len0) (vC (sB zs) zs len0 p a1))) (.int .i64 (ssel (stopsB zs len0) (vC (sA zs) zs len0 p a1)))) from RB.out.back hb)
  clear RB
  have RB := RB_
  clear RB_
  clear cB_0 cB_1 cB_2 cB_3 lB
  have H0_ := Lib.hid (show Ints w5 a0 zs from H0.out.below hb)
  clear H0
  have H0 := H0_
  clear H0_
  have Ia_ := Lib.hid (show Ints w5 Aa zs from Ia.out.below hb)
  clear Ia
  have Ia := Ia_
  clear Ia_
  have Ix_ := Lib.hid (show Ints w5 Ax zs from Ix.out.below hb)
  clear Ix
  have Ix := Ix_
  clear Ix_
  have HB_ := Lib.hid (show Below w.heap.size w w5 from below_then HB.out hb)
  clear HB
  have HB := HB_
  clear HB_
  have hs5 := hb.size
  clear hb
  clear hb5
  have Iy := Lib.hid (show Ints w5 Ay zs from ho5.ints)
  clear ho5
  go_wp2_with fail
  refine (eqStopS_c zs _ _ _ _ _ _ _ _ (Ix.out.below (by go_grown)) (Iy.out.below (by go_grown)) hlen rfl rfl hlm2).mono ?_
  rintro e w6 ⟨rfl, hb6⟩
  have hb := (show Below w5.heap.size w5 w6 from below_then (by go_grown) hb6)
  have RB_ := Lib.hid (show Row w6 (w2.heap.size) 30 4 (col4 (.int .i64 (ssel (stopsB zs len0) (vC (sR zs) zs len0 p a1))) (.int .i64 (ssel (stopsB zs len0) (vC (sG zs) zs len0 p a1))) (.int .i64 (ssel (stopsB zs len0) (vC (sB zs) zs len0 p a1))) (.int .i64 (ssel (stopsB zs len0) (vC (sA zs) zs len0 p a1)))) from RB.out.back hb)
  clear RB
  have RB := RB_
  clear RB_
  have H0_ := Lib.hid (show Ints w6 a0 zs from H0.out.below hb)
  clear H0
  have H0 := H0_
  clear H0_
  have Ia_ := Lib.hid (show Ints w6 Aa zs from Ia.out.below hb)
  clear Ia
  have Ia := Ia_
  clear Ia_
  have Ix_ := Lib.hid (show Ints w6 Ax zs from Ix.out.below hb)
  clear Ix
  have Ix := Ix_
  clear Ix_
  have Iy_ := Lib.hid (show Ints w6 Ay zs from Iy.out.below hb)
  clear Iy
  have Iy := Iy_
  clear Iy_
  have HB_ := Lib.hid (show Below w.heap.size w w6 from below_then HB.out hb)
  clear HB
  have HB := HB_
  clear HB_
  have hs6 := hb.size
  clear hb
  clear hb6
  go_wp2
  go_ret
  exact ⟨rfl, HB.out⟩

end Go.Proofs.Ytkihbfohdennjaa
