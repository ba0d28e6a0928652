/-
  The walk of FnExactBlankFrame: it returns true for every two numbers.
-/
import Derived.Test.YtjfbbieacpnpkaaFrameK
namespace Go.Proofs.Ytjfbbieacpnpkaa
open Go.RowKit
set_option linter.unusedSimpArgs false
set_option linter.unusedVariables false

set_option maxHeartbeats 4000000 in
theorem walk_FnExactBlankFrame (a0 : Int) (w0 : (Lit.int .i64 a0).wf = true) (a1 : Int) (w1 : (Lit.int .i64 a1).wf = true) (w : World) :
    Calls Try.prog 9 #[.int .i64 a0, .int .i64 a1] w fun e w' => e = .returned (.bool true) ∧ Below w.heap.size w w' := by
  clear w0 w1
  go_enter Try.func9, Try.ntmps9
  have hpx1 := px_bd a0 a1
  have hpx : (pxN a0 a1) ≤ 1000000000000 := by omega
  have hpx2 : ((pxN a0 a1) : Int) ≤ 144 := by omega
  go_wp2_with fail
  refine (BlankFrame_s _ _ _).mono ?_
  rintro e w1 ⟨Ab, cb, rfl, ho1, hb1⟩
  have hb := (show Below w.heap.size w w1 from below_then (by go_grown) hb1)
  have HB := Lib.hid (show Below w.heap.size w w1 from hb)
  have hs1 := hb1.size
  (try simp only [World.size_alloc, World.size_setCell, World.size_drew] at hs1)
  have Ob := Lib.hid (show OwnT 69 (w.heap.size) (w1.heap.size) w1 Ab (zeros (4 * pxN a0 a1)) from ho1.more (by first | exact Nat.le_refl _ | (simp only [World.size_alloc]; omega)) (Nat.le_refl _))
  clear ho1
  clear hb hb1
  go_wp2_with fail
  refine (BlankFrame_i _ _ _).mono ?_
  rintro e w2 ⟨Ag, cg, rfl, ho2, hb2⟩
  have hb := (show Below w1.heap.size w1 w2 from below_then (by go_grown) hb2)
  have Ob_ := Lib.hid (show OwnT 69 (w.heap.size) (w1.heap.size) w2 Ab (zeros (4 * pxN a0 a1)) from Ob.out.below hb)
  clear Ob
  have Ob := Ob_
  clear Ob_
  have RB := Lib.hid (show Row w2 (w1.heap.size) 42 3 (f3 (.int .i64 (fsel a0 a1 a0)) (.int .i64 (fsel a0 a1 a1)) (.slice Ab (pxN a0 a1) cb)) from Row.back (by (repeat (first | ((with_reducible refine row_box3x _ _ _ _ _ _ ?_) <;> (go_size; done)) | (with_reducible refine Row.alloc ?_ _) | (with_reducible refine Row.drew ?_)))) hb2)
  have HB_ := Lib.hid (show Below w.heap.size w w2 from below_then HB.out hb)
  clear HB
  have HB := HB_
  clear HB_
  have hs2 := hb2.size
  (try simp only [World.size_alloc, World.size_setCell, World.size_drew] at hs2)
  have Og := Lib.hid (show OwnT 69 (w1.heap.size + 1) (w2.heap.size) w2 Ag (zeros (4 * pxN a0 a1)) from ho2.more (by first | exact Nat.le_refl _ | (simp only [World.size_alloc]; omega)) (Nat.le_refl _))
  clear ho2
  clear hb hb2
  obtain ⟨cB_0, cB_1, cB_2⟩ := cells3 RB.out
  have lB := RB.out.lt
  go_wp2_with fail
  refine (eqFrame_c (zeros (4 * pxN a0 a1)) (pxN a0 a1) _ _ _ _ _ _ _ (Og.out.ints.below (by go_grown)) (Ob.out.ints.below (by go_grown)) (zeros_length _) hpx).mono ?_
  rintro e w3 ⟨rfl, hb3⟩
  have hb := (show Below w2.heap.size w2 w3 from below_then (by go_grown) hb3)
  have Ob_ := Lib.hid (show OwnT 69 (w.heap.size) (w1.heap.size) w3 Ab (zeros (4 * pxN a0 a1)) from Ob.out.below hb)
  clear Ob
  have Ob := Ob_
  clear Ob_
  have Og_ := Lib.hid (show OwnT 69 (w1.heap.size + 1) (w2.heap.size) w3 Ag (zeros (4 * pxN a0 a1)) from Og.out.below hb)
  clear Og
  have Og := Og_
  clear Og_
  have RB_ := Lib.hid (show Row w3 (w1.heap.size) 42 3 (f3 (.int .i64 (fsel a0 a1 a0)) (.int .i64 (fsel a0 a1 a1)) (.slice Ab (pxN a0 a1) cb)) from RB.out.back hb)
  clear RB
  have RB := RB_
  clear RB_
  have RG := Lib.hid (show Row w3 (w2.heap.size) 42 3 (f3 (.int .i64 (fsel a0 a1 a0)) (.int .i64 (fsel a0 a1 a1)) (.slice Ag (pxN a0 a1) cg)) from Row.back (by (repeat (first | ((with_reducible refine row_box3x _ _ _ _ _ _ ?_) <;> (go_size; done)) | (with_reducible refine Row.alloc ?_ _) | (with_reducible refine Row.drew ?_)))) hb3)
  have HB_ := Lib.hid (show Below w.heap.size w w3 from below_then HB.out hb)
  clear HB
  have HB := HB_
  clear HB_
  have hs3 := hb3.size
  (try simp only [World.size_alloc, World.size_setCell, World.size_drew] at hs3)
  clear hb hb3
  clear cB_0 cB_1 cB_2 lB
  obtain ⟨cG_0, cG_1, cG_2⟩ := cells3 RG.out
  have lG := RG.out.lt
  go_wp2_with fail
  refine (markFrame_c _ _ (zeros (4 * pxN a0 a1)) _ (pxN a0 a1) _ _ _ 1 _ Og.out (zeros_length _) hpx (by omega) (by omega)).mono ?_
  rintro e w4 ⟨rfl, ho4, hon⟩
  have HB_ := Lib.hid (show Below w.heap.size w w4 from hon.below HB.out (by omega) (by omega))
  clear HB
  have HB := HB_
  clear HB_
  have Ob_ := Lib.hid (show OwnT 69 (w.heap.size) (w1.heap.size) w4 Ab (zeros (4 * pxN a0 a1)) from Ob.out.only hon (by omega))
  clear Ob
  have Ob := Ob_
  clear Ob_
  clear Og
  have Og := Lib.hid (show OwnT 69 (w1.heap.size + 1) (w2.heap.size) w4 Ag (upFrom 1 (4 * (pxN a0 a1))) from ho4)
  have RB_ := Lib.hid (show Row w4 (w1.heap.size) 42 3 (f3 (.int .i64 (fsel a0 a1 a0)) (.int .i64 (fsel a0 a1 a1)) (.slice Ab (pxN a0 a1) cb)) from RB.out.only3 hon (by omega))
  clear RB
  have RB := RB_
  clear RB_
  have RG_ := Lib.hid (show Row w4 (w2.heap.size) 42 3 (f3 (.int .i64 (fsel a0 a1 a0)) (.int .i64 (fsel a0 a1 a1)) (.slice Ag (pxN a0 a1) cg)) from RG.out.only3 hon (by omega))
  clear RG
  have RG := RG_
  clear RG_
  have hs4 := hon.size
  clear ho4 hon
  clear cG_0 cG_1 cG_2 lG
  obtain ⟨cG_0, cG_1, cG_2⟩ := cells3 RG.out
  have lG := RG.out.lt
  go_wp2_with fail
  refine (heldFrame_c _ _ _ _ _ 1 _ (Og.out.ints.below (by go_grown)) hpx (by omega) (by omega)).mono ?_
  rintro e w_ ⟨rfl, rfl⟩
  go_wp2_with fail
  refine (BlankFrame_i _ _ _).mono ?_
  rintro e w5 ⟨Ah, ch, rfl, ho5, hb5⟩
  have hb := (show Below w4.heap.size w4 w5 from below_then (by go_grown) hb5)
  have Ob_ := Lib.hid (show OwnT 69 (w.heap.size) (w1.heap.size) w5 Ab (zeros (4 * pxN a0 a1)) from Ob.out.below hb)
  clear Ob
  have Ob := Ob_
  clear Ob_
  have Og_ := Lib.hid (show OwnT 69 (w1.heap.size + 1) (w2.heap.size) w5 Ag (upFrom 1 (4 * (pxN a0 a1))) from Og.out.below hb)
  clear Og
  have Og := Og_
  clear Og_
  have RB_ := Lib.hid (show Row w5 (w1.heap.size) 42 3 (f3 (.int .i64 (fsel a0 a1 a0)) (.int .i64 (fsel a0 a1 a1)) (.slice Ab (pxN a0 a1) cb)) from RB.out.back hb)
  clear RB
  have RB := RB_
  clear RB_
  have RG_ := Lib.hid (show Row w5 (w2.heap.size) 42 3 (f3 (.int .i64 (fsel a0 a1 a0)) (.int .i64 (fsel a0 a1 a1)) (.slice Ag (pxN a0 a1) cg)) from RG.out.back hb)
  clear RG
  have RG := RG_
  clear RG_
  have HB_ := Lib.hid (show Below w.heap.size w w5 from below_then HB.out hb)
  clear HB
  have HB := HB_
  clear HB_
  have hs5 := hb5.size
  (try simp only [World.size_alloc, World.size_setCell, World.size_drew] at hs5)
  have Oh := Lib.hid (show OwnT 69 (w4.heap.size + 1) (w5.heap.size) w5 Ah (zeros (4 * pxN a0 a1)) from ho5.more (by first | exact Nat.le_refl _ | (simp only [World.size_alloc]; omega)) (Nat.le_refl _))
  clear ho5
  clear hb hb5
  clear cG_0 cG_1 cG_2 lG
  obtain ⟨cB_0, cB_1, cB_2⟩ := cells3 RB.out
  have lB := RB.out.lt
  go_wp2_with fail
  refine (eqFrame_c (zeros (4 * pxN a0 a1)) (pxN a0 a1) _ _ _ _ _ _ _ (Oh.out.ints.below (by go_grown)) (Ob.out.ints.below (by go_grown)) (zeros_length _) hpx).mono ?_
  rintro e w6 ⟨rfl, hb6⟩
  have hb := (show Below w5.heap.size w5 w6 from below_then (by go_grown) hb6)
  have Ob_ := Lib.hid (show OwnT 69 (w.heap.size) (w1.heap.size) w6 Ab (zeros (4 * pxN a0 a1)) from Ob.out.below hb)
  clear Ob
  have Ob := Ob_
  clear Ob_
  have Og_ := Lib.hid (show OwnT 69 (w1.heap.size + 1) (w2.heap.size) w6 Ag (upFrom 1 (4 * (pxN a0 a1))) from Og.out.below hb)
  clear Og
  have Og := Og_
  clear Og_
  have Oh_ := Lib.hid (show OwnT 69 (w4.heap.size + 1) (w5.heap.size) w6 Ah (zeros (4 * pxN a0 a1)) from Oh.out.below hb)
  clear Oh
  have Oh := Oh_
  clear Oh_
  have RB_ := Lib.hid (show Row w6 (w1.heap.size) 42 3 (f3 (.int .i64 (fsel a0 a1 a0)) (.int .i64 (fsel a0 a1 a1)) (.slice Ab (pxN a0 a1) cb)) from RB.out.back hb)
  clear RB
  have RB := RB_
  clear RB_
  have RG_ := Lib.hid (show Row w6 (w2.heap.size) 42 3 (f3 (.int .i64 (fsel a0 a1 a0)) (.int .i64 (fsel a0 a1 a1)) (.slice Ag (pxN a0 a1) cg)) from RG.out.back hb)
  clear RG
  have RG := RG_
  clear RG_
  have RK := Lib.hid (show Row w6 (w5.heap.size) 42 3 (f3 (.int .i64 (fsel a0 a1 a0)) (.int .i64 (fsel a0 a1 a1)) (.slice Ah (pxN a0 a1) ch)) from Row.back (by (repeat (first | ((with_reducible refine row_box3x _ _ _ _ _ _ ?_) <;> (go_size; done)) | (with_reducible refine Row.alloc ?_ _) | (with_reducible refine Row.drew ?_)))) hb6)
  have HB_ := Lib.hid (show Below w.heap.size w w6 from below_then HB.out hb)
  clear HB
  have HB := HB_
  clear HB_
  have hs6 := hb6.size
  (try simp only [World.size_alloc, World.size_setCell, World.size_drew] at hs6)
  clear hb hb6
  clear cB_0 cB_1 cB_2 lB
  obtain ⟨cG_0, cG_1, cG_2⟩ := cells3 RG.out
  have lG := RG.out.lt
  go_wp2_with fail
  refine (heldFrame_c _ _ _ _ _ 1 _ (Og.out.ints.below (by go_grown)) hpx (by omega) (by omega)).mono ?_
  rintro e w_ ⟨rfl, rfl⟩
  go_wp2
  go_ret
  exact ⟨rfl, by have hhh := HB.out; go_grown⟩

end Go.Proofs.Ytjfbbieacpnpkaa
