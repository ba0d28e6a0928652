/-
  The walk of FnExactPopTile: it returns true for every queue.
-/
import Derived.Test.YthfpplpklhclgaaDequeS
import Derived.Test.YthfpplpklhclgaaDequeK
import Derived.Deep.RegionHeld3
import Derived.Deep.DrawnRows
import Derived.Test.YthfpplpklhclgaaDequePop
namespace Go.Proofs.Ythfpplpklhclgaa
open Go.RowKit
set_option linter.unusedSimpArgs false
set_option linter.unusedVariables false

attribute [local go_sem ↓] Go.wp_at_zero Go.wp_at_succ
theorem zsel_le (v : Bool) (zs : List Int) (n x : Int) : (zsel v (setZ zs n x)).length ≤ zs.length := by
  unfold zsel; split
  · rw [setZ_length]; exact Nat.le_refl _
  · exact Nat.zero_le _
set_option maxHeartbeats 4000000 in
theorem walk_FnExactPopTile (w : World) (a0 : Option Addr) (len0 cap0 : Nat) (z0 : List Int) (w0 : IsRow .i64 w a0 len0 cap0 z0) (a0_1 a0_2 : Int) (w0_1 : (Lit.int .i64 a0_1).wf = true) (w0_2 : (Lit.int .i64 a0_2).wf = true) :
    Calls Try.prog 7 #[.agg #[.slice a0 len0 cap0, .int .i64 a0_1, .int .i64 a0_2]] w fun e w' => e = .returned (.bool true) ∧ Below w.heap.size w w' := by
  obtain ⟨hi0, hl0, hlc, hcm, -⟩ := w0.ints
  generalize hzz : z0.take len0 = zs at *
  clear hzz w0 w0_1 w0_2
  subst hl0
  unfold maxLen at hcm
  have H0 := Lib.hid hi0
  have H00 := Lib.hid hi0
  clear hi0
  by_cases hbig : 1048576 < zs.length
  · have hb2 : (1048576 : Int) < (zs.length : Int) := by omega
    go_enter Try.func7, Try.ntmps7
    go_wp2
    go_ret
    exact ⟨rfl, by go_grown⟩
  have hb2 : (zs.length : Int) ≤ 1048576 := by omega
  have hlm : zs.length ≤ 1000000000000 := by omega
  go_enter Try.func7, Try.ntmps7
  go_wp2_with (first | (go_at_call 8; go_in) | (go_at_call 26; go_in) | fail)
  refine (toDeque_c zs _ _ _ _ _ _ (H0.out.below (by go_grown)) rfl hlm).mono ?_
  rintro e w1 ⟨Aa, ca, rfl, hca, ho1, hb1⟩
  have hb := (show Below w.heap.size w w1 from below_then (by go_grown) hb1)
  have H0_ := Lib.hid (show Ints w1 a0 zs from H0.out.below hb)
  clear H0
  have H0 := H0_
  clear H0_
  have RA := Lib.hid (show Row w1 (w.heap.size) 24 3 (f3 (.slice a0 zs.length cap0) (.int .i64 a0_1) (.int .i64 a0_2)) from Row.back (by (repeat (first | ((with_reducible refine row_box3x _ _ _ _ _ _ ?_) <;> (go_size; done)) | (with_reducible refine Row.alloc ?_ _) | (with_reducible refine Row.drew ?_)))) hb1)
  have HB := Lib.hid (show Below w.heap.size w w1 from hb)
  have hs1 := hb1.size
  (try simp only [World.size_alloc, World.size_setCell, World.size_drew] at hs1)
  have Oa := Lib.hid (show Own (w.heap.size + 1 + 1) (w1.heap.size) w1 Aa zs from ho1.more (by first | exact Nat.le_refl _ | (simp only [World.size_alloc]; omega)) (Nat.le_refl _))
  clear ho1
  clear hb hb1
  have hzl : (zsel (popB zs a0_1 a0_2) (setZ zs (a0_2 - 1) (-1))).length ≤ 1000000000000 := by have := zsel_le (popB zs a0_1 a0_2) zs (a0_2 - 1) (-1); omega
  have hzl2 : ((zsel (popB zs a0_1 a0_2) (setZ zs (a0_2 - 1) (-1))).length : Int) ≤ 1000000000000 := by omega
  go_wp2_with fail
  refine (PopTile_s zs _ _ _ _ _ _ Oa.out.ints rfl hlm).mono ?_
  rintro e w2 ⟨Ab, cb, rfl, hcb, ho2, hb2⟩
  have hb := (show Below w1.heap.size w1 w2 from below_then (by go_grown) hb2)
  have H0_ := Lib.hid (show Ints w2 a0 zs from H0.out.below hb)
  clear H0
  have H0 := H0_
  clear H0_
  have Oa_ := Lib.hid (show Own (w.heap.size + 1 + 1) (w1.heap.size) w2 Aa zs from Oa.out.below hb)
  clear Oa
  have Oa := Oa_
  clear Oa_
  have RA_ := Lib.hid (show Row w2 (w.heap.size) 24 3 (f3 (.slice a0 zs.length cap0) (.int .i64 a0_1) (.int .i64 a0_2)) from RA.out.back hb)
  clear RA
  have RA := RA_
  clear RA_
  have HB_ := Lib.hid (show Below w.heap.size w w2 from below_then HB.out hb)
  clear HB
  have HB := HB_
  clear HB_
  have hs2 := hb2.size
  (try simp only [World.size_alloc, World.size_setCell, World.size_drew] at hs2)
  have Ob := Lib.hid (show Own (w1.heap.size) (w2.heap.size) w2 Ab (zsel (popB zs a0_1 a0_2) (setZ zs (a0_2 - 1) (-1))) from ho2.more (by first | exact Nat.le_refl _ | (simp only [World.size_alloc]; omega)) (Nat.le_refl _))
  clear ho2
  clear hb hb2
  obtain ⟨cA_0, cA_1, cA_2⟩ := cells3 RA.out
  have lA := RA.out.lt
  go_wp2_with fail
  refine (toDeque_c zs _ _ _ _ _ _ (H0.out.below (by go_grown)) rfl hlm).mono ?_
  rintro e w3 ⟨Ax, cx, rfl, hcx, ho3, hb3⟩
  have hb := (show Below w2.heap.size w2 w3 from below_then (by go_grown) hb3)
  have H0_ := Lib.hid (show Ints w3 a0 zs from H0.out.below hb)
  clear H0
  have H0 := H0_
  clear H0_
  have Oa_ := Lib.hid (show Own (w.heap.size + 1 + 1) (w1.heap.size) w3 Aa zs from Oa.out.below hb)
  clear Oa
  have Oa := Oa_
  clear Oa_
  have Ob_ := Lib.hid (show Own (w1.heap.size) (w2.heap.size) w3 Ab (zsel (popB zs a0_1 a0_2) (setZ zs (a0_2 - 1) (-1))) from Ob.out.below hb)
  clear Ob
  have Ob := Ob_
  clear Ob_
  have RA_ := Lib.hid (show Row w3 (w.heap.size) 24 3 (f3 (.slice a0 zs.length cap0) (.int .i64 a0_1) (.int .i64 a0_2)) from RA.out.back hb)
  clear RA
  have RA := RA_
  clear RA_
  have RB := Lib.hid (show Row w3 (w2.heap.size) 27 3 (f3 (.slice Ab (zsel (popB zs a0_1 a0_2) (setZ zs (a0_2 - 1) (-1))).length cb) (.int .i64 (isel (popB zs a0_1 a0_2) a0_1 0)) (.int .i64 (isel (popB zs a0_1 a0_2) (a0_2 - 1) 0))) from Row.back (by (repeat (first | ((with_reducible refine row_box3x _ _ _ _ _ _ ?_) <;> (go_size; done)) | (with_reducible refine Row.alloc ?_ _) | (with_reducible refine Row.drew ?_)))) hb3)
  have HB_ := Lib.hid (show Below w.heap.size w w3 from below_then HB.out hb)
  clear HB
  have HB := HB_
  clear HB_
  have hs3 := hb3.size
  (try simp only [World.size_alloc, World.size_setCell, World.size_drew] at hs3)
  have Ox := Lib.hid (show Own (w2.heap.size + 1) (w3.heap.size) w3 Ax zs from ho3.more (by first | exact Nat.le_refl _ | (simp only [World.size_alloc]; omega)) (Nat.le_refl _))
  clear ho3
  clear hb hb3
  clear cA_0 cA_1 cA_2 lA
  go_wp2_with fail
  refine (PopTile_i zs _ _ _ _ _ _ (Ox.out.ints.below (by go_grown)) rfl hlm).mono ?_
  rintro e w4 ⟨Ag, cg, rfl, hcg, ho4, hb4⟩
  have hb := (show Below w3.heap.size w3 w4 from below_then (by go_grown) hb4)
  have H0_ := Lib.hid (show Ints w4 a0 zs from H0.out.below hb)
  clear H0
  have H0 := H0_
  clear H0_
  have Oa_ := Lib.hid (show Own (w.heap.size + 1 + 1) (w1.heap.size) w4 Aa zs from Oa.out.below hb)
  clear Oa
  have Oa := Oa_
  clear Oa_
  have Ob_ := Lib.hid (show Own (w1.heap.size) (w2.heap.size) w4 Ab (zsel (popB zs a0_1 a0_2) (setZ zs (a0_2 - 1) (-1))) from Ob.out.below hb)
  clear Ob
  have Ob := Ob_
  clear Ob_
  have Ox_ := Lib.hid (show Own (w2.heap.size + 1) (w3.heap.size) w4 Ax zs from Ox.out.below hb)
  clear Ox
  have Ox := Ox_
  clear Ox_
  have RA_ := Lib.hid (show Row w4 (w.heap.size) 24 3 (f3 (.slice a0 zs.length cap0) (.int .i64 a0_1) (.int .i64 a0_2)) from RA.out.back hb)
  clear RA
  have RA := RA_
  clear RA_
  have RB_ := Lib.hid (show Row w4 (w2.heap.size) 27 3 (f3 (.slice Ab (zsel (popB zs a0_1 a0_2) (setZ zs (a0_2 - 1) (-1))).length cb) (.int .i64 (isel (popB zs a0_1 a0_2) a0_1 0)) (.int .i64 (isel (popB zs a0_1 a0_2) (a0_2 - 1) 0))) from RB.out.back hb)
  clear RB
  have RB := RB_
  clear RB_
  have RX := Lib.hid (show Row w4 (w3.heap.size) 27 3 (f3 (.slice Ax zs.length cx) (.int .i64 a0_1) (.int .i64 a0_2)) from Row.back (by (repeat (first | ((with_reducible refine row_box3x _ _ _ _ _ _ ?_) <;> (go_size; done)) | (with_reducible refine Row.alloc ?_ _) | (with_reducible refine Row.drew ?_)))) hb4)
  have HB_ := Lib.hid (show Below w.heap.size w w4 from below_then HB.out hb)
  clear HB
  have HB := HB_
  clear HB_
  have hs4 := hb4.size
  (try simp only [World.size_alloc, World.size_setCell, World.size_drew] at hs4)
  have Og := Lib.hid (show Own (w3.heap.size + 1) (w4.heap.size) w4 Ag (zsel (popB zs a0_1 a0_2) (setZ zs (a0_2 - 1) (-1))) from ho4.more (by first | exact Nat.le_refl _ | (simp only [World.size_alloc]; omega)) (Nat.le_refl _))
  clear ho4
  clear hb hb4
  obtain ⟨cB_0, cB_1, cB_2⟩ := cells3 RB.out
  have lB := RB.out.lt
  go_wp2_with fail
  refine (eqDeque_c (zsel (popB zs a0_1 a0_2) (setZ zs (a0_2 - 1) (-1))) _ _ _ _ _ _ _ _ _ (Og.out.ints.below (by go_grown)) (Ob.out.ints.below (by go_grown)) rfl rfl hzl).mono ?_
  rintro e w5 ⟨rfl, hb5⟩
  have hb := (show Below w4.heap.size w4 w5 from below_then (by go_grown) hb5)
  have H0_ := Lib.hid (show Ints w5 a0 zs from H0.out.below hb)
  clear H0
  have H0 := H0_
  clear H0_
  have Oa_ := Lib.hid (show Own (w.heap.size + 1 + 1) (w1.heap.size) w5 Aa zs from Oa.out.below hb)
  clear Oa
  have Oa := Oa_
  clear Oa_
  have Ob_ := Lib.hid (show Own (w1.heap.size) (w2.heap.size) w5 Ab (zsel (popB zs a0_1 a0_2) (setZ zs (a0_2 - 1) (-1))) from Ob.out.below hb)
  clear Ob
  have Ob := Ob_
  clear Ob_
  have Ox_ := Lib.hid (show Own (w2.heap.size + 1) (w3.heap.size) w5 Ax zs from Ox.out.below hb)
  clear Ox
  have Ox := Ox_
  clear Ox_
  have Og_ := Lib.hid (show Own (w3.heap.size + 1) (w4.heap.size) w5 Ag (zsel (popB zs a0_1 a0_2) (setZ zs (a0_2 - 1) (-1))) from Og.out.below hb)
  clear Og
  have Og := Og_
  clear Og_
  have RA_ := Lib.hid (show Row w5 (w.heap.size) 24 3 (f3 (.slice a0 zs.length cap0) (.int .i64 a0_1) (.int .i64 a0_2)) from RA.out.back hb)
  clear RA
  have RA := RA_
  clear RA_
  have RB_ := Lib.hid (show Row w5 (w2.heap.size) 27 3 (f3 (.slice Ab (zsel (popB zs a0_1 a0_2) (setZ zs (a0_2 - 1) (-1))).length cb) (.int .i64 (isel (popB zs a0_1 a0_2) a0_1 0)) (.int .i64 (isel (popB zs a0_1 a0_2) (a0_2 - 1) 0))) from RB.out.back hb)
  clear RB
  have RB := RB_
  clear RB_
  have RX_ := Lib.hid (show Row w5 (w3.heap.size) 27 3 (f3 (.slice Ax zs.length cx) (.int .i64 a0_1) (.int .i64 a0_2)) from RX.out.back hb)
  clear RX
  have RX := RX_
  clear RX_
  have RG := Lib.hid (show Row w5 (w4.heap.size) 27 3 (f3 (.slice Ag (zsel (popB zs a0_1 a0_2) (setZ zs (a0_2 - 1) (-1))).length cg) (.int .i64 (isel (popB zs a0_1 a0_2) a0_1 0)) (.int .i64 (isel (popB zs a0_1 a0_2) (a0_2 - 1) 0))) from Row.back (by (repeat (first | ((with_reducible refine row_box3x _ _ _ _ _ _ ?_) <;> (go_size; done)) | (with_reducible refine Row.alloc ?_ _) | (with_reducible refine Row.drew ?_)))) hb5)
  have HB_ := Lib.hid (show Below w.heap.size w w5 from below_then HB.out hb)
  clear HB
  have HB := HB_
  clear HB_
  have hs5 := hb5.size
  (try simp only [World.size_alloc, World.size_setCell, World.size_drew] at hs5)
  clear hb hb5
  clear cB_0 cB_1 cB_2 lB
  obtain ⟨cA_0, cA_1, cA_2⟩ := cells3 RA.out
  have lA := RA.out.lt
  obtain ⟨cB_0, cB_1, cB_2⟩ := cells3 RB.out
  have lB := RB.out.lt
  obtain ⟨cX_0, cX_1, cX_2⟩ := cells3 RX.out
  have lX := RX.out.lt
  obtain ⟨cG_0, cG_1, cG_2⟩ := cells3 RG.out
  have lG := RG.out.lt
  have ix := Ox.out.ints
  have j0 := H0.out
  go_wp2_with fail
  go_region_held3 (fun w' => w'.cell? ⟨w.heap.size, 0, none⟩ = some (.slice a0 zs.length cap0) ∧ w'.cell? ⟨w.heap.size, 1, none⟩ = some (.int .i64 a0_1) ∧ w'.cell? ⟨w.heap.size, 2, none⟩ = some (.int .i64 a0_2) ∧ w'.cell? ⟨w2.heap.size, 0, none⟩ = some (.slice Ab (zsel (popB zs a0_1 a0_2) (setZ zs (a0_2 - 1) (-1))).length cb) ∧ w'.cell? ⟨w2.heap.size, 1, none⟩ = some (.int .i64 (isel (popB zs a0_1 a0_2) a0_1 0)) ∧ w'.cell? ⟨w2.heap.size, 2, none⟩ = some (.int .i64 (isel (popB zs a0_1 a0_2) (a0_2 - 1) 0)) ∧ w'.cell? ⟨w3.heap.size, 0, none⟩ = some (.slice Ax zs.length cx) ∧ w'.cell? ⟨w3.heap.size, 1, none⟩ = some (.int .i64 a0_1) ∧ w'.cell? ⟨w3.heap.size, 2, none⟩ = some (.int .i64 a0_2) ∧ w'.cell? ⟨w4.heap.size, 0, none⟩ = some (.slice Ag (zsel (popB zs a0_1 a0_2) (setZ zs (a0_2 - 1) (-1))).length cg) ∧ w'.cell? ⟨w4.heap.size, 1, none⟩ = some (.int .i64 (isel (popB zs a0_1 a0_2) a0_1 0)) ∧ w'.cell? ⟨w4.heap.size, 2, none⟩ = some (.int .i64 (isel (popB zs a0_1 a0_2) (a0_2 - 1) 0)) ∧ Ints w' Ax zs ∧ Ints w' a0 zs) ((repeat' apply And.intro) <;> (first | ((repeat (first | (with_reducible assumption) | (with_reducible refine cell_keepD ?_) | (with_reducible refine cell_keepA ?_ _) | (with_reducible refine (hc1 _ _ (by go_size)).trans ?_) | (with_reducible refine ints_below ?_ hbz) | (with_reducible refine Ints.alloc ?_ _) | (with_reducible refine Ints.drew ?_))); done) | (go_cell; done)))
    (first | (go_at_call 10; (try go_split_ands); refine (toDeque_c zs _ _ _ _ _ _ (by assumption) rfl hlm).mono ?_; rintro e wy ⟨Ay, cy, rfl, hcy, hoy, hbz⟩; obtain ⟨hc1, hf1⟩ := bcell hbz; have hz1 := hbz.size; (try simp only [World.size_alloc, World.size_setCell, World.size_drew] at hz1); have zA : w.heap.size < wy.heap.size := (by omega); have zB : w2.heap.size < wy.heap.size := (by omega); have zX : w3.heap.size < wy.heap.size := (by omega); have zG : w4.heap.size < wy.heap.size := (by omega); have BY := Lib.hid (show Below w5.heap.size w5 wy from below_then (by go_grown) hbz); have HY := Lib.hid hoy.ints; clear hoy) | (go_at_call 12; (try go_split_ands); refine (eqDeque_c zs _ _ _ _ _ _ _ _ _ (by assumption) HY.out rfl rfl hlm).mono ?_; rintro e w6 ⟨rfl, hbz⟩; obtain ⟨hc1, hf1⟩ := bcell hbz; have hz1 := hbz.size; (try simp only [World.size_alloc, World.size_setCell, World.size_drew] at hz1); have zA : w.heap.size < w6.heap.size := (by omega); have zB : w2.heap.size < w6.heap.size := (by omega); have zX : w3.heap.size < w6.heap.size := (by omega); have zG : w4.heap.size < w6.heap.size := (by omega); have BZ := Lib.hid (show Below w5.heap.size w5 w6 from below_then BY.out hbz)))
  clear BY j0 ix
  have hb := BZ.out
  have H0_ := Lib.hid (show Ints w6 a0 zs from H0.out.below hb)
  clear H0
  have H0 := H0_
  clear H0_
  have Oa_ := Lib.hid (show Own (w.heap.size + 1 + 1) (w1.heap.size) w6 Aa zs from Oa.out.below hb)
  clear Oa
  have Oa := Oa_
  clear Oa_
  have Ob_ := Lib.hid (show Own (w1.heap.size) (w2.heap.size) w6 Ab (zsel (popB zs a0_1 a0_2) (setZ zs (a0_2 - 1) (-1))) from Ob.out.below hb)
  clear Ob
  have Ob := Ob_
  clear Ob_
  have Ox_ := Lib.hid (show Own (w2.heap.size + 1) (w3.heap.size) w6 Ax zs from Ox.out.below hb)
  clear Ox
  have Ox := Ox_
  clear Ox_
  have Og_ := Lib.hid (show Own (w3.heap.size + 1) (w4.heap.size) w6 Ag (zsel (popB zs a0_1 a0_2) (setZ zs (a0_2 - 1) (-1))) from Og.out.below hb)
  clear Og
  have Og := Og_
  clear Og_
  have RA_ := Lib.hid (show Row w6 (w.heap.size) 24 3 (f3 (.slice a0 zs.length cap0) (.int .i64 a0_1) (.int .i64 a0_2)) from RA.out.back hb)
  clear RA
  have RA := RA_
  clear RA_
  have RB_ := Lib.hid (show Row w6 (w2.heap.size) 27 3 (f3 (.slice Ab (zsel (popB zs a0_1 a0_2) (setZ zs (a0_2 - 1) (-1))).length cb) (.int .i64 (isel (popB zs a0_1 a0_2) a0_1 0)) (.int .i64 (isel (popB zs a0_1 a0_2) (a0_2 - 1) 0))) from RB.out.back hb)
  clear RB
  have RB := RB_
  clear RB_
  have RX_ := Lib.hid (show Row w6 (w3.heap.size) 27 3 (f3 (.slice Ax zs.length cx) (.int .i64 a0_1) (.int .i64 a0_2)) from RX.out.back hb)
  clear RX
  have RX := RX_
  clear RX_
  have RG_ := Lib.hid (show Row w6 (w4.heap.size) 27 3 (f3 (.slice Ag (zsel (popB zs a0_1 a0_2) (setZ zs (a0_2 - 1) (-1))).length cg) (.int .i64 (isel (popB zs a0_1 a0_2) a0_1 0)) (.int .i64 (isel (popB zs a0_1 a0_2) (a0_2 - 1) 0))) from RG.out.back hb)
  clear RG
  have RG := RG_
  clear RG_
  have HB_ := Lib.hid (show Below w.heap.size w w6 from below_then HB.out hb)
  clear HB
  have HB := HB_
  clear HB_
  have hs6 := hb.size
  clear hb
  clear cA_0 cA_1 cA_2 lA cB_0 cB_1 cB_2 lB cX_0 cX_1 cX_2 lX cG_0 cG_1 cG_2 lG
  clear BZ
  obtain ⟨cX_0, cX_1, cX_2⟩ := cells3 RX.out
  have lX := RX.out.lt
  go_wp2_with fail
  refine (markDeque_c _ _ zs _ _ _ _ _ 1 _ Ox.out rfl hlm (by omega) (by omega)).mono ?_
  rintro e w7 ⟨rfl, ho7, hon⟩
  have HB_ := Lib.hid (show Below w.heap.size w w7 from hon.below HB.out (by omega) (by omega))
  clear HB
  have HB := HB_
  clear HB_
  have H0_ := Lib.hid (show Ints w7 a0 zs from ints_below H00.out HB.out)
  clear H0
  have H0 := H0_
  clear H0_
  have Oa_ := Lib.hid (show Own (w.heap.size + 1 + 1) (w1.heap.size) w7 Aa zs from Oa.out.only hon (by omega))
  clear Oa
  have Oa := Oa_
  clear Oa_
  have Ob_ := Lib.hid (show Own (w1.heap.size) (w2.heap.size) w7 Ab (zsel (popB zs a0_1 a0_2) (setZ zs (a0_2 - 1) (-1))) from Ob.out.only hon (by omega))
  clear Ob
  have Ob := Ob_
  clear Ob_
  clear Ox
  have Ox := Lib.hid (show Own (w2.heap.size + 1) (w3.heap.size) w7 Ax (upFrom 1 zs.length) from ho7)
  have Og_ := Lib.hid (show Own (w3.heap.size + 1) (w4.heap.size) w7 Ag (zsel (popB zs a0_1 a0_2) (setZ zs (a0_2 - 1) (-1))) from Og.out.only hon (by omega))
  clear Og
  have Og := Og_
  clear Og_
  have RA_ := Lib.hid (show Row w7 (w.heap.size) 24 3 (f3 (.slice a0 zs.length cap0) (.int .i64 a0_1) (.int .i64 a0_2)) from RA.out.only3 hon (by omega))
  clear RA
  have RA := RA_
  clear RA_
  have RB_ := Lib.hid (show Row w7 (w2.heap.size) 27 3 (f3 (.slice Ab (zsel (popB zs a0_1 a0_2) (setZ zs (a0_2 - 1) (-1))).length cb) (.int .i64 (isel (popB zs a0_1 a0_2) a0_1 0)) (.int .i64 (isel (popB zs a0_1 a0_2) (a0_2 - 1) 0))) from RB.out.only3 hon (by omega))
  clear RB
  have RB := RB_
  clear RB_
  have RX_ := Lib.hid (show Row w7 (w3.heap.size) 27 3 (f3 (.slice Ax zs.length cx) (.int .i64 a0_1) (.int .i64 a0_2)) from RX.out.only3 hon (by omega))
  clear RX
  have RX := RX_
  clear RX_
  have RG_ := Lib.hid (show Row w7 (w4.heap.size) 27 3 (f3 (.slice Ag (zsel (popB zs a0_1 a0_2) (setZ zs (a0_2 - 1) (-1))).length cg) (.int .i64 (isel (popB zs a0_1 a0_2) a0_1 0)) (.int .i64 (isel (popB zs a0_1 a0_2) (a0_2 - 1) 0))) from RG.out.only3 hon (by omega))
  clear RG
  have RG := RG_
  clear RG_
  have hs7 := hon.size
  clear ho7 hon
  clear cX_0 cX_1 cX_2 lX
  obtain ⟨cB_0, cB_1, cB_2⟩ := cells3 RB.out
  have lB := RB.out.lt
  obtain ⟨cG_0, cG_1, cG_2⟩ := cells3 RG.out
  have lG := RG.out.lt
  go_wp2_with fail
  refine (eqDeque_c (zsel (popB zs a0_1 a0_2) (setZ zs (a0_2 - 1) (-1))) _ _ _ _ _ _ _ _ _ (Og.out.ints.below (by go_grown)) (Ob.out.ints.below (by go_grown)) rfl rfl hzl).mono ?_
  rintro e w8 ⟨rfl, hb8⟩
  have hb := (show Below w7.heap.size w7 w8 from below_then (by go_grown) hb8)
  have H0_ := Lib.hid (show Ints w8 a0 zs from H0.out.below hb)
  clear H0
  have H0 := H0_
  clear H0_
  have Oa_ := Lib.hid (show Own (w.heap.size + 1 + 1) (w1.heap.size) w8 Aa zs from Oa.out.below hb)
  clear Oa
  have Oa := Oa_
  clear Oa_
  have Ob_ := Lib.hid (show Own (w1.heap.size) (w2.heap.size) w8 Ab (zsel (popB zs a0_1 a0_2) (setZ zs (a0_2 - 1) (-1))) from Ob.out.below hb)
  clear Ob
  have Ob := Ob_
  clear Ob_
  have Ox_ := Lib.hid (show Own (w2.heap.size + 1) (w3.heap.size) w8 Ax (upFrom 1 zs.length) from Ox.out.below hb)
  clear Ox
  have Ox := Ox_
  clear Ox_
  have Og_ := Lib.hid (show Own (w3.heap.size + 1) (w4.heap.size) w8 Ag (zsel (popB zs a0_1 a0_2) (setZ zs (a0_2 - 1) (-1))) from Og.out.below hb)
  clear Og
  have Og := Og_
  clear Og_
  have RA_ := Lib.hid (show Row w8 (w.heap.size) 24 3 (f3 (.slice a0 zs.length cap0) (.int .i64 a0_1) (.int .i64 a0_2)) from RA.out.back hb)
  clear RA
  have RA := RA_
  clear RA_
  have RB_ := Lib.hid (show Row w8 (w2.heap.size) 27 3 (f3 (.slice Ab (zsel (popB zs a0_1 a0_2) (setZ zs (a0_2 - 1) (-1))).length cb) (.int .i64 (isel (popB zs a0_1 a0_2) a0_1 0)) (.int .i64 (isel (popB zs a0_1 a0_2) (a0_2 - 1) 0))) from RB.out.back hb)
  clear RB
  have RB := RB_
  clear RB_
  have RX_ := Lib.hid (show Row w8 (w3.heap.size) 27 3 (f3 (.slice Ax zs.length cx) (.int .i64 a0_1) (.int .i64 a0_2)) from RX.out.back hb)
  clear RX
  have RX := RX_
  clear RX_
  have RG_ := Lib.hid (show Row w8 (w4.heap.size) 27 3 (f3 (.slice Ag (zsel (popB zs a0_1 a0_2) (setZ zs (a0_2 - 1) (-1))).length cg) (.int .i64 (isel (popB zs a0_1 a0_2) a0_1 0)) (.int .i64 (isel (popB zs a0_1 a0_2) (a0_2 - 1) 0))) from RG.out.back hb)
  clear RG
  have RG := RG_
  clear RG_
  have HB_ := Lib.hid (show Below w.heap.size w w8 from below_then HB.out hb)
  clear HB
  have HB := HB_
  clear HB_
  have hs8 := hb8.size
  (try simp only [World.size_alloc, World.size_setCell, World.size_drew] at hs8)
  clear hb hb8
  clear cB_0 cB_1 cB_2 lB cG_0 cG_1 cG_2 lG
  obtain ⟨cG_0, cG_1, cG_2⟩ := cells3 RG.out
  have lG := RG.out.lt
  go_wp2_with fail
  refine (markDeque_c _ _ (zsel (popB zs a0_1 a0_2) (setZ zs (a0_2 - 1) (-1))) _ _ _ _ _ 1 _ Og.out rfl hzl (by omega) (by omega)).mono ?_
  rintro e w9 ⟨rfl, ho9, hon⟩
  have HB_ := Lib.hid (show Below w.heap.size w w9 from hon.below HB.out (by omega) (by omega))
  clear HB
  have HB := HB_
  clear HB_
  have H0_ := Lib.hid (show Ints w9 a0 zs from ints_below H00.out HB.out)
  clear H0
  have H0 := H0_
  clear H0_
  have Oa_ := Lib.hid (show Own (w.heap.size + 1 + 1) (w1.heap.size) w9 Aa zs from Oa.out.only hon (by omega))
  clear Oa
  have Oa := Oa_
  clear Oa_
  have Ob_ := Lib.hid (show Own (w1.heap.size) (w2.heap.size) w9 Ab (zsel (popB zs a0_1 a0_2) (setZ zs (a0_2 - 1) (-1))) from Ob.out.only hon (by omega))
  clear Ob
  have Ob := Ob_
  clear Ob_
  have Ox_ := Lib.hid (show Own (w2.heap.size + 1) (w3.heap.size) w9 Ax (upFrom 1 zs.length) from Ox.out.only hon (by omega))
  clear Ox
  have Ox := Ox_
  clear Ox_
  clear Og
  have Og := Lib.hid (show Own (w3.heap.size + 1) (w4.heap.size) w9 Ag (upFrom 1 (zsel (popB zs a0_1 a0_2) (setZ zs (a0_2 - 1) (-1))).length) from ho9)
  have RA_ := Lib.hid (show Row w9 (w.heap.size) 24 3 (f3 (.slice a0 zs.length cap0) (.int .i64 a0_1) (.int .i64 a0_2)) from RA.out.only3 hon (by omega))
  clear RA
  have RA := RA_
  clear RA_
  have RB_ := Lib.hid (show Row w9 (w2.heap.size) 27 3 (f3 (.slice Ab (zsel (popB zs a0_1 a0_2) (setZ zs (a0_2 - 1) (-1))).length cb) (.int .i64 (isel (popB zs a0_1 a0_2) a0_1 0)) (.int .i64 (isel (popB zs a0_1 a0_2) (a0_2 - 1) 0))) from RB.out.only3 hon (by omega))
  clear RB
  have RB := RB_
  clear RB_
  have RX_ := Lib.hid (show Row w9 (w3.heap.size) 27 3 (f3 (.slice Ax zs.length cx) (.int .i64 a0_1) (.int .i64 a0_2)) from RX.out.only3 hon (by omega))
  clear RX
  have RX := RX_
  clear RX_
  have RG_ := Lib.hid (show Row w9 (w4.heap.size) 27 3 (f3 (.slice Ag (zsel (popB zs a0_1 a0_2) (setZ zs (a0_2 - 1) (-1))).length cg) (.int .i64 (isel (popB zs a0_1 a0_2) a0_1 0)) (.int .i64 (isel (popB zs a0_1 a0_2) (a0_2 - 1) 0))) from RG.out.only3 hon (by omega))
  clear RG
  have RG := RG_
  clear RG_
  have hs9 := hon.size
  clear ho9 hon
  clear cG_0 cG_1 cG_2 lG
  obtain ⟨cG_0, cG_1, cG_2⟩ := cells3 RG.out
  have lG := RG.out.lt
  obtain ⟨cA_0, cA_1, cA_2⟩ := cells3 RA.out
  have lA := RA.out.lt
  go_wp2_with fail
  refine (heldDeque_c _ _ _ _ _ 1 _ (Og.out.ints.below (by go_grown)) hzl (by omega) (by omega)).mono ?_
  rintro e w_ ⟨rfl, rfl⟩
  go_wp2_with fail
  refine (toDeque_c zs _ _ _ _ _ _ (H0.out.below (by go_grown)) rfl hlm).mono ?_
  rintro e w10 ⟨Az, cz, rfl, hcz, ho10, hb10⟩
  have hb := (show Below w9.heap.size w9 w10 from below_then (by go_grown) hb10)
  have H0_ := Lib.hid (show Ints w10 a0 zs from H0.out.below hb)
  clear H0
  have H0 := H0_
  clear H0_
  have Oa_ := Lib.hid (show Own (w.heap.size + 1 + 1) (w1.heap.size) w10 Aa zs from Oa.out.below hb)
  clear Oa
  have Oa := Oa_
  clear Oa_
  have Ob_ := Lib.hid (show Own (w1.heap.size) (w2.heap.size) w10 Ab (zsel (popB zs a0_1 a0_2) (setZ zs (a0_2 - 1) (-1))) from Ob.out.below hb)
  clear Ob
  have Ob := Ob_
  clear Ob_
  have Ox_ := Lib.hid (show Own (w2.heap.size + 1) (w3.heap.size) w10 Ax (upFrom 1 zs.length) from Ox.out.below hb)
  clear Ox
  have Ox := Ox_
  clear Ox_
  have Og_ := Lib.hid (show Own (w3.heap.size + 1) (w4.heap.size) w10 Ag (upFrom 1 (zsel (popB zs a0_1 a0_2) (setZ zs (a0_2 - 1) (-1))).length) from Og.out.below hb)
  clear Og
  have Og := Og_
  clear Og_
  have RA_ := Lib.hid (show Row w10 (w.heap.size) 24 3 (f3 (.slice a0 zs.length cap0) (.int .i64 a0_1) (.int .i64 a0_2)) from RA.out.back hb)
  clear RA
  have RA := RA_
  clear RA_
  have RB_ := Lib.hid (show Row w10 (w2.heap.size) 27 3 (f3 (.slice Ab (zsel (popB zs a0_1 a0_2) (setZ zs (a0_2 - 1) (-1))).length cb) (.int .i64 (isel (popB zs a0_1 a0_2) a0_1 0)) (.int .i64 (isel (popB zs a0_1 a0_2) (a0_2 - 1) 0))) from RB.out.back hb)
  clear RB
  have RB := RB_
  clear RB_
  have RX_ := Lib.hid (show Row w10 (w3.heap.size) 27 3 (f3 (.slice Ax zs.length cx) (.int .i64 a0_1) (.int .i64 a0_2)) from RX.out.back hb)
  clear RX
  have RX := RX_
  clear RX_
  have RG_ := Lib.hid (show Row w10 (w4.heap.size) 27 3 (f3 (.slice Ag (zsel (popB zs a0_1 a0_2) (setZ zs (a0_2 - 1) (-1))).length cg) (.int .i64 (isel (popB zs a0_1 a0_2) a0_1 0)) (.int .i64 (isel (popB zs a0_1 a0_2) (a0_2 - 1) 0))) from RG.out.back hb)
  clear RG
  have RG := RG_
  clear RG_
  have HB_ := Lib.hid (show Below w.heap.size w w10 from below_then HB.out hb)
  clear HB
  have HB := HB_
  clear HB_
  have hs10 := hb10.size
  (try simp only [World.size_alloc, World.size_setCell, World.size_drew] at hs10)
  have Oz := Lib.hid (show Own (w9.heap.size + 1) (w10.heap.size) w10 Az zs from ho10.more (by first | exact Nat.le_refl _ | (simp only [World.size_alloc]; omega)) (Nat.le_refl _))
  clear ho10
  clear hb hb10
  clear cG_0 cG_1 cG_2 lG cA_0 cA_1 cA_2 lA
  go_wp2_with fail
  refine (PopTile_i zs _ _ _ _ _ _ Oz.out.ints rfl hlm).mono ?_
  rintro e w11 ⟨Ah, ch, rfl, hch, ho11, hb11⟩
  have hb := (show Below w10.heap.size w10 w11 from below_then (by go_grown) hb11)
  have H0_ := Lib.hid (show Ints w11 a0 zs from H0.out.below hb)
  clear H0
  have H0 := H0_
  clear H0_
  have Oa_ := Lib.hid (show Own (w.heap.size + 1 + 1) (w1.heap.size) w11 Aa zs from Oa.out.below hb)
  clear Oa
  have Oa := Oa_
  clear Oa_
  have Ob_ := Lib.hid (show Own (w1.heap.size) (w2.heap.size) w11 Ab (zsel (popB zs a0_1 a0_2) (setZ zs (a0_2 - 1) (-1))) from Ob.out.below hb)
  clear Ob
  have Ob := Ob_
  clear Ob_
  have Ox_ := Lib.hid (show Own (w2.heap.size + 1) (w3.heap.size) w11 Ax (upFrom 1 zs.length) from Ox.out.below hb)
  clear Ox
  have Ox := Ox_
  clear Ox_
  have Og_ := Lib.hid (show Own (w3.heap.size + 1) (w4.heap.size) w11 Ag (upFrom 1 (zsel (popB zs a0_1 a0_2) (setZ zs (a0_2 - 1) (-1))).length) from Og.out.below hb)
  clear Og
  have Og := Og_
  clear Og_
  have Oz_ := Lib.hid (show Own (w9.heap.size + 1) (w10.heap.size) w11 Az zs from Oz.out.below hb)
  clear Oz
  have Oz := Oz_
  clear Oz_
  have RA_ := Lib.hid (show Row w11 (w.heap.size) 24 3 (f3 (.slice a0 zs.length cap0) (.int .i64 a0_1) (.int .i64 a0_2)) from RA.out.back hb)
  clear RA
  have RA := RA_
  clear RA_
  have RB_ := Lib.hid (show Row w11 (w2.heap.size) 27 3 (f3 (.slice Ab (zsel (popB zs a0_1 a0_2) (setZ zs (a0_2 - 1) (-1))).length cb) (.int .i64 (isel (popB zs a0_1 a0_2) a0_1 0)) (.int .i64 (isel (popB zs a0_1 a0_2) (a0_2 - 1) 0))) from RB.out.back hb)
  clear RB
  have RB := RB_
  clear RB_
  have RX_ := Lib.hid (show Row w11 (w3.heap.size) 27 3 (f3 (.slice Ax zs.length cx) (.int .i64 a0_1) (.int .i64 a0_2)) from RX.out.back hb)
  clear RX
  have RX := RX_
  clear RX_
  have RG_ := Lib.hid (show Row w11 (w4.heap.size) 27 3 (f3 (.slice Ag (zsel (popB zs a0_1 a0_2) (setZ zs (a0_2 - 1) (-1))).length cg) (.int .i64 (isel (popB zs a0_1 a0_2) a0_1 0)) (.int .i64 (isel (popB zs a0_1 a0_2) (a0_2 - 1) 0))) from RG.out.back hb)
  clear RG
  have RG := RG_
  clear RG_
  have HB_ := Lib.hid (show Below w.heap.size w w11 from below_then HB.out hb)
  clear HB
  have HB := HB_
  clear HB_
  have hs11 := hb11.size
  (try simp only [World.size_alloc, World.size_setCell, World.size_drew] at hs11)
  have Oh := Lib.hid (show Own (w10.heap.size) (w11.heap.size) w11 Ah (zsel (popB zs a0_1 a0_2) (setZ zs (a0_2 - 1) (-1))) from ho11.more (by first | exact Nat.le_refl _ | (simp only [World.size_alloc]; omega)) (Nat.le_refl _))
  clear ho11
  clear hb hb11
  obtain ⟨cB_0, cB_1, cB_2⟩ := cells3 RB.out
  have lB := RB.out.lt
  go_wp2_with fail
  refine (eqDeque_c (zsel (popB zs a0_1 a0_2) (setZ zs (a0_2 - 1) (-1))) _ _ _ _ _ _ _ _ _ (Oh.out.ints.below (by go_grown)) (Ob.out.ints.below (by go_grown)) rfl rfl hzl).mono ?_
  rintro e w12 ⟨rfl, hb12⟩
  have hb := (show Below w11.heap.size w11 w12 from below_then (by go_grown) hb12)
  have H0_ := Lib.hid (show Ints w12 a0 zs from H0.out.below hb)
  clear H0
  have H0 := H0_
  clear H0_
  have Oa_ := Lib.hid (show Own (w.heap.size + 1 + 1) (w1.heap.size) w12 Aa zs from Oa.out.below hb)
  clear Oa
  have Oa := Oa_
  clear Oa_
  have Ob_ := Lib.hid (show Own (w1.heap.size) (w2.heap.size) w12 Ab (zsel (popB zs a0_1 a0_2) (setZ zs (a0_2 - 1) (-1))) from Ob.out.below hb)
  clear Ob
  have Ob := Ob_
  clear Ob_
  have Ox_ := Lib.hid (show Own (w2.heap.size + 1) (w3.heap.size) w12 Ax (upFrom 1 zs.length) from Ox.out.below hb)
  clear Ox
  have Ox := Ox_
  clear Ox_
  have Og_ := Lib.hid (show Own (w3.heap.size + 1) (w4.heap.size) w12 Ag (upFrom 1 (zsel (popB zs a0_1 a0_2) (setZ zs (a0_2 - 1) (-1))).length) from Og.out.below hb)
  clear Og
  have Og := Og_
  clear Og_
  have Oz_ := Lib.hid (show Own (w9.heap.size + 1) (w10.heap.size) w12 Az zs from Oz.out.below hb)
  clear Oz
  have Oz := Oz_
  clear Oz_
  have Oh_ := Lib.hid (show Own (w10.heap.size) (w11.heap.size) w12 Ah (zsel (popB zs a0_1 a0_2) (setZ zs (a0_2 - 1) (-1))) from Oh.out.below hb)
  clear Oh
  have Oh := Oh_
  clear Oh_
  have RA_ := Lib.hid (show Row w12 (w.heap.size) 24 3 (f3 (.slice a0 zs.length cap0) (.int .i64 a0_1) (.int .i64 a0_2)) from RA.out.back hb)
  clear RA
  have RA := RA_
  clear RA_
  have RB_ := Lib.hid (show Row w12 (w2.heap.size) 27 3 (f3 (.slice Ab (zsel (popB zs a0_1 a0_2) (setZ zs (a0_2 - 1) (-1))).length cb) (.int .i64 (isel (popB zs a0_1 a0_2) a0_1 0)) (.int .i64 (isel (popB zs a0_1 a0_2) (a0_2 - 1) 0))) from RB.out.back hb)
  clear RB
  have RB := RB_
  clear RB_
  have RX_ := Lib.hid (show Row w12 (w3.heap.size) 27 3 (f3 (.slice Ax zs.length cx) (.int .i64 a0_1) (.int .i64 a0_2)) from RX.out.back hb)
  clear RX
  have RX := RX_
  clear RX_
  have RG_ := Lib.hid (show Row w12 (w4.heap.size) 27 3 (f3 (.slice Ag (zsel (popB zs a0_1 a0_2) (setZ zs (a0_2 - 1) (-1))).length cg) (.int .i64 (isel (popB zs a0_1 a0_2) a0_1 0)) (.int .i64 (isel (popB zs a0_1 a0_2) (a0_2 - 1) 0))) from RG.out.back hb)
  clear RG
  have RG := RG_
  clear RG_
  have RK := Lib.hid (show Row w12 (w11.heap.size) 27 3 (f3 (.slice Ah (zsel (popB zs a0_1 a0_2) (setZ zs (a0_2 - 1) (-1))).length ch) (.int .i64 (isel (popB zs a0_1 a0_2) a0_1 0)) (.int .i64 (isel (popB zs a0_1 a0_2) (a0_2 - 1) 0))) from Row.back (by (repeat (first | ((with_reducible refine row_box3x _ _ _ _ _ _ ?_) <;> (go_size; done)) | (with_reducible refine Row.alloc ?_ _) | (with_reducible refine Row.drew ?_)))) hb12)
  have HB_ := Lib.hid (show Below w.heap.size w w12 from below_then HB.out hb)
  clear HB
  have HB := HB_
  clear HB_
  have hs12 := hb12.size
  (try simp only [World.size_alloc, World.size_setCell, World.size_drew] at hs12)
  clear hb hb12
  clear cB_0 cB_1 cB_2 lB
  obtain ⟨cG_0, cG_1, cG_2⟩ := cells3 RG.out
  have lG := RG.out.lt
  go_wp2_with fail
  refine (heldDeque_c _ _ _ _ _ 1 _ (Og.out.ints.below (by go_grown)) hzl (by omega) (by omega)).mono ?_
  rintro e w_ ⟨rfl, rfl⟩
  go_wp2
  go_ret
  exact ⟨rfl, by have hhh := HB.out; go_grown⟩

end Go.Proofs.Ythfpplpklhclgaa
