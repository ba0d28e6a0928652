/-
  What PopTile returns: by the program and by the reference. (Conditions: the bounds of each theorem.)
-/
import Derived.Test.YthfpplpklhclgaaDequeP
import Derived.Deep.RegionHeld3
import Derived.Deep.DrawnRows
namespace Go.Proofs.Ythfpplpklhclgaa
open Go.RowKit
set_option linter.unusedSimpArgs false
set_option linter.unusedVariables false

attribute [local go_sem ↓] Go.wp_at_zero Go.wp_at_succ
set_option maxHeartbeats 4000000 in
theorem PopTile_s (zs : List Int) (A : Option Addr) (n cap : Nat) (a b : Int) (w : World) (h : Ints w A zs) (hn : zs.length = n) (hm : zs.length ≤ 1000000000000) :
    Calls Try.prog 24 #[.agg #[.slice A n cap, .int .i64 a, .int .i64 b]] w (MadeP3 w (zsel (popB zs a b) (setZ zs (b - 1) (-1))) (isel (popB zs a b) a 0) (isel (popB zs a b) (b - 1) 0) (isel (popB zs a b) (nth zs ((b - 1) % 16).toNat) (-1)) (popB zs a b)) := by
  subst hn
  have HI := Lib.hid h
  clear h
  cases hv : devB zs a b
  · rw [show (popB zs a b) = false by simp [popB, hv]]
    simp only [zsel, isel, Bool.false_eq_true, if_false]
    go_enter Try.func24, Try.ntmps24
    go_wp2_with (first | (go_at_call 31; refine (inRange_c _ _ _ _).mono ?_; rintro e w' ⟨rfl, rfl⟩) | fail)
    refine (validDeque_s zs _ _ _ _ _ _ (HI.out.below (by go_grown)) rfl hm).mono ?_
    rintro e w1 ⟨rfl, hb⟩
    have R1 := (show Row w1 w.heap.size 27 3 (f3 (.slice A zs.length cap) (.int .i64 a) (.int .i64 b)) from Row.back (by (repeat (first | ((with_reducible refine row_box3x _ _ _ _ _ _ ?_) <;> (go_size; done)) | (with_reducible refine Row.alloc ?_ _) | (with_reducible refine Row.drew ?_)))) hb)
    have R2 := (show Row w1 (w.heap.size + 1) 27 3 (f3 (.slice none 0 0) (.int .i64 0) (.int .i64 0)) from Row.back (by (repeat (first | ((with_reducible refine row_box3x _ _ _ _ _ _ ?_) <;> (go_size; done)) | (with_reducible refine Row.alloc ?_ _) | (with_reducible refine Row.drew ?_)))) hb)
    have HR1 := Lib.hid R1
    have HR2 := Lib.hid R2
    obtain ⟨a0, a1, a2⟩ := cells3 R1
    obtain ⟨b0, b1, b2⟩ := cells3 R2
    have e0 := R2.free 0
    have e1 := R2.free 1
    have e2 := R2.free 2
    have hz := hb.size
    simp only [World.size_alloc] at hz
    have lA : w.heap.size < w1.heap.size := by omega
    have HB := Lib.hid (show Below w.heap.size w w1 from below_then (by go_grown) hb)
    rw [hv]
    clear R1 R2 hb hv
    go_wp2_with (first | (go_at_call 31; refine (inRange_c _ _ _ _).mono ?_; rintro e w' ⟨rfl, rfl⟩))
    refine bodyPost_ret (by simp [results, Try.results24, go_sem, *]; try rfl) rfl ?_
    exact ⟨none, 0, rfl, Nat.le_refl _, Own.nil _ _ _ _, by have hhh := HB.out; go_grown⟩
  obtain ⟨hl, a0, a1, ab, b1, b2⟩ := devB_true hv
  have HL := Lib.hid hl
  have hl1 : zs.length ≤ 16 := by omega
  have hl2 : 16 ≤ zs.length := by omega
  clear hl
  by_cases k0 : a = b
  · subst k0
    rw [show (popB zs a a) = false by simp [popB]]
    simp only [zsel, isel, Bool.false_eq_true, if_false]
    go_enter Try.func24, Try.ntmps24
    go_wp2_with (first | (go_at_call 31; refine (inRange_c _ _ _ _).mono ?_; rintro e w' ⟨rfl, rfl⟩) | fail)
    refine (validDeque_s zs _ _ _ _ _ _ (HI.out.below (by go_grown)) rfl hm).mono ?_
    rintro e w1 ⟨rfl, hb⟩
    have R1 := (show Row w1 w.heap.size 27 3 (f3 (.slice A zs.length cap) (.int .i64 a) (.int .i64 a)) from Row.back (by (repeat (first | ((with_reducible refine row_box3x _ _ _ _ _ _ ?_) <;> (go_size; done)) | (with_reducible refine Row.alloc ?_ _) | (with_reducible refine Row.drew ?_)))) hb)
    have R2 := (show Row w1 (w.heap.size + 1) 27 3 (f3 (.slice none 0 0) (.int .i64 0) (.int .i64 0)) from Row.back (by (repeat (first | ((with_reducible refine row_box3x _ _ _ _ _ _ ?_) <;> (go_size; done)) | (with_reducible refine Row.alloc ?_ _) | (with_reducible refine Row.drew ?_)))) hb)
    have HR1 := Lib.hid R1
    have HR2 := Lib.hid R2
    obtain ⟨c0, c1, c2⟩ := cells3 R1
    obtain ⟨b0, b1, b2⟩ := cells3 R2
    have e0 := R2.free 0
    have e1 := R2.free 1
    have e2 := R2.free 2
    have hz := hb.size
    simp only [World.size_alloc] at hz
    have lA : w.heap.size < w1.heap.size := by omega
    have HB := Lib.hid (show Below w.heap.size w w1 from below_then (by go_grown) hb)
    rw [hv]
    clear R1 R2 hb hv
    go_wp2_with (first | (go_at_call 31; refine (inRange_c _ _ _ _).mono ?_; rintro e w' ⟨rfl, rfl⟩))
    refine bodyPost_ret (by simp [results, Try.results24, go_sem, *]; try rfl) rfl ?_
    exact ⟨none, 0, rfl, Nat.le_refl _, Own.nil _ _ _ _, by have hhh := HB.out; go_grown⟩
  rw [show (popB zs a b) = true by simp [popB, hv, k0]]
  simp only [zsel, isel, if_true]
  have x0 : (a == b) = false := by rw [beq_eq_false_iff_ne]; exact k0
  obtain ⟨bb, off, rfl, hbb, hcc⟩ := HI.out (by omega)
  obtain ⟨q, hq, hq1, hq2⟩ := mod_q (n := (b - 1)) (by omega)
  have hcq := hcc q (by omega)
  have HQ := Lib.hid hq
  have hq0 : (0 : Int) ≤ (q : Int) := by omega
  have hq3 : (q : Int) < 16 := by omega
  have hq4 : (q : Int) < (zs.length : Int) := by omega
  clear hcc hq
  go_enter Try.func24, Try.ntmps24
  go_wp2_with (first | (go_at_call 31; refine (inRange_c _ _ _ _).mono ?_; rintro e w' ⟨rfl, rfl⟩) | fail)
  refine (validDeque_s zs _ _ _ _ _ _ (HI.out.below (by go_grown)) rfl hm).mono ?_
  rintro e w1 ⟨rfl, hb⟩
  have R1 := (show Row w1 w.heap.size 27 3 (f3 (.slice (some ⟨bb, off, none⟩) zs.length cap) (.int .i64 a) (.int .i64 b)) from Row.back (by (repeat (first | ((with_reducible refine row_box3x _ _ _ _ _ _ ?_) <;> (go_size; done)) | (with_reducible refine Row.alloc ?_ _) | (with_reducible refine Row.drew ?_)))) hb)
  have R2 := (show Row w1 (w.heap.size + 1) 27 3 (f3 (.slice none 0 0) (.int .i64 0) (.int .i64 0)) from Row.back (by (repeat (first | ((with_reducible refine row_box3x _ _ _ _ _ _ ?_) <;> (go_size; done)) | (with_reducible refine Row.alloc ?_ _) | (with_reducible refine Row.drew ?_)))) hb)
  have HR1 := Lib.hid R1
  have HR2 := Lib.hid R2
  obtain ⟨c0, c1, c2⟩ := cells3 R1
  obtain ⟨b0, b1, b2⟩ := cells3 R2
  have e0 := R2.free 0
  have e1 := R2.free 1
  have e2 := R2.free 2
  have hz := hb.size
  simp only [World.size_alloc] at hz
  have lA : w.heap.size < w1.heap.size := by omega
  have HB := Lib.hid (show Below w.heap.size w w1 from below_then (by go_grown) hb)
  rw [hv]
  have sq1 : w1.cell? ⟨bb, off + q, none⟩ = some (.int .i64 (nth zs q)) := (HB.out.cell (p := ⟨bb, off + q, none⟩) hbb).trans hcq
  have HI1 := Lib.hid (HI.out.below HB.out)
  clear R1 R2 hb hv
  have zbb : bb < w1.heap.size := by omega
  have ew1 := IntWalk.i64_in (b + 1) (by omega)
  have ew2 := IntWalk.i64_in (a + 1) (by omega)
  have ew3 := IntWalk.i64_in (b - 1) (by omega)
  go_wp2_with (first | (go_at_call 31; refine (inRange_c _ _ _ _).mono ?_; rintro e w' ⟨rfl, rfl⟩) | fail)
  go_region_held3 (fun w' => w'.cell? ⟨w.heap.size, 0, none⟩ = some (.slice (some ⟨bb, off, none⟩) zs.length cap) ∧ w'.cell? ⟨w.heap.size, 1, none⟩ = some (.int .i64 a) ∧ w'.cell? ⟨w.heap.size, 2, none⟩ = some (.int .i64 b) ∧ w'.cell? ⟨bb, off + q, none⟩ = some (.int .i64 (nth zs q))) ((repeat' apply And.intro) <;> (first | ((repeat (first | (with_reducible assumption) | (with_reducible refine cell_keepD ?_) | (with_reducible refine cell_keepA ?_ _) | (with_reducible refine cell_keepS ?_ _ (by simp only []; omega)) | (with_reducible refine (hc1 _ _ (by go_size)).trans ?_))); done) | (go_cell; done)))
    (first | (go_at_call 32; refine (withSlot_c zs _ _ _ _ _ _ (HI1.out.below (by go_grown)) rfl HL.out (by omega) (by omega)).mono ?_; rintro e wz ⟨A2, c2', rfl, hcz, ho, hbz⟩; obtain ⟨hc1, hf1⟩ := bcell hbz; have hz1 := hbz.size; (try simp only [World.size_alloc, World.size_setCell, World.size_drew] at hz1); have zA : w.heap.size < wz.heap.size := (by omega); have zQ : bb < wz.heap.size := (by omega); have zB : w.heap.size + 1 < wz.heap.size := (by omega); have hw := (show Below w1.heap.size w1 wz from below_then (by go_grown) hbz); have rr := HR2.out.back hw; obtain ⟨r0, r1, r2⟩ := cells3 rr; have t0 := rr.free 0; have t1 := rr.free 1; have t2 := rr.free 2; have HO := Lib.hid (show Own w1.heap.size wz.heap.size wz A2 (setZ zs (b - 1) (-1)) from ho.more (by first | exact Nat.le_refl _ | (simp only [World.size_alloc, World.size_drew]; omega)) (Nat.le_refl _)); have HZ := Lib.hid (below_then HB.out hw); clear ho rr hw))
  go_wp2
  refine bodyPost_ret (by simp [results, Try.results24, go_sem, *]; try rfl) rfl ?_
  refine ⟨A2, c2', by rw [← HQ.out, setZ_length]; try rfl, hcz, ?_, by have hhh := HZ.out; go_grown⟩
  refine Own.more (lo := w1.heap.size) (hi := wz.heap.size) ?_ (by omega) (by simp [World.setCell])
  repeat (first | (with_reducible exact HO.out) | (with_reducible refine Own.far ?_ (by simp only []; omega) _))
set_option maxHeartbeats 4000000 in
theorem PopTile_i (zs : List Int) (A : Option Addr) (n cap : Nat) (a b : Int) (w : World) (h : Ints w A zs) (hn : zs.length = n) (hm : zs.length ≤ 1000000000000) :
    Calls Try.prog 25 #[.agg #[.slice A n cap, .int .i64 a, .int .i64 b]] w (MadeP3 w (zsel (popB zs a b) (setZ zs (b - 1) (-1))) (isel (popB zs a b) a 0) (isel (popB zs a b) (b - 1) 0) (isel (popB zs a b) (nth zs ((b - 1) % 16).toNat) (-1)) (popB zs a b)) := by
  subst hn
  have HI := Lib.hid h
  clear h
  cases hv : devB zs a b
  · rw [show (popB zs a b) = false by simp [popB, hv]]
    simp only [zsel, isel, Bool.false_eq_true, if_false]
    go_enter Try.func25, Try.ntmps25
    go_wp2_with (first | (go_at_call 29; refine (in_c _ _ _ _).mono ?_; rintro e w' ⟨rfl, rfl⟩) | fail)
    refine (ValidDeque_i zs _ _ _ _ _ _ (HI.out.below (by go_grown)) rfl hm).mono ?_
    rintro e w1 ⟨rfl, hb⟩
    have R1 := (show Row w1 w.heap.size 27 3 (f3 (.slice A zs.length cap) (.int .i64 a) (.int .i64 b)) from Row.back (by (repeat (first | ((with_reducible refine row_box3x _ _ _ _ _ _ ?_) <;> (go_size; done)) | (with_reducible refine Row.alloc ?_ _) | (with_reducible refine Row.drew ?_)))) hb)
    have R2 := (show Row w1 (w.heap.size + 1) 27 3 (f3 (.slice none 0 0) (.int .i64 0) (.int .i64 0)) from Row.back (by (repeat (first | ((with_reducible refine row_box3x _ _ _ _ _ _ ?_) <;> (go_size; done)) | (with_reducible refine Row.alloc ?_ _) | (with_reducible refine Row.drew ?_)))) hb)
    have HR1 := Lib.hid R1
    have HR2 := Lib.hid R2
    obtain ⟨a0, a1, a2⟩ := cells3 R1
    obtain ⟨b0, b1, b2⟩ := cells3 R2
    have e0 := R2.free 0
    have e1 := R2.free 1
    have e2 := R2.free 2
    have hz := hb.size
    simp only [World.size_alloc] at hz
    have lA : w.heap.size < w1.heap.size := by omega
    have HB := Lib.hid (show Below w.heap.size w w1 from below_then (by go_grown) hb)
    rw [hv]
    clear R1 R2 hb hv
    go_wp2_with (first | (go_at_call 29; refine (in_c _ _ _ _).mono ?_; rintro e w' ⟨rfl, rfl⟩))
    refine bodyPost_ret (by simp [results, Try.results25, go_sem, *]; try rfl) rfl ?_
    exact ⟨none, 0, rfl, Nat.le_refl _, Own.nil _ _ _ _, by have hhh := HB.out; go_grown⟩
  obtain ⟨hl, a0, a1, ab, b1, b2⟩ := devB_true hv
  have HL := Lib.hid hl
  have hl1 : zs.length ≤ 16 := by omega
  have hl2 : 16 ≤ zs.length := by omega
  clear hl
  by_cases k0 : a = b
  · subst k0
    rw [show (popB zs a a) = false by simp [popB]]
    simp only [zsel, isel, Bool.false_eq_true, if_false]
    go_enter Try.func25, Try.ntmps25
    go_wp2_with (first | (go_at_call 29; refine (in_c _ _ _ _).mono ?_; rintro e w' ⟨rfl, rfl⟩) | fail)
    refine (ValidDeque_i zs _ _ _ _ _ _ (HI.out.below (by go_grown)) rfl hm).mono ?_
    rintro e w1 ⟨rfl, hb⟩
    have R1 := (show Row w1 w.heap.size 27 3 (f3 (.slice A zs.length cap) (.int .i64 a) (.int .i64 a)) from Row.back (by (repeat (first | ((with_reducible refine row_box3x _ _ _ _ _ _ ?_) <;> (go_size; done)) | (with_reducible refine Row.alloc ?_ _) | (with_reducible refine Row.drew ?_)))) hb)
    have R2 := (show Row w1 (w.heap.size + 1) 27 3 (f3 (.slice none 0 0) (.int .i64 0) (.int .i64 0)) from Row.back (by (repeat (first | ((with_reducible refine row_box3x _ _ _ _ _ _ ?_) <;> (go_size; done)) | (with_reducible refine Row.alloc ?_ _) | (with_reducible refine Row.drew ?_)))) hb)
    have HR1 := Lib.hid R1
    have HR2 := Lib.hid R2
    obtain ⟨c0, c1, c2⟩ := cells3 R1
    obtain ⟨b0, b1, b2⟩ := cells3 R2
    have e0 := R2.free 0
    have e1 := R2.free 1
    have e2 := R2.free 2
    have hz := hb.size
    simp only [World.size_alloc] at hz
    have lA : w.heap.size < w1.heap.size := by omega
    have HB := Lib.hid (show Below w.heap.size w w1 from below_then (by go_grown) hb)
    rw [hv]
    clear R1 R2 hb hv
    go_wp2_with (first | (go_at_call 29; refine (in_c _ _ _ _).mono ?_; rintro e w' ⟨rfl, rfl⟩))
    refine bodyPost_ret (by simp [results, Try.results25, go_sem, *]; try rfl) rfl ?_
    exact ⟨none, 0, rfl, Nat.le_refl _, Own.nil _ _ _ _, by have hhh := HB.out; go_grown⟩
  rw [show (popB zs a b) = true by simp [popB, hv, k0]]
  simp only [zsel, isel, if_true]
  have x0 : (a == b) = false := by rw [beq_eq_false_iff_ne]; exact k0
  obtain ⟨bb, off, rfl, hbb, hcc⟩ := HI.out (by omega)
  obtain ⟨q, hq, hq1, hq2⟩ := mod_q (n := (b - 1)) (by omega)
  have hcq := hcc q (by omega)
  have HQ := Lib.hid hq
  have hq0 : (0 : Int) ≤ (q : Int) := by omega
  have hq3 : (q : Int) < 16 := by omega
  have hq4 : (q : Int) < (zs.length : Int) := by omega
  clear hcc hq
  go_enter Try.func25, Try.ntmps25
  go_wp2_with (first | (go_at_call 29; refine (in_c _ _ _ _).mono ?_; rintro e w' ⟨rfl, rfl⟩) | fail)
  refine (ValidDeque_i zs _ _ _ _ _ _ (HI.out.below (by go_grown)) rfl hm).mono ?_
  rintro e w1 ⟨rfl, hb⟩
  have R1 := (show Row w1 w.heap.size 27 3 (f3 (.slice (some ⟨bb, off, none⟩) zs.length cap) (.int .i64 a) (.int .i64 b)) from Row.back (by (repeat (first | ((with_reducible refine row_box3x _ _ _ _ _ _ ?_) <;> (go_size; done)) | (with_reducible refine Row.alloc ?_ _) | (with_reducible refine Row.drew ?_)))) hb)
  have R2 := (show Row w1 (w.heap.size + 1) 27 3 (f3 (.slice none 0 0) (.int .i64 0) (.int .i64 0)) from Row.back (by (repeat (first | ((with_reducible refine row_box3x _ _ _ _ _ _ ?_) <;> (go_size; done)) | (with_reducible refine Row.alloc ?_ _) | (with_reducible refine Row.drew ?_)))) hb)
  have HR1 := Lib.hid R1
  have HR2 := Lib.hid R2
  obtain ⟨c0, c1, c2⟩ := cells3 R1
  obtain ⟨b0, b1, b2⟩ := cells3 R2
  have e0 := R2.free 0
  have e1 := R2.free 1
  have e2 := R2.free 2
  have hz := hb.size
  simp only [World.size_alloc] at hz
  have lA : w.heap.size < w1.heap.size := by omega
  have HB := Lib.hid (show Below w.heap.size w w1 from below_then (by go_grown) hb)
  rw [hv]
  have sq1 : w1.cell? ⟨bb, off + q, none⟩ = some (.int .i64 (nth zs q)) := (HB.out.cell (p := ⟨bb, off + q, none⟩) hbb).trans hcq
  have HI1 := Lib.hid (HI.out.below HB.out)
  clear R1 R2 hb hv
  go_wp2_with (first | (go_at_call 29; refine (in_c _ _ _ _).mono ?_; rintro e w' ⟨rfl, rfl⟩) | fail)
  refine (copyOf_c zs _ _ _ _ _ _ (HI1.out.below (by go_grown)) rfl HL.out).mono ?_
  rintro e w2 ⟨A2, c2', rfl, hc2, ho, hb⟩
  obtain ⟨g, rfl, g1, g2, hr⟩ := ho (by omega)
  have hz2 := hb.size
  (try simp only [World.size_alloc] at hz2 g1)
  have hw := (show Below w1.heap.size w1 w2 from below_then (by go_grown) hb)
  obtain ⟨m0, m1, m2⟩ := cells3 (HR1.out.back hw)
  have R2 := HR2.out.back hw
  obtain ⟨n0, n1, n2⟩ := cells3 R2
  have t0 := R2.free 0
  have t1 := R2.free 1
  have t2 := R2.free 2
  have d0 := hr.cell (i := q) (by omega)
  have f0 := hr.free q
  have sq2 : w2.cell? ⟨bb, off + q, none⟩ = some (.int .i64 (nth zs q)) := (hw.cell (p := ⟨bb, off + q, none⟩) (by show bb < _; omega)).trans sq1
  have HR := Lib.hid hr
  have HZ := Lib.hid (below_then HB.out hw)
  have y1 : bb < w2.heap.size := by omega
  have y2 : w.heap.size + 1 < w2.heap.size := by omega
  have y3 : ¬ g = bb := by omega
  have y4 : ¬ bb = g := by omega
  have y5 : w.heap.size < w2.heap.size := by omega
  have hcl : c2' ≤ maxLen ∨ True := .inr trivial
  clear R2 hw hb ho hr c0 c1 c2 b0 b1 b2 e0 e1 e2 sq1 hcq
  go_wp2_with (first | (go_at_call 29; refine (in_c _ _ _ _).mono ?_; rintro e w' ⟨rfl, rfl⟩) | fail)
  go_region_held3 (fun w' => w'.cell? ⟨w.heap.size, 0, none⟩ = some (.slice (some ⟨bb, off, none⟩) zs.length cap) ∧ w'.cell? ⟨w2.heap.size, 0, none⟩ = some (.slice (some ⟨g, 0, none⟩) zs.length c2') ∧ w'.cell? ⟨w2.heap.size, 1, none⟩ = some (.int .i64 a) ∧ w'.cell? ⟨w2.heap.size, 2, none⟩ = some (.int .i64 (b - 1)) ∧ w'.cell? ⟨bb, off + q, none⟩ = some (.int .i64 (nth zs q))) ((repeat' apply And.intro) <;> (first | ((repeat (first | (with_reducible assumption) | (with_reducible refine cell_keepD ?_) | (with_reducible refine cell_keepA ?_ _) | (with_reducible refine cell_keepS ?_ _ (by simp only []; omega)) | (with_reducible refine (hc1 _ _ (by go_size)).trans ?_))); done) | (go_cell; done)))
    (fail)
  go_wp2
  refine bodyPost_ret (by simp [results, Try.results25, go_sem, *]; try rfl) rfl ?_
  refine ⟨some ⟨g, 0, none⟩, c2', by rw [← HQ.out, setZ_length]; try rfl, by rw [setZ_length]; exact hc2, fun _ => ⟨g, rfl, by omega, by simp [World.setCell]; omega, ?_⟩, by have hhh := HZ.out; go_grown⟩
  rw [setZ_length]
  refine Row.congr (f := fun j => if j = q then .int .i64 (-1) else .int .i64 (nth zs j)) ?_ fun j hj => ?_
  · repeat (first | (with_reducible exact HR.out) | (with_reducible refine Row.drew ?_) | (with_reducible refine Row.far ?_ (by simp only []; omega) _) | (with_reducible refine Row.alloc ?_ _) | (with_reducible refine Row.set ?_ (by omega) _))
  · rw [nth_setZ hj, ← HQ.out]; by_cases e : j = q <;> simp [e]
end Go.Proofs.Ythfpplpklhclgaa
