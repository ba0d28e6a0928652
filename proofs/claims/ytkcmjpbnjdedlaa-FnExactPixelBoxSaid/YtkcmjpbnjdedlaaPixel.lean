/-
  Pixels that a box touches.
-/
import Derived.Test.YtkcmjpbnjdedlaaSlice
import Derived.Deep.RegionHeld3
import Derived.Deep.DrawnRows
namespace Go.Proofs.Ytkcmjpbnjdedlaa
open Go.RowKit
set_option linter.unusedSimpArgs false
set_option linter.unusedVariables false

attribute [local go_sem ↓] Go.wp_at_zero Go.wp_at_succ
theorem toBox_c (l t r b : Int) (w : World) : Calls Try.prog 15 #[.agg #[.int .i64 l, .int .i64 t, .int .i64 r, .int .i64 b]] w fun e w' => e = .returned (.agg #[.int .i64 l, .int .i64 t, .int .i64 r, .int .i64 b]) ∧ ((w.alloc (.cells #[.int .i64 l, .int .i64 t, .int .i64 r, .int .i64 b] 23)).alloc (.cells #[.int .i64 l, .int .i64 t, .int .i64 r, .int .i64 b] 24)).alloc (.cells #[.int .i64 l, .int .i64 t, .int .i64 r, .int .i64 b] 24) = w' := by
  go_enter Try.func15, Try.ntmps15
  go_wp2
  go_returns
  exact ⟨rfl, rfl⟩
theorem eqBox_c (l t r b : Int) (w : World) : Calls Try.prog 17 #[.agg #[.int .i64 l, .int .i64 t, .int .i64 r, .int .i64 b], .agg #[.int .i64 l, .int .i64 t, .int .i64 r, .int .i64 b]] w fun e w' => e = .returned (.bool true) ∧ (w.alloc (.cells #[.int .i64 l, .int .i64 t, .int .i64 r, .int .i64 b] 24)).alloc (.cells #[.int .i64 l, .int .i64 t, .int .i64 r, .int .i64 b] 24) = w' := by
  go_enter Try.func17, Try.ntmps17
  go_wp2
  go_returns
  exact ⟨rfl, rfl⟩
set_option maxHeartbeats 1000000 in
theorem pixelBox_s (l t r b : Int) (w : World) (h : -1000 ≤ l ∧ l ≤ r ∧ r ≤ 1000 ∧ -1000 ≤ t ∧ t ≤ b ∧ b ≤ 1000) : Calls Try.prog 41 #[.agg #[.int .i64 l, .int .i64 t, .int .i64 r, .int .i64 b]] w fun e w' => e = .returned (.agg #[.int .i64 (l / 16), .int .i64 (t / 16), .int .i64 (r / 16 + 1), .int .i64 (b / 16 + 1)]) ∧ ((w.alloc (.cells #[.int .i64 l, .int .i64 t, .int .i64 r, .int .i64 b] 24)).alloc (.cells #[.int .i64 (l / 16), .int .i64 (t / 16), .int .i64 (r / 16 + 1), .int .i64 (b / 16 + 1)] 24)).drew = w' := by
  obtain ⟨h1, h2, h3, h4, h5, h6⟩ := h
  have e1 := IntWalk.i64_in (r / 16 + 1) (by omega)
  have e2 := IntWalk.i64_in (b / 16 + 1) (by omega)
  go_enter Try.func41, Try.ntmps41
  go_wp2_with fail
  go_region_held3 (fun w' => w'.cell? ⟨w.heap.size, 0, none⟩ = some (.int .i64 l) ∧ w'.cell? ⟨w.heap.size, 1, none⟩ = some (.int .i64 t) ∧ w'.cell? ⟨w.heap.size, 2, none⟩ = some (.int .i64 r) ∧ w'.cell? ⟨w.heap.size, 3, none⟩ = some (.int .i64 b)) ((repeat' apply And.intro) <;> (first | ((repeat (first | (with_reducible assumption) | (with_reducible refine cell_keepD ?_) | (with_reducible refine cell_keepA ?_ _) | (with_reducible refine cell_keepS ?_ _ (by simp only []; omega)) | (with_reducible refine (hc1 _ _ (by go_size)).trans ?_))); done) | (go_cell; done)))
    (first | (go_at_call 53; refine (floorDiv_c _ _ _ (by omega) (by omega) (by omega) (by omega)).mono ?_; rintro e w' ⟨rfl, rfl⟩))
  all_goals (go_wp2; go_returns; exact ⟨rfl, rfl⟩)
set_option maxHeartbeats 1000000 in
theorem PixelBox_s_ok (l t r b : Int) (w : World) (h : -1000 ≤ l ∧ l ≤ r ∧ r ≤ 1000 ∧ -1000 ≤ t ∧ t ≤ b ∧ b ≤ 1000) : Calls Try.prog 14 #[.agg #[.int .i64 l, .int .i64 t, .int .i64 r, .int .i64 b]] w fun e w' => e = .returned (.agg #[.int .i64 (l / 16), .int .i64 (t / 16), .int .i64 (r / 16 + 1), .int .i64 (b / 16 + 1)]) ∧ Below w.heap.size w w' := by
  have hh := h
  obtain ⟨h1, h2, h3, h4, h5, h6⟩ := hh
  have H := Lib.hid h
  clear h
  go_enter Try.func14, Try.ntmps14
  go_wp2_with (first | (go_at_call 41; refine (pixelBox_s _ _ _ _ _ H.out).mono ?_; rintro e w1 ⟨rfl, rfl⟩) | go_in)
  go_returns
  exact ⟨rfl, by go_grown⟩
set_option maxHeartbeats 1000000 in
theorem PixelBox_i_ok (l t r b : Int) (w : World) (h : -1000 ≤ l ∧ l ≤ r ∧ r ≤ 1000 ∧ -1000 ≤ t ∧ t ≤ b ∧ b ≤ 1000) : Calls Try.prog 16 #[.agg #[.int .i64 l, .int .i64 t, .int .i64 r, .int .i64 b]] w fun e w' => e = .returned (.agg #[.int .i64 (l / 16), .int .i64 (t / 16), .int .i64 (r / 16 + 1), .int .i64 (b / 16 + 1)]) ∧ Below w.heap.size w w' := by
  obtain ⟨h1, h2, h3, h4, h5, h6⟩ := h
  have e1 := IntWalk.i64_in (r / 16 + 1) (by omega)
  have e2 := IntWalk.i64_in (b / 16 + 1) (by omega)
  go_enter Try.func16, Try.ntmps16
  go_wp2
  go_region_held3 (fun w' => w'.cell? ⟨w.heap.size, 0, none⟩ = some (.int .i64 l) ∧ w'.cell? ⟨w.heap.size, 1, none⟩ = some (.int .i64 t) ∧ w'.cell? ⟨w.heap.size, 2, none⟩ = some (.int .i64 r) ∧ w'.cell? ⟨w.heap.size, 3, none⟩ = some (.int .i64 b)) ((repeat' apply And.intro) <;> (first | ((repeat (first | (with_reducible assumption) | (with_reducible refine cell_keepD ?_) | (with_reducible refine cell_keepA ?_ _) | (with_reducible refine cell_keepS ?_ _ (by simp only []; omega)) | (with_reducible refine (hc1 _ _ (by go_size)).trans ?_))); done) | (go_cell; done)))
    (first | (go_at_call 43; refine (floor_c _ _ _ (by omega) (by omega) (by omega) (by omega)).mono ?_; rintro e w' ⟨rfl, rfl⟩))
  all_goals (go_wp2; go_returns; exact ⟨rfl, by go_grown⟩)
theorem PixelBox_s_no (l t r b : Int) (w : World) (h : ¬ (-1000 ≤ l ∧ l ≤ r ∧ r ≤ 1000 ∧ -1000 ≤ t ∧ t ≤ b ∧ b ≤ 1000)) : Calls Try.prog 14 #[.agg #[.int .i64 l, .int .i64 t, .int .i64 r, .int .i64 b]] w fun e w' => e = .returned (.agg #[.int .i64 0, .int .i64 0, .int .i64 0, .int .i64 0]) ∧ Below w.heap.size w w' := by
  have H := Lib.hid h
  clear h
  go_enter Try.func14, Try.ntmps14
  go_wp2
  all_goals first | (exfalso; have hh := H.out; clear H; (try simp only [Bool.not_eq_eq_eq_not, Bool.not_false, Bool.not_true, decide_eq_true_eq, decide_eq_false_iff_not] at *); omega) | (go_returns; exact ⟨rfl, by go_grown⟩)
theorem PixelBox_i_no (l t r b : Int) (w : World) (h : ¬ (-1000 ≤ l ∧ l ≤ r ∧ r ≤ 1000 ∧ -1000 ≤ t ∧ t ≤ b ∧ b ≤ 1000)) : Calls Try.prog 16 #[.agg #[.int .i64 l, .int .i64 t, .int .i64 r, .int .i64 b]] w fun e w' => e = .returned (.agg #[.int .i64 0, .int .i64 0, .int .i64 0, .int .i64 0]) ∧ Below w.heap.size w w' := by
  have H := Lib.hid h
  clear h
  go_enter Try.func16, Try.ntmps16
  go_wp2
  all_goals first | (exfalso; have hh := H.out; clear H; (try simp only [Bool.not_eq_eq_eq_not, Bool.not_false, Bool.not_true, decide_eq_true_eq, decide_eq_false_iff_not] at *); omega) | (go_returns; exact ⟨rfl, by go_grown⟩)
end Go.Proofs.Ytkcmjpbnjdedlaa
