/-
  Places along lines.
-/
import Derived.Test.YtibmdlnhchgjcaaLine
import Derived.Deep.QuietTactic
import Derived.BigQuiet
namespace Go.Proofs.Ytibmdlnhchgjcaa
open Go.RowKit
set_option linter.unusedSimpArgs false
set_option linter.unusedVariables false

/-- How far a point is between two ones, in 256ths. -/
def alongV (x y x' y' p q : Int) : Int := max 0 (min 256 (rnd (256 * ((p - x) * (x' - x) + (q - y) * (y' - y))) ((x' - x) * (x' - x) + (y' - y) * (y' - y))))
theorem prod_bd2 {a b : Int} (h1 : -2000 ≤ a) (h2 : a ≤ 2000) (h3 : -2000 ≤ b) (h4 : b ≤ 2000) : -4000000 ≤ a * b ∧ a * b ≤ 4000000 := by
  have h : (a * b).natAbs ≤ 2000 * 2000 := by rw [Int.natAbs_mul]; exact Nat.mul_le_mul (by omega) (by omega)
  omega
theorem sq_pos {a : Int} (h : a ≠ 0) : 1 ≤ a * a := by
  rcases Int.lt_or_gt_of_ne h with h | h
  · have := Int.mul_pos (show 0 < -a by omega) (show 0 < -a by omega); rw [Int.neg_mul_neg] at this; omega
  · have := Int.mul_pos h h; omega
theorem AlongOf_i_ok (x y x' y' p q : Int) (w : World) (h : -1000 ≤ x ∧ x ≤ 1000 ∧ -1000 ≤ y ∧ y ≤ 1000 ∧ -1000 ≤ x' ∧ x' ≤ 1000 ∧ -1000 ≤ y' ∧ y' ≤ 1000 ∧ -1000 ≤ p ∧ p ≤ 1000 ∧ -1000 ≤ q ∧ q ≤ 1000) (hx : ¬ x = x') (hd : 1 ≤ (x' - x) * (x' - x) + (y' - y) * (y' - y)) (h0 : ((x' - x) * (x' - x) + (y' - y) * (y' - y) == 0) = false) : Calls Try.prog 38 #[.agg #[.int .i64 x, .int .i64 y], .agg #[.int .i64 x', .int .i64 y'], .agg #[.int .i64 p, .int .i64 q]] w fun e w' => e = .returned (.int .i64 (alongV x y x' y' p q)) ∧ Below w.heap.size w w' := by
  obtain ⟨h1, h2, h3, h4, h5, h6, h7, h8, g1, g2, g3, g4⟩ := h
  obtain ⟨s1, s2⟩ := sq_bd (a := x' - x) (by omega) (by omega)
  obtain ⟨s3, s4⟩ := sq_bd (a := y' - y) (by omega) (by omega)
  obtain ⟨t1, t2⟩ := prod_bd2 (a := p - x) (b := x' - x) (by omega) (by omega) (by omega) (by omega)
  obtain ⟨t3, t4⟩ := prod_bd2 (a := q - y) (b := y' - y) (by omega) (by omega) (by omega) (by omega)
  unfold alongV
  go_enter Try.func38, Try.ntmps38
  go_wp2
  go_quiet (fail)
  go_wp2_with (first | (go_at_call 55; refine (round_c _ _ _ (by omega) (by omega) (by omega) (by omega)).mono ?_; rintro e w1 ⟨rfl, rfl⟩))
  all_goals (go_returns; exact ⟨ret_int (by omega), by first | (go_grown; done) | (refine below_drewN ?_ _; go_grown)⟩)
theorem AlongOf_i_ok2 (x y y' p q : Int) (w : World) (h : -1000 ≤ x ∧ x ≤ 1000 ∧ -1000 ≤ y ∧ y ≤ 1000 ∧ -1000 ≤ x ∧ x ≤ 1000 ∧ -1000 ≤ y' ∧ y' ≤ 1000 ∧ -1000 ≤ p ∧ p ≤ 1000 ∧ -1000 ≤ q ∧ q ≤ 1000) (hx : ¬ y = y') (hd : 1 ≤ (y' - y) * (y' - y)) (h0 : ((y' - y) * (y' - y) == 0) = false) : Calls Try.prog 38 #[.agg #[.int .i64 x, .int .i64 y], .agg #[.int .i64 x, .int .i64 y'], .agg #[.int .i64 p, .int .i64 q]] w fun e w' => e = .returned (.int .i64 (alongV x y x y' p q)) ∧ Below w.heap.size w w' := by
  obtain ⟨h1, h2, h3, h4, h5, h6, h7, h8, g1, g2, g3, g4⟩ := h
  obtain ⟨s1, s2⟩ := sq_bd (a := x - x) (by omega) (by omega)
  obtain ⟨s3, s4⟩ := sq_bd (a := y' - y) (by omega) (by omega)
  obtain ⟨t1, t2⟩ := prod_bd2 (a := p - x) (b := x - x) (by omega) (by omega) (by omega) (by omega)
  obtain ⟨t3, t4⟩ := prod_bd2 (a := q - y) (b := y' - y) (by omega) (by omega) (by omega) (by omega)
  unfold alongV
  simp only [Int.sub_self, Int.mul_zero, Int.zero_add]
  clear s1 s2 t1 t2
  go_enter Try.func38, Try.ntmps38
  go_wp2
  go_quiet (fail)
  go_wp2_with (first | (go_at_call 55; refine (round_c _ _ _ (by omega) (by omega) (by omega) (by omega)).mono ?_; rintro e w1 ⟨rfl, rfl⟩))
  all_goals (go_returns; exact ⟨ret_int (by omega), by first | (go_grown; done) | (refine below_drewN ?_ _; go_grown)⟩)
theorem AlongOf_i_same (x y p q : Int) (w : World) (h : -1000 ≤ x ∧ x ≤ 1000 ∧ -1000 ≤ y ∧ y ≤ 1000 ∧ -1000 ≤ x ∧ x ≤ 1000 ∧ -1000 ≤ y ∧ y ≤ 1000 ∧ -1000 ≤ p ∧ p ≤ 1000 ∧ -1000 ≤ q ∧ q ≤ 1000) : Calls Try.prog 38 #[.agg #[.int .i64 x, .int .i64 y], .agg #[.int .i64 x, .int .i64 y], .agg #[.int .i64 p, .int .i64 q]] w fun e w' => e = .returned (.int .i64 0) ∧ Below w.heap.size w w' := by
  obtain ⟨h1, h2, h3, h4, h5, h6, h7, h8, g1, g2, g3, g4⟩ := h
  go_enter Try.func38, Try.ntmps38
  go_wp2
  go_returns
  exact ⟨rfl, by go_grown⟩
theorem AlongOf_i_no (x y x' y' p q : Int) (w : World) (h : ¬ (-1000 ≤ x ∧ x ≤ 1000 ∧ -1000 ≤ y ∧ y ≤ 1000 ∧ -1000 ≤ x' ∧ x' ≤ 1000 ∧ -1000 ≤ y' ∧ y' ≤ 1000 ∧ -1000 ≤ p ∧ p ≤ 1000 ∧ -1000 ≤ q ∧ q ≤ 1000)) : Calls Try.prog 38 #[.agg #[.int .i64 x, .int .i64 y], .agg #[.int .i64 x', .int .i64 y'], .agg #[.int .i64 p, .int .i64 q]] w fun e w' => e = .returned (.int .i64 0) ∧ Below w.heap.size w w' := by
  have H := Lib.hid h
  clear h
  go_enter Try.func38, Try.ntmps38
  go_wp2
  all_goals first | (exfalso; have hh := H.out; clear H; (try simp only [Bool.not_eq_eq_eq_not, Bool.not_false, decide_eq_true_eq] at *); omega) | (go_returns; exact ⟨rfl, by go_grown⟩)
theorem AlongOf_s_ok (x y x' y' p q : Int) (w : World) (h : -1000 ≤ x ∧ x ≤ 1000 ∧ -1000 ≤ y ∧ y ≤ 1000 ∧ -1000 ≤ x' ∧ x' ≤ 1000 ∧ -1000 ≤ y' ∧ y' ≤ 1000 ∧ -1000 ≤ p ∧ p ≤ 1000 ∧ -1000 ≤ q ∧ q ≤ 1000) (hx : ¬ x = x') (hd : 1 ≤ (x' - x) * (x' - x) + (y' - y) * (y' - y)) (h0 : ((x' - x) * (x' - x) + (y' - y) * (y' - y) == 0) = false) : Calls Try.prog 37 #[.agg #[.int .i64 x, .int .i64 y], .agg #[.int .i64 x', .int .i64 y'], .agg #[.int .i64 p, .int .i64 q]] w fun e w' => e = .returned (.int .i64 (alongV x y x' y' p q)) ∧ Below w.heap.size w w' := by
  obtain ⟨h1, h2, h3, h4, h5, h6, h7, h8, g1, g2, g3, g4⟩ := h
  obtain ⟨s1, s2⟩ := sq_bd (a := x' - x) (by omega) (by omega)
  obtain ⟨s3, s4⟩ := sq_bd (a := y' - y) (by omega) (by omega)
  obtain ⟨t1, t2⟩ := prod_bd2 (a := p - x) (b := x' - x) (by omega) (by omega) (by omega) (by omega)
  obtain ⟨t3, t4⟩ := prod_bd2 (a := q - y) (b := y' - y) (by omega) (by omega) (by omega) (by omega)
  unfold alongV
  go_enter Try.func37, Try.ntmps37
  go_wp2_with (first | (go_at_call 54; refine (nearest_c _ _ _ (by omega) (by omega) (by omega) (by omega)).mono ?_; rintro e w1 ⟨rfl, rfl⟩) | go_in)
  all_goals (go_returns; exact ⟨ret_int (by omega), by first | (go_grown; done) | (refine below_drewN ?_ _; go_grown)⟩)
theorem AlongOf_s_ok2 (x y y' p q : Int) (w : World) (h : -1000 ≤ x ∧ x ≤ 1000 ∧ -1000 ≤ y ∧ y ≤ 1000 ∧ -1000 ≤ x ∧ x ≤ 1000 ∧ -1000 ≤ y' ∧ y' ≤ 1000 ∧ -1000 ≤ p ∧ p ≤ 1000 ∧ -1000 ≤ q ∧ q ≤ 1000) (hx : ¬ y = y') (hd : 1 ≤ (y' - y) * (y' - y)) (h0 : ((y' - y) * (y' - y) == 0) = false) : Calls Try.prog 37 #[.agg #[.int .i64 x, .int .i64 y], .agg #[.int .i64 x, .int .i64 y'], .agg #[.int .i64 p, .int .i64 q]] w fun e w' => e = .returned (.int .i64 (alongV x y x y' p q)) ∧ Below w.heap.size w w' := by
  obtain ⟨h1, h2, h3, h4, h5, h6, h7, h8, g1, g2, g3, g4⟩ := h
  obtain ⟨s1, s2⟩ := sq_bd (a := x - x) (by omega) (by omega)
  obtain ⟨s3, s4⟩ := sq_bd (a := y' - y) (by omega) (by omega)
  obtain ⟨t1, t2⟩ := prod_bd2 (a := p - x) (b := x - x) (by omega) (by omega) (by omega) (by omega)
  obtain ⟨t3, t4⟩ := prod_bd2 (a := q - y) (b := y' - y) (by omega) (by omega) (by omega) (by omega)
  unfold alongV
  simp only [Int.sub_self, Int.mul_zero, Int.zero_add]
  clear s1 s2 t1 t2
  go_enter Try.func37, Try.ntmps37
  go_wp2_with (first | (go_at_call 54; refine (nearest_c _ _ _ (by omega) (by omega) (by omega) (by omega)).mono ?_; rintro e w1 ⟨rfl, rfl⟩) | go_in)
  all_goals (go_returns; exact ⟨ret_int (by omega), by first | (go_grown; done) | (refine below_drewN ?_ _; go_grown)⟩)
theorem AlongOf_s_same (x y p q : Int) (w : World) (h : -1000 ≤ x ∧ x ≤ 1000 ∧ -1000 ≤ y ∧ y ≤ 1000 ∧ -1000 ≤ x ∧ x ≤ 1000 ∧ -1000 ≤ y ∧ y ≤ 1000 ∧ -1000 ≤ p ∧ p ≤ 1000 ∧ -1000 ≤ q ∧ q ≤ 1000) : Calls Try.prog 37 #[.agg #[.int .i64 x, .int .i64 y], .agg #[.int .i64 x, .int .i64 y], .agg #[.int .i64 p, .int .i64 q]] w fun e w' => e = .returned (.int .i64 0) ∧ Below w.heap.size w w' := by
  obtain ⟨h1, h2, h3, h4, h5, h6, h7, h8, g1, g2, g3, g4⟩ := h
  go_enter Try.func37, Try.ntmps37
  go_wp2
  go_returns
  exact ⟨rfl, by go_grown⟩
theorem AlongOf_s_no (x y x' y' p q : Int) (w : World) (h : ¬ (-1000 ≤ x ∧ x ≤ 1000 ∧ -1000 ≤ y ∧ y ≤ 1000 ∧ -1000 ≤ x' ∧ x' ≤ 1000 ∧ -1000 ≤ y' ∧ y' ≤ 1000 ∧ -1000 ≤ p ∧ p ≤ 1000 ∧ -1000 ≤ q ∧ q ≤ 1000)) : Calls Try.prog 37 #[.agg #[.int .i64 x, .int .i64 y], .agg #[.int .i64 x', .int .i64 y'], .agg #[.int .i64 p, .int .i64 q]] w fun e w' => e = .returned (.int .i64 0) ∧ Below w.heap.size w w' := by
  have H := Lib.hid h
  clear h
  go_enter Try.func37, Try.ntmps37
  go_wp2
  all_goals first | (exfalso; have hh := H.out; clear H; (try simp only [Bool.not_eq_eq_eq_not, Bool.not_false, decide_eq_true_eq] at *); omega) | (go_returns; exact ⟨rfl, by go_grown⟩)
end Go.Proofs.Ytibmdlnhchgjcaa
