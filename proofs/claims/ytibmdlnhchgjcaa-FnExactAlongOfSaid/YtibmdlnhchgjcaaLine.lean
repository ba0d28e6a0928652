/-
  Lengths of lines.
-/
import Derived.Test.YtibmdlnhchgjcaaRoot
import Derived.Test.YtibmdlnhchgjcaaSlice
namespace Go.Proofs.Ytibmdlnhchgjcaa
open Go.RowKit
set_option linter.unusedSimpArgs false
set_option linter.unusedVariables false

theorem sq_bd {a : Int} (h1 : -2000 ≤ a) (h2 : a ≤ 2000) : 0 ≤ a * a ∧ a * a ≤ 4000000 := by
  have h : (a * a).natAbs ≤ 2000 * 2000 := by rw [Int.natAbs_mul]; exact Nat.mul_le_mul (by omega) (by omega)
  have h0 : 0 ≤ a * a := by
    rcases Int.le_total 0 a with h | h
    · exact Int.mul_nonneg h h
    · have := Int.mul_nonneg (show 0 ≤ -a by omega) (show 0 ≤ -a by omega); rw [Int.neg_mul_neg] at this; exact this
  omega
theorem toPoint_c (x y : Int) (w : World) : Calls Try.prog 29 #[.agg #[.int .i64 x, .int .i64 y]] w fun e w' => e = .returned (.agg #[.int .i64 x, .int .i64 y]) ∧ ((w.alloc (.cells #[.int .i64 x, .int .i64 y] 34)).alloc (.cells #[.int .i64 x, .int .i64 y] 36)).alloc (.cells #[.int .i64 x, .int .i64 y] 36) = w' := by
  go_enter Try.func29, Try.ntmps29
  go_wp2
  go_returns
  exact ⟨rfl, rfl⟩
theorem LineLength_s_ok (x y x' y' : Int) (w : World) (h : -1000 ≤ x ∧ x ≤ 1000 ∧ -1000 ≤ y ∧ y ≤ 1000 ∧ -1000 ≤ x' ∧ x' ≤ 1000 ∧ -1000 ≤ y' ∧ y' ≤ 1000) : Calls Try.prog 28 #[.agg #[.int .i64 x, .int .i64 y], .agg #[.int .i64 x', .int .i64 y']] w fun e w' => e = .returned (.int .i64 (isq ((x' - x) * (x' - x) + (y' - y) * (y' - y)).toNat : Int)) ∧ Below w.heap.size w w' := by
  obtain ⟨h1, h2, h3, h4, h5, h6, h7, h8⟩ := h
  obtain ⟨s1, s2⟩ := sq_bd (a := x' - x) (by omega) (by omega)
  obtain ⟨s3, s4⟩ := sq_bd (a := y' - y) (by omega) (by omega)
  go_enter Try.func28, Try.ntmps28
  go_wp2_with (first | (go_at_call 52; refine (rootOf_c _ _ (by omega) (by omega)).mono ?_; rintro e w1 ⟨rfl, rfl⟩) | go_in)
  go_returns
  exact ⟨rfl, by go_grown⟩
theorem LineLength_s_no (x y x' y' : Int) (w : World) (h : ¬ (-1000 ≤ x ∧ x ≤ 1000 ∧ -1000 ≤ y ∧ y ≤ 1000 ∧ -1000 ≤ x' ∧ x' ≤ 1000 ∧ -1000 ≤ y' ∧ y' ≤ 1000)) : Calls Try.prog 28 #[.agg #[.int .i64 x, .int .i64 y], .agg #[.int .i64 x', .int .i64 y']] w fun e w' => e = .returned (.int .i64 (-1)) ∧ Below w.heap.size w w' := by
  have H := Lib.hid h
  clear h
  go_enter Try.func28, Try.ntmps28
  go_wp2
  all_goals first | (exfalso; have hh := H.out; clear H; (try simp only [Bool.not_eq_eq_eq_not, Bool.not_false, decide_eq_true_eq] at *); omega) | (go_returns; exact ⟨rfl, by go_grown⟩)
theorem LineLength_i_ok (x y x' y' : Int) (w : World) (h : -1000 ≤ x ∧ x ≤ 1000 ∧ -1000 ≤ y ∧ y ≤ 1000 ∧ -1000 ≤ x' ∧ x' ≤ 1000 ∧ -1000 ≤ y' ∧ y' ≤ 1000) : Calls Try.prog 30 #[.agg #[.int .i64 x, .int .i64 y], .agg #[.int .i64 x', .int .i64 y']] w fun e w' => e = .returned (.int .i64 (isq ((x' - x) * (x' - x) + (y' - y) * (y' - y)).toNat : Int)) ∧ Below w.heap.size w w' := by
  obtain ⟨h1, h2, h3, h4, h5, h6, h7, h8⟩ := h
  obtain ⟨s1, s2⟩ := sq_bd (a := x' - x) (by omega) (by omega)
  obtain ⟨s3, s4⟩ := sq_bd (a := y' - y) (by omega) (by omega)
  go_enter Try.func30, Try.ntmps30
  go_wp2_with (first | (go_at_call 53; refine (root_c _ _ (by omega) (by omega)).mono ?_; rintro e w1 ⟨rfl, rfl⟩) | go_in)
  go_returns
  exact ⟨rfl, by go_grown⟩
theorem LineLength_i_no (x y x' y' : Int) (w : World) (h : ¬ (-1000 ≤ x ∧ x ≤ 1000 ∧ -1000 ≤ y ∧ y ≤ 1000 ∧ -1000 ≤ x' ∧ x' ≤ 1000 ∧ -1000 ≤ y' ∧ y' ≤ 1000)) : Calls Try.prog 30 #[.agg #[.int .i64 x, .int .i64 y], .agg #[.int .i64 x', .int .i64 y']] w fun e w' => e = .returned (.int .i64 (-1)) ∧ Below w.heap.size w w' := by
  have H := Lib.hid h
  clear h
  go_enter Try.func30, Try.ntmps30
  go_wp2
  all_goals first | (exfalso; have hh := H.out; clear H; (try simp only [Bool.not_eq_eq_eq_not, Bool.not_false, decide_eq_true_eq] at *); omega) | (go_returns; exact ⟨rfl, by go_grown⟩)
end Go.Proofs.Ytibmdlnhchgjcaa
