/-
  Colors: which are valid; copies and comparisons of colors.
-/
import Derived.Test.YtkcmjpbnjdedlaaSlice
import Derived.Deep.RegionHeld3
import Derived.Deep.DrawnRows
namespace Go.Proofs.Ytkcmjpbnjdedlaa
open Go.RowKit
set_option linter.unusedSimpArgs false
set_option linter.unusedVariables false

/-- Is a color premultiplied? -/
def colB (r g b a : Int) : Bool := decide (0 ≤ a ∧ a ≤ 255 ∧ 0 ≤ r ∧ r ≤ a ∧ 0 ≤ g ∧ g ≤ a ∧ 0 ≤ b ∧ b ≤ a)
theorem colB_true {r g b a : Int} : colB r g b a = true ↔ (0 ≤ a ∧ a ≤ 255 ∧ 0 ≤ r ∧ r ≤ a ∧ 0 ≤ g ∧ g ≤ a ∧ 0 ≤ b ∧ b ≤ a) := by simp only [colB, decide_eq_true_eq]
theorem colB_false {r g b a : Int} : colB r g b a = false ↔ ¬ (0 ≤ a ∧ a ≤ 255 ∧ 0 ≤ r ∧ r ≤ a ∧ 0 ≤ g ∧ g ≤ a ∧ 0 ≤ b ∧ b ≤ a) := by rw [← colB_true]; simp
theorem all3 (r g b lo hi : Int) : allInB [r, g, b] lo hi = (inB r lo hi && inB g lo hi && inB b lo hi) := by simp [allInB, Bool.and_assoc]
theorem ValidColor_i (r g b a : Int) (w : World) : Calls Try.prog 39 #[.agg #[.int .i64 r, .int .i64 g, .int .i64 b, .int .i64 a]] w fun e w' => e = .returned (.bool (colB r g b a)) ∧ w.alloc (.cells #[.int .i64 r, .int .i64 g, .int .i64 b, .int .i64 a] 39) = w' := by
  go_enter Try.func39, Try.ntmps39
  go_wp2
  all_goals
    go_returns
    refine ⟨ret_iff ?_, rfl⟩
    simp only [colB, decide_eq_true_eq, Bool.false_eq_true, false_iff, iff_true, iff_false, true_iff]
    omega
theorem eqColor_c (r g b a : Int) (w : World) : Calls Try.prog 37 #[.agg #[.int .i64 r, .int .i64 g, .int .i64 b, .int .i64 a], .agg #[.int .i64 r, .int .i64 g, .int .i64 b, .int .i64 a]] w fun e w' => e = .returned (.bool true) ∧ (w.alloc (.cells #[.int .i64 r, .int .i64 g, .int .i64 b, .int .i64 a] 39)).alloc (.cells #[.int .i64 r, .int .i64 g, .int .i64 b, .int .i64 a] 39) = w' := by
  go_enter Try.func37, Try.ntmps37
  go_wp2
  go_returns
  exact ⟨rfl, rfl⟩
end Go.Proofs.Ytkcmjpbnjdedlaa
