/-
  Colors: which are valid; copies and comparisons of colors.
-/
import Derived.Test.YtjfbbieacpnpkaaSlice
import Derived.Deep.RegionHeld3
import Derived.Deep.DrawnRows
namespace Go.Proofs.Ytjfbbieacpnpkaa
open Go.RowKit
set_option linter.unusedSimpArgs false
set_option linter.unusedVariables false

/-- Is a color premultiplied? -/
def colB (r g b a : Int) : Bool := decide (0 ≤ a ∧ a ≤ 255 ∧ 0 ≤ r ∧ r ≤ a ∧ 0 ≤ g ∧ g ≤ a ∧ 0 ≤ b ∧ b ≤ a)
theorem colB_true {r g b a : Int} : colB r g b a = true ↔ (0 ≤ a ∧ a ≤ 255 ∧ 0 ≤ r ∧ r ≤ a ∧ 0 ≤ g ∧ g ≤ a ∧ 0 ≤ b ∧ b ≤ a) := by simp only [colB, decide_eq_true_eq]
theorem colB_false {r g b a : Int} : colB r g b a = false ↔ ¬ (0 ≤ a ∧ a ≤ 255 ∧ 0 ≤ r ∧ r ≤ a ∧ 0 ≤ g ∧ g ≤ a ∧ 0 ≤ b ∧ b ≤ a) := by rw [← colB_true]; simp
theorem all3 (r g b lo hi : Int) : allInB [r, g, b] lo hi = (inB r lo hi && inB g lo hi && inB b lo hi) := by simp [allInB, Bool.and_assoc]
theorem eqColor_c (r g b a : Int) (w : World) : Calls Try.prog 56 #[.agg #[.int .i64 r, .int .i64 g, .int .i64 b, .int .i64 a], .agg #[.int .i64 r, .int .i64 g, .int .i64 b, .int .i64 a]] w fun e w' => e = .returned (.bool true) ∧ (w.alloc (.cells #[.int .i64 r, .int .i64 g, .int .i64 b, .int .i64 a] 69)).alloc (.cells #[.int .i64 r, .int .i64 g, .int .i64 b, .int .i64 a] 69) = w' := by
  go_enter Try.func56, Try.ntmps56
  go_wp2
  go_returns
  exact ⟨rfl, rfl⟩
end Go.Proofs.Ytjfbbieacpnpkaa
