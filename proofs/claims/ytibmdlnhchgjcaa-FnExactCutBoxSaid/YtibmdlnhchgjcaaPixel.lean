/-
  Pixels that a box touches.
-/
import Derived.Test.YtibmdlnhchgjcaaSlice
import Derived.Deep.RegionHeld3
import Derived.Deep.DrawnRows
namespace Go.Proofs.Ytibmdlnhchgjcaa
open Go.RowKit
set_option linter.unusedSimpArgs false
set_option linter.unusedVariables false

attribute [local go_sem ↓] Go.wp_at_zero Go.wp_at_succ
theorem toBox_c (l t r b : Int) (w : World) : Calls Try.prog 18 #[.agg #[.int .i64 l, .int .i64 t, .int .i64 r, .int .i64 b]] w fun e w' => e = .returned (.agg #[.int .i64 l, .int .i64 t, .int .i64 r, .int .i64 b]) ∧ ((w.alloc (.cells #[.int .i64 l, .int .i64 t, .int .i64 r, .int .i64 b] 26)).alloc (.cells #[.int .i64 l, .int .i64 t, .int .i64 r, .int .i64 b] 28)).alloc (.cells #[.int .i64 l, .int .i64 t, .int .i64 r, .int .i64 b] 28) = w' := by
  go_enter Try.func18, Try.ntmps18
  go_wp2
  go_returns
  exact ⟨rfl, rfl⟩
theorem eqBox_c (l t r b : Int) (w : World) : Calls Try.prog 36 #[.agg #[.int .i64 l, .int .i64 t, .int .i64 r, .int .i64 b], .agg #[.int .i64 l, .int .i64 t, .int .i64 r, .int .i64 b]] w fun e w' => e = .returned (.bool true) ∧ (w.alloc (.cells #[.int .i64 l, .int .i64 t, .int .i64 r, .int .i64 b] 28)).alloc (.cells #[.int .i64 l, .int .i64 t, .int .i64 r, .int .i64 b] 28) = w' := by
  go_enter Try.func36, Try.ntmps36
  go_wp2
  go_returns
  exact ⟨rfl, rfl⟩
end Go.Proofs.Ytibmdlnhchgjcaa
