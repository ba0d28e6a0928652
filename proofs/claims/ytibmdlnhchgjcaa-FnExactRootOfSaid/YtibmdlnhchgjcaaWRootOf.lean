/-
  The walk of FnExactRootOf: it returns true for every number.
-/
import Derived.Test.YtibmdlnhchgjcaaRoot
namespace Go.Proofs.Ytibmdlnhchgjcaa
open Go.RowKit
set_option linter.unusedSimpArgs false
set_option linter.unusedVariables false

theorem walk_FnExactRootOf (a0 : Int) (w0 : (Lit.int .i64 a0).wf = true) (w : World) :
    Calls Try.prog 7 #[.int .i64 a0] w fun e w' => e = .returned (.bool true) ∧ Below w.heap.size w w' := by
  clear w0
  go_enter Try.func7, Try.ntmps7
  go_wp2_with (first | (go_at_call 23; refine (RootOf_i _ _).mono ?_; rintro e w1 ⟨rfl, rfl⟩) | (go_at_call 22; refine (RootOf_s _ _).mono ?_; rintro e w1 ⟨rfl, rfl⟩))
  all_goals
    go_returns
    exact ⟨rfl, by go_grown⟩
end Go.Proofs.Ytibmdlnhchgjcaa
