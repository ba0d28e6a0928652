/-
  The walks of the laws on plain numbers: each returns true for every input.
-/
import Derived.Test.YtibmdlnhchgjcaaNum
import Derived.Handy
namespace Go.Proofs.Ytibmdlnhchgjcaa
open Go.RowKit
set_option linter.unusedSimpArgs false
set_option linter.unusedVariables false

theorem walk_FnExactConstants  (w : World) :
    Calls Try.prog 3 #[] w fun e w' => e = .returned (.bool true) ∧ Below w.heap.size w w' := by
  go_enter Try.func3, Try.ntmps3
  go_wp2
  all_goals
    go_returns
    exact ⟨rfl, by go_grown⟩
theorem walk_FnExactFloorUnit (a0 : Int) (w0 : (Lit.int .i64 a0).wf = true) (w : World) :
    Calls Try.prog 6 #[.int .i64 a0] w fun e w' => e = .returned (.bool true) ∧ Below w.heap.size w w' := by
  clear w0
  go_enter Try.func6, Try.ntmps6
  go_wp2_with (first | (go_at_call 21; refine (FloorUnit_i _ _).mono ?_; rintro e w1 ⟨rfl, rfl⟩) | (go_at_call 20; refine (FloorUnit_s _ _).mono ?_; rintro e w1 ⟨rfl, rfl⟩))
  all_goals
    go_returns
    exact ⟨rfl, by go_grown⟩
theorem walk_FnExactRoundUnit (a0 : Int) (w0 : (Lit.int .i64 a0).wf = true) (w : World) :
    Calls Try.prog 9 #[.int .i64 a0] w fun e w' => e = .returned (.bool true) ∧ Below w.heap.size w w' := by
  clear w0
  go_enter Try.func9, Try.ntmps9
  go_wp2_with (first | (go_at_call 27; refine (RoundUnit_i _ _).mono ?_; rintro e w1 ⟨rfl, rfl⟩) | (go_at_call 26; refine (RoundUnit_s _ _).mono ?_; rintro e w1 ⟨rfl, rfl⟩))
  all_goals
    go_returns
    exact ⟨rfl, by go_grown⟩
theorem walk_FnExactMulFixed (a0 : Int) (w0 : (Lit.int .i64 a0).wf = true) (a1 : Int) (w1 : (Lit.int .i64 a1).wf = true) (w : World) :
    Calls Try.prog 8 #[.int .i64 a0, .int .i64 a1] w fun e w' => e = .returned (.bool true) ∧ Below w.heap.size w w' := by
  clear w0 w1
  go_enter Try.func8, Try.ntmps8
  go_wp2_with (first | (go_at_call 25; refine (MulFixed_i _ _ _).mono ?_; rintro e w1 ⟨rfl, rfl⟩) | (go_at_call 24; refine (MulFixed_s _ _ _).mono ?_; rintro e w1 ⟨rfl, rfl⟩))
  all_goals
    go_returns
    exact ⟨rfl, by go_grown⟩
set_option maxHeartbeats 4000000 in
theorem walk_FnExactTurnMatrix (a0 : Int) (w0 : (Lit.int .i64 a0).wf = true) (w : World) :
    Calls Try.prog 11 #[.int .i64 a0] w fun e w' => e = .returned (.bool true) ∧ Below w.heap.size w w' := by
  clear w0
  go_enter Try.func11, Try.ntmps11
  go_wp2
  all_goals
    go_returns
    exact ⟨rfl, by go_grown⟩
end Go.Proofs.Ytibmdlnhchgjcaa
