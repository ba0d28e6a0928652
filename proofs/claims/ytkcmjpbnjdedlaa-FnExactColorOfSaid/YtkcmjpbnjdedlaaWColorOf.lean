/-
  The walk of FnExactColorOf: it returns true for every four numbers.
-/
import Derived.Test.YtkcmjpbnjdedlaaColorOf
import Derived.Test.YtkcmjpbnjdedlaaColor
namespace Go.Proofs.Ytkcmjpbnjdedlaa
open Go.RowKit
set_option linter.unusedSimpArgs false
set_option linter.unusedVariables false

theorem walk_FnExactColorOf (a0 : Int) (w0 : (Lit.int .i64 a0).wf = true) (a1 : Int) (w1 : (Lit.int .i64 a1).wf = true) (a2 : Int) (w2 : (Lit.int .i64 a2).wf = true) (a3 : Int) (w3 : (Lit.int .i64 a3).wf = true) (w : World) :
    Calls Try.prog 12 #[.int .i64 a0, .int .i64 a1, .int .i64 a2, .int .i64 a3] w fun e w' => e = .returned (.bool true) ∧ Below w.heap.size w w' := by
  clear w0 w1 w2 w3
  go_enter Try.func12, Try.ntmps12
  go_wp2_with (first | (go_at_call 35; refine (ColorOf_sA _ _ _ _ _).mono ?_; rintro e x1 ⟨rfl, hb1⟩; obtain ⟨hc1, hf1⟩ := bcell hb1; have hz1 := hb1.size; (try simp only [World.size_alloc, World.size_setCell, World.size_drew] at hz1); have z1 : w.heap.size < x1.heap.size + 1 := (by omega); have B1 : Below w.heap.size w x1 := below_then (by go_grown) hb1) | (go_at_call 36; refine (ColorOf_iA _ _ _ _ _).mono ?_; rintro e x2 ⟨rfl, hb2⟩; obtain ⟨hc2, hf2⟩ := bcell hb2; have hz2 := hb2.size; (try simp only [World.size_alloc, World.size_setCell, World.size_drew] at hz2); have zx : x1.heap.size < x2.heap.size := (by omega); have z2 : w.heap.size < x2.heap.size + 1 := (by omega); have B2 : Below w.heap.size w x2 := below_then (by go_grown) hb2) | (go_at_call 37; refine (eqColor_c _ _ _ _ _).mono ?_; rintro e x3 ⟨rfl, rfl⟩))
  go_returns
  exact ⟨rfl, by go_grown⟩
end Go.Proofs.Ytkcmjpbnjdedlaa
