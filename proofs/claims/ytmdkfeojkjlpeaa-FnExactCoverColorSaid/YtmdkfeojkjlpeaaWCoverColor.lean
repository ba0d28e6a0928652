/-
  The walk of FnExactCoverColor: it returns true for every color and part.
-/
import Derived.Test.YtmdkfeojkjlpeaaColorA
import Derived.Deep.DeepCutAuto
namespace Go.Proofs.Ytmdkfeojkjlpeaa
open Go.RowKit
set_option linter.unusedSimpArgs false
set_option linter.unusedVariables false

attribute [local go_sem ↓] Go.wp_at_zero Go.wp_at_succ
theorem walk_cover (r g b a t : Int) (w : World) :
    Calls Try.prog 4 #[.agg #[.int .i64 r, .int .i64 g, .int .i64 b, .int .i64 a], .int .i64 t] w fun e w' => e = .returned (.bool true) ∧ Below w.heap.size w w' := by
  go_enter Try.func4, Try.ntmps4
  go_wp2_with (first | (go_at_call 15; refine (toColor_c _ _ _ _ _).mono ?_; rintro e w1 ⟨rfl, rfl⟩) | (go_at_call 17; refine (CoverColor_sA _ _ _ _ _ _).mono ?_; rintro e w1 ⟨rfl, hb1⟩; obtain ⟨hc1, hf1⟩ := bcell hb1; have hz1 := hb1.size; simp only [World.size_alloc, World.size_setCell, World.size_drew] at hz1; have z0 : w.heap.size < w1.heap.size := (by omega); have B1 : Below w.heap.size w w1 := below_then (by go_grown) hb1) | (go_at_call 18; refine (CoverColor_iA _ _ _ _ _ _).mono ?_; rintro e w2 ⟨rfl, hb2⟩; obtain ⟨hc2, hf2⟩ := bcell hb2; have hz2 := hb2.size; simp only [World.size_alloc, World.size_setCell, World.size_drew] at hz2; have z2 : w1.heap.size < w2.heap.size := (by omega); have z3 : w.heap.size < w2.heap.size := (by omega); have B2 : Below w.heap.size w w2 := below_then (by go_grown) hb2) | (go_at_call 19; refine (eqColor_c _ _ _ _ _).mono ?_; rintro e w3 ⟨rfl, rfl⟩))
  go_returns
  exact ⟨rfl, by go_grown⟩
theorem walk_FnExactCoverColor (a0_0 a0_1 a0_2 a0_3 : Int) (w0_0 : (Lit.int .i64 a0_0).wf = true) (w0_1 : (Lit.int .i64 a0_1).wf = true) (w0_2 : (Lit.int .i64 a0_2).wf = true) (w0_3 : (Lit.int .i64 a0_3).wf = true) (a1 : Int) (w1 : (Lit.int .i64 a1).wf = true) (w : World) :
    Calls Try.prog 4 #[.agg #[.int .i64 a0_0, .int .i64 a0_1, .int .i64 a0_2, .int .i64 a0_3], .int .i64 a1] w fun e w' => e = .returned (.bool true) ∧ Below w.heap.size w w' := by
  clear w0_0 w0_1 w0_2 w0_3 w1
  exact walk_cover a0_0 a0_1 a0_2 a0_3 a1 w
end Go.Proofs.Ytmdkfeojkjlpeaa
