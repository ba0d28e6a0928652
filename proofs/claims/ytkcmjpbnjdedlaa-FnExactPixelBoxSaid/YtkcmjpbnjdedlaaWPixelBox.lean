/-
  The walk of FnExactPixelBox: it returns true for every box.
-/
import Derived.Test.YtkcmjpbnjdedlaaPixel
namespace Go.Proofs.Ytkcmjpbnjdedlaa
open Go.RowKit
set_option linter.unusedSimpArgs false
set_option linter.unusedVariables false

theorem walk_FnExactPixelBox (a0_0 a0_1 a0_2 a0_3 : Int) (w0_0 : (Lit.int .i64 a0_0).wf = true) (w0_1 : (Lit.int .i64 a0_1).wf = true) (w0_2 : (Lit.int .i64 a0_2).wf = true) (w0_3 : (Lit.int .i64 a0_3).wf = true) (w : World) :
    Calls Try.prog 3 #[.agg #[.int .i64 a0_0, .int .i64 a0_1, .int .i64 a0_2, .int .i64 a0_3]] w fun e w' => e = .returned (.bool true) ∧ Below w.heap.size w w' := by
  clear w0_0 w0_1 w0_2 w0_3
  by_cases hv : -1000 ≤ a0_0 ∧ a0_0 ≤ a0_2 ∧ a0_2 ≤ 1000 ∧ -1000 ≤ a0_1 ∧ a0_1 ≤ a0_3 ∧ a0_3 ≤ 1000
  · have H := Lib.hid hv
    clear hv
    go_enter Try.func3, Try.ntmps3
    go_wp2_with (first | (go_at_call 15; refine (toBox_c _ _ _ _ _).mono ?_; rintro e w1 ⟨rfl, rfl⟩) | (go_at_call 14; refine (PixelBox_s_ok _ _ _ _ _ H.out).mono ?_; rintro e x1 ⟨rfl, hb1⟩; obtain ⟨hc1, hf1⟩ := bcell hb1; have hz1 := hb1.size; (try simp only [World.size_alloc, World.size_setCell, World.size_drew] at hz1); have z1 : w.heap.size < x1.heap.size := (by omega); have B1 : Below w.heap.size w x1 := below_then (by go_grown) hb1) | (go_at_call 16; refine (PixelBox_i_ok _ _ _ _ _ H.out).mono ?_; rintro e x2 ⟨rfl, hb2⟩; obtain ⟨hc2, hf2⟩ := bcell hb2; have hz2 := hb2.size; (try simp only [World.size_alloc, World.size_setCell, World.size_drew] at hz2); have zx : x1.heap.size < x2.heap.size := (by omega); have z2 : w.heap.size < x2.heap.size := (by omega); have B2 : Below w.heap.size w x2 := below_then (by go_grown) hb2) | (go_at_call 17; refine (eqBox_c _ _ _ _ _).mono ?_; rintro e x3 ⟨rfl, rfl⟩))
    go_returns
    exact ⟨rfl, by go_grown⟩
  · have H := Lib.hid hv
    clear hv
    go_enter Try.func3, Try.ntmps3
    go_wp2_with (first | (go_at_call 15; refine (toBox_c _ _ _ _ _).mono ?_; rintro e w1 ⟨rfl, rfl⟩) | (go_at_call 14; refine (PixelBox_s_no _ _ _ _ _ H.out).mono ?_; rintro e x1 ⟨rfl, hb1⟩; obtain ⟨hc1, hf1⟩ := bcell hb1; have hz1 := hb1.size; (try simp only [World.size_alloc, World.size_setCell, World.size_drew] at hz1); have z1 : w.heap.size < x1.heap.size := (by omega); have B1 : Below w.heap.size w x1 := below_then (by go_grown) hb1) | (go_at_call 16; refine (PixelBox_i_no _ _ _ _ _ H.out).mono ?_; rintro e x2 ⟨rfl, hb2⟩; obtain ⟨hc2, hf2⟩ := bcell hb2; have hz2 := hb2.size; (try simp only [World.size_alloc, World.size_setCell, World.size_drew] at hz2); have zx : x1.heap.size < x2.heap.size := (by omega); have z2 : w.heap.size < x2.heap.size := (by omega); have B2 : Below w.heap.size w x2 := below_then (by go_grown) hb2) | (go_at_call 17; refine (eqBox_c _ _ _ _ _).mono ?_; rintro e x3 ⟨rfl, rfl⟩))
    go_returns
    exact ⟨rfl, by go_grown⟩

end Go.Proofs.Ytkcmjpbnjdedlaa
