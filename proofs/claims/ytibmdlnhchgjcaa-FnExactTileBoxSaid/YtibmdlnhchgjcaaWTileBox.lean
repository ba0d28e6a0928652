/-
  The walk of FnExactTileBox: it returns true for every three numbers.
-/
import Derived.Test.YtibmdlnhchgjcaaTileBox
import Derived.Test.YtibmdlnhchgjcaaPixel
namespace Go.Proofs.Ytibmdlnhchgjcaa
open Go.RowKit
set_option linter.unusedSimpArgs false
set_option linter.unusedVariables false

def sel (v : Bool) (x : Int) : Int := if v = true then x else 0
theorem TileBox_iA (a b t : Int) (w : World) : Calls Try.prog 35 #[.int .i64 a, .int .i64 b, .int .i64 t] w fun e w' => e = .returned (.tuple #[.agg #[.int .i64 (sel (sizedB a b && inB t 0 (acr a * acr b - 1)) (t % acr a * 4)), .int .i64 (sel (sizedB a b && inB t 0 (acr a * acr b - 1)) (t / acr a * 4)), .int .i64 (sel (sizedB a b && inB t 0 (acr a * acr b - 1)) (min (t % acr a * 4 + 4) a)), .int .i64 (sel (sizedB a b && inB t 0 (acr a * acr b - 1)) (min (t / acr a * 4 + 4) b))], .bool (sizedB a b && inB t 0 (acr a * acr b - 1))]) ∧ Below w.heap.size w w' := by
  cases h : (sizedB a b && inB t 0 (acr a * acr b - 1))
  · simp only [sel, Bool.false_eq_true, if_false]
    exact TileBox_i_no a b t w h
  · simp only [sel, if_true]
    simp only [Bool.and_eq_true] at h
    exact TileBox_i_ok a b t w h.1 h.2
theorem TileBox_sA (a b t : Int) (w : World) : Calls Try.prog 34 #[.int .i64 a, .int .i64 b, .int .i64 t] w fun e w' => e = .returned (.tuple #[.agg #[.int .i64 (sel (sizedB a b && inB t 0 (acr a * acr b - 1)) (t % acr a * 4)), .int .i64 (sel (sizedB a b && inB t 0 (acr a * acr b - 1)) (t / acr a * 4)), .int .i64 (sel (sizedB a b && inB t 0 (acr a * acr b - 1)) (min (t % acr a * 4 + 4) a)), .int .i64 (sel (sizedB a b && inB t 0 (acr a * acr b - 1)) (min (t / acr a * 4 + 4) b))], .bool (sizedB a b && inB t 0 (acr a * acr b - 1))]) ∧ Below w.heap.size w w' := by
  cases h : (sizedB a b && inB t 0 (acr a * acr b - 1))
  · simp only [sel, Bool.false_eq_true, if_false]
    exact TileBox_s_no a b t w h
  · simp only [sel, if_true]
    simp only [Bool.and_eq_true] at h
    exact TileBox_s_ok a b t w h.1 h.2
theorem walk_FnExactTileBox (a0 : Int) (w0 : (Lit.int .i64 a0).wf = true) (a1 : Int) (w1 : (Lit.int .i64 a1).wf = true) (a2 : Int) (w2 : (Lit.int .i64 a2).wf = true) (w : World) :
    Calls Try.prog 12 #[.int .i64 a0, .int .i64 a1, .int .i64 a2] w fun e w' => e = .returned (.bool true) ∧ Below w.heap.size w w' := by
  clear w0 w1 w2
  go_enter Try.func12, Try.ntmps12
  go_wp2_with (first | (go_at_call 34; refine (TileBox_sA _ _ _ _).mono ?_; rintro e x1 ⟨rfl, hb1⟩; obtain ⟨hc1, hf1⟩ := bcell hb1; have hz1 := hb1.size; (try simp only [World.size_alloc, World.size_setCell, World.size_drew] at hz1); have z1 : w.heap.size < x1.heap.size + 1 := (by omega); have B1 : Below w.heap.size w x1 := below_then (by go_grown) hb1) | (go_at_call 35; refine (TileBox_iA _ _ _ _).mono ?_; rintro e x2 ⟨rfl, hb2⟩; obtain ⟨hc2, hf2⟩ := bcell hb2; have hz2 := hb2.size; (try simp only [World.size_alloc, World.size_setCell, World.size_drew] at hz2); have zx : x1.heap.size < x2.heap.size := (by omega); have z2 : w.heap.size < x2.heap.size + 1 := (by omega); have B2 : Below w.heap.size w x2 := below_then (by go_grown) hb2) | (go_at_call 36; refine (eqBox_c _ _ _ _ _).mono ?_; rintro e x3 ⟨rfl, rfl⟩))
  go_returns
  exact ⟨rfl, by go_grown⟩
end Go.Proofs.Ytibmdlnhchgjcaa
