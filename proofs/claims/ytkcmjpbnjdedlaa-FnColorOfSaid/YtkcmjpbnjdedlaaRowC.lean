/-
  Rows of four cells: a color that lies in memory.
-/
import Derived.Test.YtkcmjpbnjdedlaaOwn
namespace Go.Proofs.Ytkcmjpbnjdedlaa
open Go.RowKit
set_option linter.unusedSimpArgs false
set_option linter.unusedVariables false

def col (r g b a : Int) : Nat → Value := fun i => .int .i64 (nth [r, g, b, a] i)
theorem Row.alloc {w : World} {g n : Nat} {t : TypeId} {f : Nat → Value} (h : Row w g t n f) (o : Obj) : Row (w.alloc o) g t n f := h.keep (Below.heap_alloc w o g h.lt)
theorem Row.drew {w : World} {g n : Nat} {t : TypeId} {f : Nat → Value} (h : Row w g t n f) : Row w.drew g t n f := h
theorem row_col (w : World) (t : TypeId) (r g b a : Int) : Row (w.alloc (.cells #[.int .i64 r, .int .i64 g, .int .i64 b, .int .i64 a] t)) w.heap.size t 4 (col r g b a) :=
  ⟨_, heap_alloc_new w _, fun i hi => by match i, hi with | 0, _ => rfl | 1, _ => rfl | 2, _ => rfl | 3, _ => rfl⟩
theorem col_cells {w : World} {x : Nat} {t : TypeId} {r g b a : Int} (h : Row w x t 4 (col r g b a)) : (w.cell? ⟨x, 0, none⟩ = some (.int .i64 r) ∧ w.cell? ⟨x, 1, none⟩ = some (.int .i64 g) ∧ w.cell? ⟨x, 2, none⟩ = some (.int .i64 b) ∧ w.cell? ⟨x, 3, none⟩ = some (.int .i64 a)) ∧ w.frozen? ⟨x, 0, none⟩ = false ∧ w.frozen? ⟨x, 1, none⟩ = false ∧ w.frozen? ⟨x, 2, none⟩ = false ∧ w.frozen? ⟨x, 3, none⟩ = false :=
  ⟨⟨h.cell (by omega), h.cell (by omega), h.cell (by omega), h.cell (by omega)⟩, h.free 0, h.free 1, h.free 2, h.free 3⟩
theorem row_col1 (w : World) (t : TypeId) (r g b a : Int) (x : Nat) (hx : x = w.heap.size) : Row (w.alloc (.cells #[.int .i64 r, .int .i64 g, .int .i64 b, .int .i64 a] t)) x t 4 (col r g b a) := by subst hx; exact row_col w t r g b a
end Go.Proofs.Ytkcmjpbnjdedlaa
