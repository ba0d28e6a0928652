/-
  Rows of four cells.
-/
import Derived.Test.YtkihbfohdennjaaStopCA
namespace Go.Proofs.Ytkihbfohdennjaa
open Go.RowKit
set_option linter.unusedSimpArgs false
set_option linter.unusedVariables false

def col4 (u v x y : Value) : Nat → Value := fun i => match i with | 0 => u | 1 => v | 2 => x | _ => y
theorem row_box4x (w : World) (t : TypeId) (u v x y : Value) (g : Nat) (hg : g = w.heap.size) : Row (w.alloc (.cells #[u, v, x, y] t)) g t 4 (col4 u v x y) := by
  subst hg; exact ⟨_, heap_alloc_new w _, fun i hi => by match i, hi with | 0, _ => rfl | 1, _ => rfl | 2, _ => rfl | 3, _ => rfl⟩
theorem cells4 {w : World} {g : Nat} {t : TypeId} {u v x y : Value} (h : Row w g t 4 (col4 u v x y)) : w.cell? ⟨g, 0, none⟩ = some u ∧ w.cell? ⟨g, 1, none⟩ = some v ∧ w.cell? ⟨g, 2, none⟩ = some x ∧ w.cell? ⟨g, 3, none⟩ = some y :=
  ⟨h.cell (by omega), h.cell (by omega), h.cell (by omega), h.cell (by omega)⟩
end Go.Proofs.Ytkihbfohdennjaa
