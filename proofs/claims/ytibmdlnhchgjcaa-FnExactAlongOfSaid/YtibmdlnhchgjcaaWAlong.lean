/-
  The walk of FnExactAlongOf: it returns true for every three points.
-/
import Derived.Test.YtibmdlnhchgjcaaAlong
import Derived.Deep.RegionHeld3
import Derived.Deep.DrawnRows
namespace Go.Proofs.Ytibmdlnhchgjcaa
open Go.RowKit
set_option linter.unusedSimpArgs false
set_option linter.unusedVariables false

attribute [local go_sem ↓] Go.wp_at_zero Go.wp_at_succ
/-- What AlongOf answers at every three points. -/
def alongT (x y x' y' p q : Int) : Int := if -1000 ≤ x ∧ x ≤ 1000 ∧ -1000 ≤ y ∧ y ≤ 1000 ∧ -1000 ≤ x' ∧ x' ≤ 1000 ∧ -1000 ≤ y' ∧ y' ≤ 1000 ∧ -1000 ≤ p ∧ p ≤ 1000 ∧ -1000 ≤ q ∧ q ≤ 1000 then (if x = x' ∧ y = y' then 0 else alongV x y x' y' p q) else 0
theorem AlongOf_i_A (x y x' y' p q : Int) (w : World) : Calls Try.prog 38 #[.agg #[.int .i64 x, .int .i64 y], .agg #[.int .i64 x', .int .i64 y'], .agg #[.int .i64 p, .int .i64 q]] w fun e w' => e = .returned (.int .i64 (alongT x y x' y' p q)) ∧ Below w.heap.size w w' := by
  by_cases h : -1000 ≤ x ∧ x ≤ 1000 ∧ -1000 ≤ y ∧ y ≤ 1000 ∧ -1000 ≤ x' ∧ x' ≤ 1000 ∧ -1000 ≤ y' ∧ y' ≤ 1000 ∧ -1000 ≤ p ∧ p ≤ 1000 ∧ -1000 ≤ q ∧ q ≤ 1000
  · by_cases hx : x = x'
    · subst hx
      by_cases hy : y = y'
      · subst hy
        rw [show alongT x y x y p q = 0 by simp [alongT]]
        exact AlongOf_i_same _ _ _ _ w h
      · rw [show alongT x y x y' p q = alongV x y x y' p q by unfold alongT; rw [if_pos h, if_neg (fun k => hy k.2)]]
        have := sq_pos (a := y' - y) (by omega)
        exact AlongOf_i_ok2 _ _ _ _ _ w h hy this (by simp; omega)
    · rw [show alongT x y x' y' p q = alongV x y x' y' p q by unfold alongT; rw [if_pos h, if_neg (fun k => hx k.1)]]
      have h1 := sq_pos (a := x' - x) (by omega)
      have h2 := (sq_bd (a := y' - y) (by omega) (by omega)).1
      exact AlongOf_i_ok _ _ _ _ _ _ w h hx (by omega) (by simp; omega)
  · rw [show alongT x y x' y' p q = 0 by unfold alongT; rw [if_neg h]]
    exact AlongOf_i_no _ _ _ _ _ _ w h
theorem AlongOf_s_A (x y x' y' p q : Int) (w : World) : Calls Try.prog 37 #[.agg #[.int .i64 x, .int .i64 y], .agg #[.int .i64 x', .int .i64 y'], .agg #[.int .i64 p, .int .i64 q]] w fun e w' => e = .returned (.int .i64 (alongT x y x' y' p q)) ∧ Below w.heap.size w w' := by
  by_cases h : -1000 ≤ x ∧ x ≤ 1000 ∧ -1000 ≤ y ∧ y ≤ 1000 ∧ -1000 ≤ x' ∧ x' ≤ 1000 ∧ -1000 ≤ y' ∧ y' ≤ 1000 ∧ -1000 ≤ p ∧ p ≤ 1000 ∧ -1000 ≤ q ∧ q ≤ 1000
  · by_cases hx : x = x'
    · subst hx
      by_cases hy : y = y'
      · subst hy
        rw [show alongT x y x y p q = 0 by simp [alongT]]
        exact AlongOf_s_same _ _ _ _ w h
      · rw [show alongT x y x y' p q = alongV x y x y' p q by unfold alongT; rw [if_pos h, if_neg (fun k => hy k.2)]]
        have := sq_pos (a := y' - y) (by omega)
        exact AlongOf_s_ok2 _ _ _ _ _ w h hy this (by simp; omega)
    · rw [show alongT x y x' y' p q = alongV x y x' y' p q by unfold alongT; rw [if_pos h, if_neg (fun k => hx k.1)]]
      have h1 := sq_pos (a := x' - x) (by omega)
      have h2 := (sq_bd (a := y' - y) (by omega) (by omega)).1
      exact AlongOf_s_ok _ _ _ _ _ _ w h hx (by omega) (by simp; omega)
  · rw [show alongT x y x' y' p q = 0 by unfold alongT; rw [if_neg h]]
    exact AlongOf_s_no _ _ _ _ _ _ w h
set_option maxHeartbeats 2000000 in
theorem walk_along (x y x' y' p q : Int) (w : World) (H : Hid (True)) : Calls Try.prog 13 #[.agg #[.int .i64 x, .int .i64 y], .agg #[.int .i64 x', .int .i64 y'], .agg #[.int .i64 p, .int .i64 q]] w fun e w' => e = .returned (.bool true) ∧ Below w.heap.size w w' := by
  go_enter Try.func13, Try.ntmps13
  go_wp2_with fail
  go_region_held3 (fun w' => w'.cell? ⟨w.heap.size, 0, none⟩ = some (.int .i64 x) ∧ w'.cell? ⟨w.heap.size, 1, none⟩ = some (.int .i64 y) ∧ w'.cell? ⟨w.heap.size + 1, 0, none⟩ = some (.int .i64 x') ∧ w'.cell? ⟨w.heap.size + 1, 1, none⟩ = some (.int .i64 y') ∧ w'.cell? ⟨w.heap.size + 1 + 1, 0, none⟩ = some (.int .i64 p) ∧ w'.cell? ⟨w.heap.size + 1 + 1, 1, none⟩ = some (.int .i64 q)) ((repeat' apply And.intro) <;> (first | ((repeat (first | (with_reducible assumption) | (with_reducible refine cell_keepD ?_) | (with_reducible refine cell_keepA ?_ _) | (with_reducible refine cell_keepS ?_ _ (by simp only []; omega)) | (with_reducible refine (hc1 _ _ (by go_size)).trans ?_))); done) | (go_cell; done)))
    (first | (go_at_call 29; refine (toPoint_c _ _ _).mono ?_; rintro e w1 ⟨rfl, rfl⟩) | (go_at_call 37; refine (AlongOf_s_A _ _ _ _ _ _ _).mono ?_; rintro e w1 ⟨rfl, hb1⟩; obtain ⟨hc1, hf1⟩ := bcell hb1; have hz1 := hb1.size; simp only [World.size_alloc, World.size_setCell, World.size_drew] at hz1; have z0 : w.heap.size < w1.heap.size := (by omega); have z1 : w.heap.size + 1 < w1.heap.size := (by omega); have z2 : w.heap.size + 1 + 1 < w1.heap.size := (by omega); have B1 : Below w.heap.size w w1 := below_then (by go_grown) hb1))
  have s0_0 : w1.cell? ⟨w.heap.size, 0, none⟩ = some (.int .i64 x) := (hc1 _ _ (by go_size)).trans (by go_cell)
  have s0_1 : w1.cell? ⟨w.heap.size, 1, none⟩ = some (.int .i64 y) := (hc1 _ _ (by go_size)).trans (by go_cell)
  have s1_0 : w1.cell? ⟨w.heap.size + 1, 0, none⟩ = some (.int .i64 x') := (hc1 _ _ (by go_size)).trans (by go_cell)
  have s1_1 : w1.cell? ⟨w.heap.size + 1, 1, none⟩ = some (.int .i64 y') := (hc1 _ _ (by go_size)).trans (by go_cell)
  have s2_0 : w1.cell? ⟨w.heap.size + 1 + 1, 0, none⟩ = some (.int .i64 p) := (hc1 _ _ (by go_size)).trans (by go_cell)
  have s2_1 : w1.cell? ⟨w.heap.size + 1 + 1, 1, none⟩ = some (.int .i64 q) := (hc1 _ _ (by go_size)).trans (by go_cell)
  clear hb1 hc1 hf1 hz1
  go_wp2_with fail
  go_region_held3 (fun w' => w'.cell? ⟨w.heap.size, 0, none⟩ = some (.int .i64 x) ∧ w'.cell? ⟨w.heap.size, 1, none⟩ = some (.int .i64 y) ∧ w'.cell? ⟨w.heap.size + 1, 0, none⟩ = some (.int .i64 x') ∧ w'.cell? ⟨w.heap.size + 1, 1, none⟩ = some (.int .i64 y') ∧ w'.cell? ⟨w.heap.size + 1 + 1, 0, none⟩ = some (.int .i64 p) ∧ w'.cell? ⟨w.heap.size + 1 + 1, 1, none⟩ = some (.int .i64 q)) ((repeat' apply And.intro) <;> (first | ((repeat (first | (with_reducible assumption) | (with_reducible refine cell_keepD ?_) | (with_reducible refine cell_keepA ?_ _) | (with_reducible refine cell_keepS ?_ _ (by simp only []; omega)) | (with_reducible refine (hc1 _ _ (by go_size)).trans ?_))); done) | (go_cell; done)))
    (first | (go_at_call 29; refine (toPoint_c _ _ _).mono ?_; rintro e w1 ⟨rfl, rfl⟩) | (go_at_call 38; refine (AlongOf_i_A _ _ _ _ _ _ _).mono ?_; rintro e w1 ⟨rfl, hb1⟩; obtain ⟨hc1, hf1⟩ := bcell hb1; have hz1 := hb1.size; simp only [World.size_alloc, World.size_setCell, World.size_drew] at hz1; have z0 : w.heap.size < w1.heap.size := (by omega); have z1 : w.heap.size + 1 < w1.heap.size := (by omega); have z2 : w.heap.size + 1 + 1 < w1.heap.size := (by omega); have B1 : Below w.heap.size w w1 := below_then (by go_grown) hb1))
  go_wp2
  go_returns
  exact ⟨rfl, by go_grown⟩
theorem walk_FnExactAlongOf (a0_0 a0_1 : Int) (w0_0 : (Lit.int .i64 a0_0).wf = true) (w0_1 : (Lit.int .i64 a0_1).wf = true) (a1_0 a1_1 : Int) (w1_0 : (Lit.int .i64 a1_0).wf = true) (w1_1 : (Lit.int .i64 a1_1).wf = true) (a2_0 a2_1 : Int) (w2_0 : (Lit.int .i64 a2_0).wf = true) (w2_1 : (Lit.int .i64 a2_1).wf = true) (w : World) :
    Calls Try.prog 13 #[.agg #[.int .i64 a0_0, .int .i64 a0_1], .agg #[.int .i64 a1_0, .int .i64 a1_1], .agg #[.int .i64 a2_0, .int .i64 a2_1]] w fun e w' => e = .returned (.bool true) ∧ Below w.heap.size w w' := by
  exact walk_along a0_0 a0_1 a1_0 a1_1 a2_0 a2_1 w (Lib.hid trivial)
end Go.Proofs.Ytibmdlnhchgjcaa
