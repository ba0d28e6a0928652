/-
  What the reference makes of valid colors.
-/
import Derived.Test.YtkihbfohdennjaaColor
import Derived.Handy
namespace Go.Proofs.Ytkihbfohdennjaa
open Go.RowKit
set_option linter.unusedSimpArgs false
set_option linter.unusedVariables false

attribute [local go_sem ↓] Go.wp_at_zero Go.wp_at_succ
set_option maxHeartbeats 4000000 in
theorem mix_s (r g b a r' g' b' a' t : Int) (w : World) (h1 : 0 ≤ a ∧ a ≤ 255 ∧ 0 ≤ r ∧ r ≤ a ∧ 0 ≤ g ∧ g ≤ a ∧ 0 ≤ b ∧ b ≤ a) (h2 : 0 ≤ a' ∧ a' ≤ 255 ∧ 0 ≤ r' ∧ r' ≤ a' ∧ 0 ≤ g' ∧ g' ≤ a' ∧ 0 ≤ b' ∧ b' ≤ a') (t1 : 0 ≤ t) (t2 : t ≤ 256) :
    Calls Try.prog 33 #[.agg #[.int .i64 r, .int .i64 g, .int .i64 b, .int .i64 a], .agg #[.int .i64 r', .int .i64 g', .int .i64 b', .int .i64 a'], .int .i64 t] w fun e w' => e = .returned (.agg #[.int .i64 (rnd (r * (256 - t) + r' * t) 256), .int .i64 (rnd (g * (256 - t) + g' * t) 256), .int .i64 (rnd (b * (256 - t) + b' * t) 256), .int .i64 (rnd (a * (256 - t) + a' * t) 256)]) ∧ (((w.alloc (.cells #[.int .i64 r, .int .i64 g, .int .i64 b, .int .i64 a] 30)).alloc (.cells #[.int .i64 r', .int .i64 g', .int .i64 b', .int .i64 a'] 30)).alloc (.cells #[.int .i64 (rnd (r * (256 - t) + r' * t) 256), .int .i64 (rnd (g * (256 - t) + g' * t) 256), .int .i64 (rnd (b * (256 - t) + b' * t) 256), .int .i64 (rnd (a * (256 - t) + a' * t) 256)] 30)).drew = w' := by
  obtain ⟨c1, c2, c3, c4, c5, c6, c7, c8⟩ := h1
  obtain ⟨d1, d2, d3, d4, d5, d6, d7, d8⟩ := h2
  obtain ⟨m01, m02⟩ := prod_bd (x := r) (p := 256 - t) (by omega) (by omega) (by omega) (by omega)
  obtain ⟨n01, n02⟩ := prod_bd (x := r') (p := t) (by omega) (by omega) t1 t2
  have e01 := IntWalk.i64_in (r * (256 - t)) (by omega)
  have e02 := IntWalk.i64_in (r' * t) (by omega)
  have e03 := IntWalk.i64_in (r * (256 - t) + r' * t) (by omega)
  obtain ⟨m11, m12⟩ := prod_bd (x := g) (p := 256 - t) (by omega) (by omega) (by omega) (by omega)
  obtain ⟨n11, n12⟩ := prod_bd (x := g') (p := t) (by omega) (by omega) t1 t2
  have e11 := IntWalk.i64_in (g * (256 - t)) (by omega)
  have e12 := IntWalk.i64_in (g' * t) (by omega)
  have e13 := IntWalk.i64_in (g * (256 - t) + g' * t) (by omega)
  obtain ⟨m21, m22⟩ := prod_bd (x := b) (p := 256 - t) (by omega) (by omega) (by omega) (by omega)
  obtain ⟨n21, n22⟩ := prod_bd (x := b') (p := t) (by omega) (by omega) t1 t2
  have e21 := IntWalk.i64_in (b * (256 - t)) (by omega)
  have e22 := IntWalk.i64_in (b' * t) (by omega)
  have e23 := IntWalk.i64_in (b * (256 - t) + b' * t) (by omega)
  obtain ⟨m31, m32⟩ := prod_bd (x := a) (p := 256 - t) (by omega) (by omega) (by omega) (by omega)
  obtain ⟨n31, n32⟩ := prod_bd (x := a') (p := t) (by omega) (by omega) t1 t2
  have e31 := IntWalk.i64_in (a * (256 - t)) (by omega)
  have e32 := IntWalk.i64_in (a' * t) (by omega)
  have e33 := IntWalk.i64_in (a * (256 - t) + a' * t) (by omega)
  have e0 := IntWalk.i64_in (256 - t) (by omega)
  go_enter Try.func33, Try.ntmps33
  go_wp2_with fail
  go_region_held3 (fun w' => w'.cell? ⟨w.heap.size, 0, none⟩ = some (.int .i64 r) ∧ w'.cell? ⟨w.heap.size, 1, none⟩ = some (.int .i64 g) ∧ w'.cell? ⟨w.heap.size, 2, none⟩ = some (.int .i64 b) ∧ w'.cell? ⟨w.heap.size, 3, none⟩ = some (.int .i64 a) ∧ w'.cell? ⟨w.heap.size + 1, 0, none⟩ = some (.int .i64 r') ∧ w'.cell? ⟨w.heap.size + 1, 1, none⟩ = some (.int .i64 g') ∧ w'.cell? ⟨w.heap.size + 1, 2, none⟩ = some (.int .i64 b') ∧ w'.cell? ⟨w.heap.size + 1, 3, none⟩ = some (.int .i64 a')) ((repeat' apply And.intro) <;> (first | (go_keep; done) | (go_cell; done)))
    (first | (go_at_call 40; refine (nearest_c _ _ _ (by omega) (by omega) (by omega) (by omega)).mono ?_; rintro e w' ⟨rfl, rfl⟩))
  all_goals (go_wp2; go_returns; exact ⟨rfl, rfl⟩)
end Go.Proofs.Ytkihbfohdennjaa
