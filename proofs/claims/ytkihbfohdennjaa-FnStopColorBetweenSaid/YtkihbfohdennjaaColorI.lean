/-
  What the program makes of valid colors: over, between, covered.
-/
import Derived.Test.YtkihbfohdennjaaColor
import Derived.Handy
namespace Go.Proofs.Ytkihbfohdennjaa
open Go.RowKit
set_option linter.unusedSimpArgs false
set_option linter.unusedVariables false

attribute [local go_sem ↓] Go.wp_at_zero Go.wp_at_succ
theorem mix_f (x y : Int) (t : Int) (B : Nat) (w : World) (hc : w.cell? ⟨B, 0, none⟩ = some (.int .i64 t)) (x1 : 0 ≤ x) (x2 : x ≤ 255) (y1 : 0 ≤ y) (y2 : y ≤ 255) (t1 : 0 ≤ t) (t2 : t ≤ 256) :
    Calls Try.prog 42 #[.int .i64 x, .int .i64 y, .pointer (some ⟨B, 0, none⟩)] w fun e w' => e = .returned (.int .i64 (rnd (x * (256 - t) + y * t) 256)) ∧ w = w' := by
  obtain ⟨m1, m2⟩ := prod_bd (x := x) (p := 256 - t) x1 x2 (by omega) (by omega)
  obtain ⟨k1, k2⟩ := prod_bd (x := y) (p := t) y1 y2 (by omega) (by omega)
  go_enter Try.func42, Try.ntmps42
  go_wp2_with (go_at_call 43; refine (round_c _ _ _ (by omega) (by omega) (by omega) (by omega)).mono ?_; rintro e w' ⟨rfl, rfl⟩)
  go_ret
  exact ⟨rfl, rfl⟩
set_option maxHeartbeats 2000000 in
theorem each_mix (r g b a r' g' b' a' : Int) (t : Int) (B : Nat) (w : World) (hc : w.cell? ⟨B, 0, none⟩ = some (.int .i64 t)) (t1 : 0 ≤ t) (t2 : t ≤ 256) (h1 : 0 ≤ a ∧ a ≤ 255 ∧ 0 ≤ r ∧ r ≤ 255 ∧ 0 ≤ g ∧ g ≤ 255 ∧ 0 ≤ b ∧ b ≤ 255) (h2 : 0 ≤ a' ∧ a' ≤ 255 ∧ 0 ≤ r' ∧ r' ≤ 255 ∧ 0 ≤ g' ∧ g' ≤ 255 ∧ 0 ≤ b' ∧ b' ≤ 255) :
    Calls Try.prog 41 #[.agg #[.int .i64 r, .int .i64 g, .int .i64 b, .int .i64 a], .agg #[.int .i64 r', .int .i64 g', .int .i64 b', .int .i64 a'], .func (Fn.func 42) #[] #[.pointer (some ⟨B, 0, none⟩)]] w fun e w' => e = .returned (.agg #[.int .i64 (rnd (r * (256 - t) + r' * t) 256), .int .i64 (rnd (g * (256 - t) + g' * t) 256), .int .i64 (rnd (b * (256 - t) + b' * t) 256), .int .i64 (rnd (a * (256 - t) + a' * t) 256)])
      ∧ (((w.alloc (.cells #[.int .i64 r, .int .i64 g, .int .i64 b, .int .i64 a] 30)).alloc (.cells #[.int .i64 r', .int .i64 g', .int .i64 b', .int .i64 a'] 30)).alloc (.cells #[.int .i64 (rnd (r * (256 - t) + r' * t) 256), .int .i64 (rnd (g * (256 - t) + g' * t) 256), .int .i64 (rnd (b * (256 - t) + b' * t) 256), .int .i64 (rnd (a * (256 - t) + a' * t) 256)] 30)).drew = w' := by
  obtain ⟨c1, c2, c3, c4, c5, c6, c7, c8⟩ := h1
  obtain ⟨d1, d2, d3, d4, d5, d6, d7, d8⟩ := h2
  have hBl : B < w.heap.size := World.block_lt_of_cell? w _ hc
  have hB1 : B < w.heap.size + 1 := by omega
  have hB2 : B < w.heap.size + 1 + 1 := by omega
  go_enter Try.func41, Try.ntmps41
  go_wp2_with fail
  go_region_held3 (fun w' => w'.cell? ⟨B, 0, none⟩ = some (.int .i64 t) ∧ w'.cell? ⟨w.heap.size, 0, none⟩ = some (.int .i64 r) ∧ w'.cell? ⟨w.heap.size, 1, none⟩ = some (.int .i64 g) ∧ w'.cell? ⟨w.heap.size, 2, none⟩ = some (.int .i64 b) ∧ w'.cell? ⟨w.heap.size, 3, none⟩ = some (.int .i64 a) ∧ w'.cell? ⟨w.heap.size + 1, 0, none⟩ = some (.int .i64 r') ∧ w'.cell? ⟨w.heap.size + 1, 1, none⟩ = some (.int .i64 g') ∧ w'.cell? ⟨w.heap.size + 1, 2, none⟩ = some (.int .i64 b') ∧ w'.cell? ⟨w.heap.size + 1, 3, none⟩ = some (.int .i64 a')) ((repeat' apply And.intro) <;> (first | (go_keep; done) | (go_cell; done)))
    (first | (go_at_call 42; refine (mix_f _ _ t _ _ ?_ (by omega) (by omega) (by omega) (by omega) (by omega) (by omega)).mono ?_; (simp [*]); rintro e w' ⟨rfl, rfl⟩))
  all_goals (go_wp2; go_returns; exact ⟨rfl, rfl⟩)
set_option maxHeartbeats 2000000 in
theorem MixColor_i (r g b a r' g' b' a' t : Int) (w : World) (h1 : 0 ≤ a ∧ a ≤ 255 ∧ 0 ≤ r ∧ r ≤ a ∧ 0 ≤ g ∧ g ≤ a ∧ 0 ≤ b ∧ b ≤ a) (h2 : 0 ≤ a' ∧ a' ≤ 255 ∧ 0 ≤ r' ∧ r' ≤ a' ∧ 0 ≤ g' ∧ g' ≤ a' ∧ 0 ≤ b' ∧ b' ≤ a') (t1 : 0 ≤ t) (t2 : t ≤ 256) :
    Calls Try.prog 34 #[.agg #[.int .i64 r, .int .i64 g, .int .i64 b, .int .i64 a], .agg #[.int .i64 r', .int .i64 g', .int .i64 b', .int .i64 a'], .int .i64 t] w fun e w' => e = .returned (.agg #[.int .i64 (rnd (r * (256 - t) + r' * t) 256), .int .i64 (rnd (g * (256 - t) + g' * t) 256), .int .i64 (rnd (b * (256 - t) + b' * t) 256), .int .i64 (rnd (a * (256 - t) + a' * t) 256)]) ∧ Below w.heap.size w w' := by
  have v1 := colB_true.2 h1
  have v2 := colB_true.2 h2
  have v3 := inB_mk t1 t2
  obtain ⟨c1, c2, c3, c4, c5, c6, c7, c8⟩ := h1
  obtain ⟨d1, d2, d3, d4, d5, d6, d7, d8⟩ := h2
  go_enter Try.func34, Try.ntmps34
  go_wp2_with (first | (go_at_call 19; refine (ValidColor_i _ _ _ _ _).mono ?_; rintro e w1 ⟨rfl, rfl⟩) | (go_at_call 22; refine (in_c _ _ _ _).mono ?_; rintro e w1 ⟨rfl, rfl⟩))
  refine (each_mix _ _ _ _ _ _ _ _ t _ _ (by go_cell) (by omega) (by omega) ⟨by omega, by omega, by omega, by omega, by omega, by omega, by omega, by omega⟩ ⟨by omega, by omega, by omega, by omega, by omega, by omega, by omega, by omega⟩).mono ?_
  rintro e w1 ⟨rfl, rfl⟩
  go_wp2
  go_returns
  exact ⟨rfl, by go_grown⟩
end Go.Proofs.Ytkihbfohdennjaa
