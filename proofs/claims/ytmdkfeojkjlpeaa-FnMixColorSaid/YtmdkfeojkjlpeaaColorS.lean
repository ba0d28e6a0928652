/-
  What the reference makes of valid colors.
-/
import Derived.Test.YtmdkfeojkjlpeaaColor
import Derived.Handy
namespace Go.Proofs.Ytmdkfeojkjlpeaa
open Go.RowKit
set_option linter.unusedSimpArgs false
set_option linter.unusedVariables false

attribute [local go_sem ↓] Go.wp_at_zero Go.wp_at_succ
set_option maxHeartbeats 2000000 in
theorem scaled_c (r g b a p q : Int) (w : World) (r1 : 0 ≤ r) (r2 : r ≤ 255) (g1 : 0 ≤ g) (g2 : g ≤ 255) (b1 : 0 ≤ b) (b2 : b ≤ 255) (a1 : 0 ≤ a) (a2 : a ≤ 255) (p1 : 0 ≤ p) (p2 : p ≤ 256) (q1 : 1 ≤ q) (q2 : q ≤ 256) :
    Calls Try.prog 31 #[.agg #[.int .i64 r, .int .i64 g, .int .i64 b, .int .i64 a], .int .i64 p, .int .i64 q] w fun e w' => e = .returned (.agg #[.int .i64 (rnd (r * p) q), .int .i64 (rnd (g * p) q), .int .i64 (rnd (b * p) q), .int .i64 (rnd (a * p) q)]) ∧ ((w.alloc (.cells #[.int .i64 r, .int .i64 g, .int .i64 b, .int .i64 a] 25)).alloc (.cells #[.int .i64 (rnd (r * p) q), .int .i64 (rnd (g * p) q), .int .i64 (rnd (b * p) q), .int .i64 (rnd (a * p) q)] 25)).drew = w' := by
  obtain ⟨x1, x2⟩ := prod_bd r1 r2 p1 p2
  obtain ⟨x3, x4⟩ := prod_bd g1 g2 p1 p2
  obtain ⟨x5, x6⟩ := prod_bd b1 b2 p1 p2
  obtain ⟨x7, x8⟩ := prod_bd a1 a2 p1 p2
  have e1 := IntWalk.i64_in (r * p) (by omega)
  have e2 := IntWalk.i64_in (g * p) (by omega)
  have e3 := IntWalk.i64_in (b * p) (by omega)
  have e4 := IntWalk.i64_in (a * p) (by omega)
  go_enter Try.func31, Try.ntmps31
  go_wp2_with fail
  go_region_held3 (fun w' => w'.cell? ⟨w.heap.size, 0, none⟩ = some (.int .i64 r) ∧ w'.cell? ⟨w.heap.size, 1, none⟩ = some (.int .i64 g) ∧ w'.cell? ⟨w.heap.size, 2, none⟩ = some (.int .i64 b) ∧ w'.cell? ⟨w.heap.size, 3, none⟩ = some (.int .i64 a)) ((repeat' apply And.intro) <;> (first | (go_keep; done) | (go_cell; done)))
    (first | (go_at_call 43; refine (nearest_c _ _ _ (by omega) (by omega) (by omega) (by omega)).mono ?_; rintro e w' ⟨rfl, rfl⟩))
  all_goals (go_wp2; go_returns; exact ⟨rfl, rfl⟩)
theorem OverColor_s (r g b a r' g' b' a' : Int) (w : World) (h1 : 0 ≤ a ∧ a ≤ 255 ∧ 0 ≤ r ∧ r ≤ a ∧ 0 ≤ g ∧ g ≤ a ∧ 0 ≤ b ∧ b ≤ a) (h2 : 0 ≤ a' ∧ a' ≤ 255 ∧ 0 ≤ r' ∧ r' ≤ a' ∧ 0 ≤ g' ∧ g' ≤ a' ∧ 0 ≤ b' ∧ b' ≤ a') :
    Calls Try.prog 22 #[.agg #[.int .i64 r, .int .i64 g, .int .i64 b, .int .i64 a], .agg #[.int .i64 r', .int .i64 g', .int .i64 b', .int .i64 a']] w fun e w' => e = .returned (.agg #[.int .i64 (r + rnd (r' * (255 - a)) 255), .int .i64 (g + rnd (g' * (255 - a)) 255), .int .i64 (b + rnd (b' * (255 - a)) 255), .int .i64 (a + rnd (a' * (255 - a)) 255)]) ∧ Below w.heap.size w w' := by
  obtain ⟨c1, c2, c3, c4, c5, c6, c7, c8⟩ := h1
  obtain ⟨d1, d2, d3, d4, d5, d6, d7, d8⟩ := h2
  obtain ⟨k01, k02⟩ := rnd_bd (p := r' * (255 - a)) (q := 255) (M := 255) (by omega) (prod_bd (p := 255 - a) (by omega) (by omega) (by omega) (by omega)).1 (by have := (prod_bd (x := r') (p := 255 - a) (by omega) (by omega) (by omega) (by omega)).2; omega)
  obtain ⟨k11, k12⟩ := rnd_bd (p := g' * (255 - a)) (q := 255) (M := 255) (by omega) (prod_bd (p := 255 - a) (by omega) (by omega) (by omega) (by omega)).1 (by have := (prod_bd (x := g') (p := 255 - a) (by omega) (by omega) (by omega) (by omega)).2; omega)
  obtain ⟨k21, k22⟩ := rnd_bd (p := b' * (255 - a)) (q := 255) (M := 255) (by omega) (prod_bd (p := 255 - a) (by omega) (by omega) (by omega) (by omega)).1 (by have := (prod_bd (x := b') (p := 255 - a) (by omega) (by omega) (by omega) (by omega)).2; omega)
  obtain ⟨k31, k32⟩ := rnd_bd (p := a' * (255 - a)) (q := 255) (M := 255) (by omega) (prod_bd (p := 255 - a) (by omega) (by omega) (by omega) (by omega)).1 (by have := (prod_bd (x := a') (p := 255 - a) (by omega) (by omega) (by omega) (by omega)).2; omega)
  go_enter Try.func22, Try.ntmps22
  go_wp2_with (first | (go_at_call 28; refine (validColor_ok _ _ _ _ _ ⟨by omega, by omega, by omega, by omega, by omega, by omega, by omega, by omega⟩).mono ?_; rintro e w1 ⟨rfl, rfl⟩) | (go_at_call 31; refine (scaled_c _ _ _ _ _ _ _ (by omega) (by omega) (by omega) (by omega) (by omega) (by omega) (by omega) (by omega) (by omega) (by omega) (by omega) (by omega)).mono ?_; rintro e w1 ⟨rfl, rfl⟩) | go_in)
  go_returns
  exact ⟨rfl, by go_grown⟩
theorem CoverColor_s (r g b a t : Int) (w : World) (h1 : 0 ≤ a ∧ a ≤ 255 ∧ 0 ≤ r ∧ r ≤ a ∧ 0 ≤ g ∧ g ≤ a ∧ 0 ≤ b ∧ b ≤ a) (t1 : 0 ≤ t) (t2 : t ≤ 16) :
    Calls Try.prog 17 #[.agg #[.int .i64 r, .int .i64 g, .int .i64 b, .int .i64 a], .int .i64 t] w fun e w' => e = .returned (.agg #[.int .i64 (rnd (r * t) 16), .int .i64 (rnd (g * t) 16), .int .i64 (rnd (b * t) 16), .int .i64 (rnd (a * t) 16)]) ∧ Below w.heap.size w w' := by
  have v3 := inB_mk t1 t2
  obtain ⟨c1, c2, c3, c4, c5, c6, c7, c8⟩ := h1
  go_enter Try.func17, Try.ntmps17
  go_wp2_with (first | (go_at_call 28; refine (validColor_ok _ _ _ _ _ ⟨by omega, by omega, by omega, by omega, by omega, by omega, by omega, by omega⟩).mono ?_; rintro e w1 ⟨rfl, rfl⟩) | (go_at_call 31; refine (scaled_c _ _ _ _ _ _ _ (by omega) (by omega) (by omega) (by omega) (by omega) (by omega) (by omega) (by omega) (by omega) (by omega) (by omega) (by omega)).mono ?_; rintro e w1 ⟨rfl, rfl⟩) | (go_at_call 30; refine (inRange_c _ _ _ _).mono ?_; rintro e w' ⟨rfl, rfl⟩) | go_in)
  go_returns
  exact ⟨rfl, by go_grown⟩
set_option maxHeartbeats 4000000 in
theorem mix_s (r g b a r' g' b' a' t : Int) (w : World) (h1 : 0 ≤ a ∧ a ≤ 255 ∧ 0 ≤ r ∧ r ≤ a ∧ 0 ≤ g ∧ g ≤ a ∧ 0 ≤ b ∧ b ≤ a) (h2 : 0 ≤ a' ∧ a' ≤ 255 ∧ 0 ≤ r' ∧ r' ≤ a' ∧ 0 ≤ g' ∧ g' ≤ a' ∧ 0 ≤ b' ∧ b' ≤ a') (t1 : 0 ≤ t) (t2 : t ≤ 256) :
    Calls Try.prog 35 #[.agg #[.int .i64 r, .int .i64 g, .int .i64 b, .int .i64 a], .agg #[.int .i64 r', .int .i64 g', .int .i64 b', .int .i64 a'], .int .i64 t] w fun e w' => e = .returned (.agg #[.int .i64 (rnd (r * (256 - t) + r' * t) 256), .int .i64 (rnd (g * (256 - t) + g' * t) 256), .int .i64 (rnd (b * (256 - t) + b' * t) 256), .int .i64 (rnd (a * (256 - t) + a' * t) 256)]) ∧ (((w.alloc (.cells #[.int .i64 r, .int .i64 g, .int .i64 b, .int .i64 a] 25)).alloc (.cells #[.int .i64 r', .int .i64 g', .int .i64 b', .int .i64 a'] 25)).alloc (.cells #[.int .i64 (rnd (r * (256 - t) + r' * t) 256), .int .i64 (rnd (g * (256 - t) + g' * t) 256), .int .i64 (rnd (b * (256 - t) + b' * t) 256), .int .i64 (rnd (a * (256 - t) + a' * t) 256)] 25)).drew = w' := by
  obtain ⟨c1, c2, c3, c4, c5, c6, c7, c8⟩ := h1
  obtain ⟨d1, d2, d3, d4, d5, d6, d7, d8⟩ := h2
  obtain ⟨m01, m02⟩ := prod_bd (x := r) (p := 256 - t) (by omega) (by omega) (by omega) (by omega)
  obtain ⟨n01, n02⟩ := prod_bd (x := r') (p := t) (by omega) (by omega) t1 t2
  have e01 := IntWalk.i64_in (r * (256 - t)) (by omega)
  have e02 := IntWalk.i64_in (r' * t) (by omega)
  have e03 := IntWalk.i64_in (r * (256 - t) + r' * t) (by omega)
  obtain ⟨m11, m12⟩ := prod_bd (x := g) (p := 256 - t) (by omega) (by omega) (by omega) (by omega)
  obtain ⟨n11, n12⟩ := prod_bd (x := g') (p := t) (by omega) (by omega) t1 t2
  have e11 := IntWalk.i64_in (g * (256 - t)) (by omega)
  have e12 := IntWalk.i64_in (g' * t) (by omega)
  have e13 := IntWalk.i64_in (g * (256 - t) + g' * t) (by omega)
  obtain ⟨m21, m22⟩ := prod_bd (x := b) (p := 256 - t) (by omega) (by omega) (by omega) (by omega)
  obtain ⟨n21, n22⟩ := prod_bd (x := b') (p := t) (by omega) (by omega) t1 t2
  have e21 := IntWalk.i64_in (b * (256 - t)) (by omega)
  have e22 := IntWalk.i64_in (b' * t) (by omega)
  have e23 := IntWalk.i64_in (b * (256 - t) + b' * t) (by omega)
  obtain ⟨m31, m32⟩ := prod_bd (x := a) (p := 256 - t) (by omega) (by omega) (by omega) (by omega)
  obtain ⟨n31, n32⟩ := prod_bd (x := a') (p := t) (by omega) (by omega) t1 t2
  have e31 := IntWalk.i64_in (a * (256 - t)) (by omega)
  have e32 := IntWalk.i64_in (a' * t) (by omega)
  have e33 := IntWalk.i64_in (a * (256 - t) + a' * t) (by omega)
  have e0 := IntWalk.i64_in (256 - t) (by omega)
  go_enter Try.func35, Try.ntmps35
  go_wp2_with fail
  go_region_held3 (fun w' => w'.cell? ⟨w.heap.size, 0, none⟩ = some (.int .i64 r) ∧ w'.cell? ⟨w.heap.size, 1, none⟩ = some (.int .i64 g) ∧ w'.cell? ⟨w.heap.size, 2, none⟩ = some (.int .i64 b) ∧ w'.cell? ⟨w.heap.size, 3, none⟩ = some (.int .i64 a) ∧ w'.cell? ⟨w.heap.size + 1, 0, none⟩ = some (.int .i64 r') ∧ w'.cell? ⟨w.heap.size + 1, 1, none⟩ = some (.int .i64 g') ∧ w'.cell? ⟨w.heap.size + 1, 2, none⟩ = some (.int .i64 b') ∧ w'.cell? ⟨w.heap.size + 1, 3, none⟩ = some (.int .i64 a')) ((repeat' apply And.intro) <;> (first | (go_keep; done) | (go_cell; done)))
    (first | (go_at_call 43; refine (nearest_c _ _ _ (by omega) (by omega) (by omega) (by omega)).mono ?_; rintro e w' ⟨rfl, rfl⟩))
  all_goals (go_wp2; go_returns; exact ⟨rfl, rfl⟩)
theorem MixColor_s (r g b a r' g' b' a' t : Int) (w : World) (h1 : 0 ≤ a ∧ a ≤ 255 ∧ 0 ≤ r ∧ r ≤ a ∧ 0 ≤ g ∧ g ≤ a ∧ 0 ≤ b ∧ b ≤ a) (h2 : 0 ≤ a' ∧ a' ≤ 255 ∧ 0 ≤ r' ∧ r' ≤ a' ∧ 0 ≤ g' ∧ g' ≤ a' ∧ 0 ≤ b' ∧ b' ≤ a') (t1 : 0 ≤ t) (t2 : t ≤ 256) :
    Calls Try.prog 20 #[.agg #[.int .i64 r, .int .i64 g, .int .i64 b, .int .i64 a], .agg #[.int .i64 r', .int .i64 g', .int .i64 b', .int .i64 a'], .int .i64 t] w fun e w' => e = .returned (.agg #[.int .i64 (rnd (r * (256 - t) + r' * t) 256), .int .i64 (rnd (g * (256 - t) + g' * t) 256), .int .i64 (rnd (b * (256 - t) + b' * t) 256), .int .i64 (rnd (a * (256 - t) + a' * t) 256)]) ∧ Below w.heap.size w w' := by
  have v3 := inB_mk t1 t2
  obtain ⟨c1, c2, c3, c4, c5, c6, c7, c8⟩ := h1
  obtain ⟨d1, d2, d3, d4, d5, d6, d7, d8⟩ := h2
  go_enter Try.func20, Try.ntmps20
  go_wp2_with (first | (go_at_call 28; refine (validColor_ok _ _ _ _ _ ⟨by omega, by omega, by omega, by omega, by omega, by omega, by omega, by omega⟩).mono ?_; rintro e w1 ⟨rfl, rfl⟩) | (go_at_call 30; refine (inRange_c _ _ _ _).mono ?_; rintro e w' ⟨rfl, rfl⟩) | (go_at_call 35; refine (mix_s _ _ _ _ _ _ _ _ _ _ ⟨by omega, by omega, by omega, by omega, by omega, by omega, by omega, by omega⟩ ⟨by omega, by omega, by omega, by omega, by omega, by omega, by omega, by omega⟩ t1 t2).mono ?_; rintro e w1 ⟨rfl, rfl⟩))
  go_returns
  exact ⟨rfl, by go_grown⟩
end Go.Proofs.Ytmdkfeojkjlpeaa
