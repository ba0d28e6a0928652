/-
  What the program makes of valid colors: over, between, covered.
-/
import Derived.Test.YtmdkfeojkjlpeaaColor
import Derived.Handy
namespace Go.Proofs.Ytmdkfeojkjlpeaa
open Go.RowKit
set_option linter.unusedSimpArgs false
set_option linter.unusedVariables false

attribute [local go_sem ↓] Go.wp_at_zero Go.wp_at_succ
theorem over_f (x y : Int) (aa : Int) (B : Nat) (w : World) (hc : w.cell? ⟨B, 3, none⟩ = some (.int .i64 aa)) (x1 : 0 ≤ x) (x2 : x ≤ 255) (y1 : 0 ≤ y) (y2 : y ≤ 255) (a1 : 0 ≤ aa) (a2 : aa ≤ 255) :
    Calls Try.prog 38 #[.int .i64 x, .int .i64 y, .pointer (some ⟨B, 0, none⟩)] w fun e w' => e = .returned (.int .i64 (x + rnd (y * (255 - aa)) 255)) ∧ w = w' := by
  obtain ⟨m1, m2⟩ := prod_bd (x := y) (p := 255 - aa) y1 y2 (by omega) (by omega)
  obtain ⟨k1, k2⟩ := rnd_bd (p := y * (255 - aa)) (q := 255) (M := 255) (by omega) m1 (by omega)
  go_enter Try.func38, Try.ntmps38
  go_wp2_with (go_at_call 34; refine (round_c _ _ _ (by omega) (by omega) (by omega) (by omega)).mono ?_; rintro e w' ⟨rfl, rfl⟩)
  go_ret
  exact ⟨rfl, rfl⟩
set_option maxHeartbeats 2000000 in
theorem each_over (r g b a r' g' b' a' : Int) (aa : Int) (B : Nat) (w : World) (hc : w.cell? ⟨B, 3, none⟩ = some (.int .i64 aa)) (a1 : 0 ≤ aa) (a2 : aa ≤ 255) (h1 : 0 ≤ a ∧ a ≤ 255 ∧ 0 ≤ r ∧ r ≤ 255 ∧ 0 ≤ g ∧ g ≤ 255 ∧ 0 ≤ b ∧ b ≤ 255) (h2 : 0 ≤ a' ∧ a' ≤ 255 ∧ 0 ≤ r' ∧ r' ≤ 255 ∧ 0 ≤ g' ∧ g' ≤ 255 ∧ 0 ≤ b' ∧ b' ≤ 255) :
    Calls Try.prog 32 #[.agg #[.int .i64 r, .int .i64 g, .int .i64 b, .int .i64 a], .agg #[.int .i64 r', .int .i64 g', .int .i64 b', .int .i64 a'], .func (Fn.func 38) #[] #[.pointer (some ⟨B, 0, none⟩)]] w fun e w' => e = .returned (.agg #[.int .i64 (r + rnd (r' * (255 - aa)) 255), .int .i64 (g + rnd (g' * (255 - aa)) 255), .int .i64 (b + rnd (b' * (255 - aa)) 255), .int .i64 (a + rnd (a' * (255 - aa)) 255)])
      ∧ (((w.alloc (.cells #[.int .i64 r, .int .i64 g, .int .i64 b, .int .i64 a] 25)).alloc (.cells #[.int .i64 r', .int .i64 g', .int .i64 b', .int .i64 a'] 25)).alloc (.cells #[.int .i64 (r + rnd (r' * (255 - aa)) 255), .int .i64 (g + rnd (g' * (255 - aa)) 255), .int .i64 (b + rnd (b' * (255 - aa)) 255), .int .i64 (a + rnd (a' * (255 - aa)) 255)] 25)).drew = w' := by
  obtain ⟨c1, c2, c3, c4, c5, c6, c7, c8⟩ := h1
  obtain ⟨d1, d2, d3, d4, d5, d6, d7, d8⟩ := h2
  have hBl : B < w.heap.size := World.block_lt_of_cell? w _ hc
  have hB1 : B < w.heap.size + 1 := by omega
  have hB2 : B < w.heap.size + 1 + 1 := by omega
  go_enter Try.func32, Try.ntmps32
  go_wp2_with fail
  go_region_held3 (fun w' => w'.cell? ⟨B, 3, none⟩ = some (.int .i64 aa) ∧ w'.cell? ⟨w.heap.size, 0, none⟩ = some (.int .i64 r) ∧ w'.cell? ⟨w.heap.size, 1, none⟩ = some (.int .i64 g) ∧ w'.cell? ⟨w.heap.size, 2, none⟩ = some (.int .i64 b) ∧ w'.cell? ⟨w.heap.size, 3, none⟩ = some (.int .i64 a) ∧ w'.cell? ⟨w.heap.size + 1, 0, none⟩ = some (.int .i64 r') ∧ w'.cell? ⟨w.heap.size + 1, 1, none⟩ = some (.int .i64 g') ∧ w'.cell? ⟨w.heap.size + 1, 2, none⟩ = some (.int .i64 b') ∧ w'.cell? ⟨w.heap.size + 1, 3, none⟩ = some (.int .i64 a')) ((repeat' apply And.intro) <;> (first | (go_keep; done) | (go_cell; done)))
    (first | (go_at_call 38; refine (over_f _ _ aa _ _ ?_ (by omega) (by omega) (by omega) (by omega) (by omega) (by omega)).mono ?_; (simp [*]); rintro e w' ⟨rfl, rfl⟩))
  all_goals (go_wp2; go_returns; exact ⟨rfl, rfl⟩)
set_option maxHeartbeats 2000000 in
theorem OverColor_i (r g b a r' g' b' a' : Int) (w : World) (h1 : 0 ≤ a ∧ a ≤ 255 ∧ 0 ≤ r ∧ r ≤ a ∧ 0 ≤ g ∧ g ≤ a ∧ 0 ≤ b ∧ b ≤ a) (h2 : 0 ≤ a' ∧ a' ≤ 255 ∧ 0 ≤ r' ∧ r' ≤ a' ∧ 0 ≤ g' ∧ g' ≤ a' ∧ 0 ≤ b' ∧ b' ≤ a') :
    Calls Try.prog 23 #[.agg #[.int .i64 r, .int .i64 g, .int .i64 b, .int .i64 a], .agg #[.int .i64 r', .int .i64 g', .int .i64 b', .int .i64 a']] w fun e w' => e = .returned (.agg #[.int .i64 (r + rnd (r' * (255 - a)) 255), .int .i64 (g + rnd (g' * (255 - a)) 255), .int .i64 (b + rnd (b' * (255 - a)) 255), .int .i64 (a + rnd (a' * (255 - a)) 255)]) ∧ Below w.heap.size w w' := by
  have v1 := colB_true.2 h1
  have v2 := colB_true.2 h2
  obtain ⟨c1, c2, c3, c4, c5, c6, c7, c8⟩ := h1
  obtain ⟨d1, d2, d3, d4, d5, d6, d7, d8⟩ := h2
  go_enter Try.func23, Try.ntmps23
  go_wp2_with (first | (go_at_call 16; refine (ValidColor_i _ _ _ _ _).mono ?_; rintro e w1 ⟨rfl, rfl⟩) | (go_at_call 29; refine (in_c _ _ _ _).mono ?_; rintro e w1 ⟨rfl, rfl⟩))
  refine (each_over _ _ _ _ _ _ _ _ a _ _ (by go_cell) (by omega) (by omega) ⟨by omega, by omega, by omega, by omega, by omega, by omega, by omega, by omega⟩ ⟨by omega, by omega, by omega, by omega, by omega, by omega, by omega, by omega⟩).mono ?_
  rintro e w1 ⟨rfl, rfl⟩
  go_wp2
  go_returns
  exact ⟨rfl, by go_grown⟩
theorem mix_f (x y : Int) (t : Int) (B : Nat) (w : World) (hc : w.cell? ⟨B, 0, none⟩ = some (.int .i64 t)) (x1 : 0 ≤ x) (x2 : x ≤ 255) (y1 : 0 ≤ y) (y2 : y ≤ 255) (t1 : 0 ≤ t) (t2 : t ≤ 256) :
    Calls Try.prog 36 #[.int .i64 x, .int .i64 y, .pointer (some ⟨B, 0, none⟩)] w fun e w' => e = .returned (.int .i64 (rnd (x * (256 - t) + y * t) 256)) ∧ w = w' := by
  obtain ⟨m1, m2⟩ := prod_bd (x := x) (p := 256 - t) x1 x2 (by omega) (by omega)
  obtain ⟨k1, k2⟩ := prod_bd (x := y) (p := t) y1 y2 (by omega) (by omega)
  go_enter Try.func36, Try.ntmps36
  go_wp2_with (go_at_call 34; refine (round_c _ _ _ (by omega) (by omega) (by omega) (by omega)).mono ?_; rintro e w' ⟨rfl, rfl⟩)
  go_ret
  exact ⟨rfl, rfl⟩
set_option maxHeartbeats 2000000 in
theorem each_mix (r g b a r' g' b' a' : Int) (t : Int) (B : Nat) (w : World) (hc : w.cell? ⟨B, 0, none⟩ = some (.int .i64 t)) (t1 : 0 ≤ t) (t2 : t ≤ 256) (h1 : 0 ≤ a ∧ a ≤ 255 ∧ 0 ≤ r ∧ r ≤ 255 ∧ 0 ≤ g ∧ g ≤ 255 ∧ 0 ≤ b ∧ b ≤ 255) (h2 : 0 ≤ a' ∧ a' ≤ 255 ∧ 0 ≤ r' ∧ r' ≤ 255 ∧ 0 ≤ g' ∧ g' ≤ 255 ∧ 0 ≤ b' ∧ b' ≤ 255) :
    Calls Try.prog 32 #[.agg #[.int .i64 r, .int .i64 g, .int .i64 b, .int .i64 a], .agg #[.int .i64 r', .int .i64 g', .int .i64 b', .int .i64 a'], .func (Fn.func 36) #[] #[.pointer (some ⟨B, 0, none⟩)]] w fun e w' => e = .returned (.agg #[.int .i64 (rnd (r * (256 - t) + r' * t) 256), .int .i64 (rnd (g * (256 - t) + g' * t) 256), .int .i64 (rnd (b * (256 - t) + b' * t) 256), .int .i64 (rnd (a * (256 - t) + a' * t) 256)])
      ∧ (((w.alloc (.cells #[.int .i64 r, .int .i64 g, .int .i64 b, .int .i64 a] 25)).alloc (.cells #[.int .i64 r', .int .i64 g', .int .i64 b', .int .i64 a'] 25)).alloc (.cells #[.int .i64 (rnd (r * (256 - t) + r' * t) 256), .int .i64 (rnd (g * (256 - t) + g' * t) 256), .int .i64 (rnd (b * (256 - t) + b' * t) 256), .int .i64 (rnd (a * (256 - t) + a' * t) 256)] 25)).drew = w' := by
  obtain ⟨c1, c2, c3, c4, c5, c6, c7, c8⟩ := h1
  obtain ⟨d1, d2, d3, d4, d5, d6, d7, d8⟩ := h2
  have hBl : B < w.heap.size := World.block_lt_of_cell? w _ hc
  have hB1 : B < w.heap.size + 1 := by omega
  have hB2 : B < w.heap.size + 1 + 1 := by omega
  go_enter Try.func32, Try.ntmps32
  go_wp2_with fail
  go_region_held3 (fun w' => w'.cell? ⟨B, 0, none⟩ = some (.int .i64 t) ∧ w'.cell? ⟨w.heap.size, 0, none⟩ = some (.int .i64 r) ∧ w'.cell? ⟨w.heap.size, 1, none⟩ = some (.int .i64 g) ∧ w'.cell? ⟨w.heap.size, 2, none⟩ = some (.int .i64 b) ∧ w'.cell? ⟨w.heap.size, 3, none⟩ = some (.int .i64 a) ∧ w'.cell? ⟨w.heap.size + 1, 0, none⟩ = some (.int .i64 r') ∧ w'.cell? ⟨w.heap.size + 1, 1, none⟩ = some (.int .i64 g') ∧ w'.cell? ⟨w.heap.size + 1, 2, none⟩ = some (.int .i64 b') ∧ w'.cell? ⟨w.heap.size + 1, 3, none⟩ = some (.int .i64 a')) ((repeat' apply And.intro) <;> (first | (go_keep; done) | (go_cell; done)))
    (first | (go_at_call 36; refine (mix_f _ _ t _ _ ?_ (by omega) (by omega) (by omega) (by omega) (by omega) (by omega)).mono ?_; (simp [*]); rintro e w' ⟨rfl, rfl⟩))
  all_goals (go_wp2; go_returns; exact ⟨rfl, rfl⟩)
set_option maxHeartbeats 2000000 in
theorem MixColor_i (r g b a r' g' b' a' t : Int) (w : World) (h1 : 0 ≤ a ∧ a ≤ 255 ∧ 0 ≤ r ∧ r ≤ a ∧ 0 ≤ g ∧ g ≤ a ∧ 0 ≤ b ∧ b ≤ a) (h2 : 0 ≤ a' ∧ a' ≤ 255 ∧ 0 ≤ r' ∧ r' ≤ a' ∧ 0 ≤ g' ∧ g' ≤ a' ∧ 0 ≤ b' ∧ b' ≤ a') (t1 : 0 ≤ t) (t2 : t ≤ 256) :
    Calls Try.prog 21 #[.agg #[.int .i64 r, .int .i64 g, .int .i64 b, .int .i64 a], .agg #[.int .i64 r', .int .i64 g', .int .i64 b', .int .i64 a'], .int .i64 t] w fun e w' => e = .returned (.agg #[.int .i64 (rnd (r * (256 - t) + r' * t) 256), .int .i64 (rnd (g * (256 - t) + g' * t) 256), .int .i64 (rnd (b * (256 - t) + b' * t) 256), .int .i64 (rnd (a * (256 - t) + a' * t) 256)]) ∧ Below w.heap.size w w' := by
  have v1 := colB_true.2 h1
  have v2 := colB_true.2 h2
  have v3 := inB_mk t1 t2
  obtain ⟨c1, c2, c3, c4, c5, c6, c7, c8⟩ := h1
  obtain ⟨d1, d2, d3, d4, d5, d6, d7, d8⟩ := h2
  go_enter Try.func21, Try.ntmps21
  go_wp2_with (first | (go_at_call 16; refine (ValidColor_i _ _ _ _ _).mono ?_; rintro e w1 ⟨rfl, rfl⟩) | (go_at_call 29; refine (in_c _ _ _ _).mono ?_; rintro e w1 ⟨rfl, rfl⟩))
  refine (each_mix _ _ _ _ _ _ _ _ t _ _ (by go_cell) (by omega) (by omega) ⟨by omega, by omega, by omega, by omega, by omega, by omega, by omega, by omega⟩ ⟨by omega, by omega, by omega, by omega, by omega, by omega, by omega, by omega⟩).mono ?_
  rintro e w1 ⟨rfl, rfl⟩
  go_wp2
  go_returns
  exact ⟨rfl, by go_grown⟩
theorem cover_f (x y : Int) (t : Int) (B : Nat) (w : World) (hc : w.cell? ⟨B, 0, none⟩ = some (.int .i64 t)) (x1 : 0 ≤ x) (x2 : x ≤ 255) (y1 : 0 ≤ y) (y2 : y ≤ 255) (t1 : 0 ≤ t) (t2 : t ≤ 16) :
    Calls Try.prog 33 #[.int .i64 x, .int .i64 y, .pointer (some ⟨B, 0, none⟩)] w fun e w' => e = .returned (.int .i64 (rnd (x * t) 16)) ∧ w = w' := by
  obtain ⟨m1, m2⟩ := prod_bd (x := x) (p := t) x1 x2 (by omega) (by omega)
  go_enter Try.func33, Try.ntmps33
  go_wp2_with (go_at_call 34; refine (round_c _ _ _ (by omega) (by omega) (by omega) (by omega)).mono ?_; rintro e w' ⟨rfl, rfl⟩)
  go_ret
  exact ⟨rfl, rfl⟩
set_option maxHeartbeats 2000000 in
theorem each_cover (r g b a r' g' b' a' : Int) (t : Int) (B : Nat) (w : World) (hc : w.cell? ⟨B, 0, none⟩ = some (.int .i64 t)) (t1 : 0 ≤ t) (t2 : t ≤ 16) (h1 : 0 ≤ a ∧ a ≤ 255 ∧ 0 ≤ r ∧ r ≤ 255 ∧ 0 ≤ g ∧ g ≤ 255 ∧ 0 ≤ b ∧ b ≤ 255) (h2 : 0 ≤ a' ∧ a' ≤ 255 ∧ 0 ≤ r' ∧ r' ≤ 255 ∧ 0 ≤ g' ∧ g' ≤ 255 ∧ 0 ≤ b' ∧ b' ≤ 255) :
    Calls Try.prog 32 #[.agg #[.int .i64 r, .int .i64 g, .int .i64 b, .int .i64 a], .agg #[.int .i64 r', .int .i64 g', .int .i64 b', .int .i64 a'], .func (Fn.func 33) #[] #[.pointer (some ⟨B, 0, none⟩)]] w fun e w' => e = .returned (.agg #[.int .i64 (rnd (r * t) 16), .int .i64 (rnd (g * t) 16), .int .i64 (rnd (b * t) 16), .int .i64 (rnd (a * t) 16)])
      ∧ (((w.alloc (.cells #[.int .i64 r, .int .i64 g, .int .i64 b, .int .i64 a] 25)).alloc (.cells #[.int .i64 r', .int .i64 g', .int .i64 b', .int .i64 a'] 25)).alloc (.cells #[.int .i64 (rnd (r * t) 16), .int .i64 (rnd (g * t) 16), .int .i64 (rnd (b * t) 16), .int .i64 (rnd (a * t) 16)] 25)).drew = w' := by
  obtain ⟨c1, c2, c3, c4, c5, c6, c7, c8⟩ := h1
  obtain ⟨d1, d2, d3, d4, d5, d6, d7, d8⟩ := h2
  have hBl : B < w.heap.size := World.block_lt_of_cell? w _ hc
  have hB1 : B < w.heap.size + 1 := by omega
  have hB2 : B < w.heap.size + 1 + 1 := by omega
  go_enter Try.func32, Try.ntmps32
  go_wp2_with fail
  go_region_held3 (fun w' => w'.cell? ⟨B, 0, none⟩ = some (.int .i64 t) ∧ w'.cell? ⟨w.heap.size, 0, none⟩ = some (.int .i64 r) ∧ w'.cell? ⟨w.heap.size, 1, none⟩ = some (.int .i64 g) ∧ w'.cell? ⟨w.heap.size, 2, none⟩ = some (.int .i64 b) ∧ w'.cell? ⟨w.heap.size, 3, none⟩ = some (.int .i64 a) ∧ w'.cell? ⟨w.heap.size + 1, 0, none⟩ = some (.int .i64 r') ∧ w'.cell? ⟨w.heap.size + 1, 1, none⟩ = some (.int .i64 g') ∧ w'.cell? ⟨w.heap.size + 1, 2, none⟩ = some (.int .i64 b') ∧ w'.cell? ⟨w.heap.size + 1, 3, none⟩ = some (.int .i64 a')) ((repeat' apply And.intro) <;> (first | (go_keep; done) | (go_cell; done)))
    (first | (go_at_call 33; refine (cover_f _ _ t _ _ ?_ (by omega) (by omega) (by omega) (by omega) (by omega) (by omega)).mono ?_; (simp [*]); rintro e w' ⟨rfl, rfl⟩))
  all_goals (go_wp2; go_returns; exact ⟨rfl, rfl⟩)
set_option maxHeartbeats 2000000 in
theorem CoverColor_i (r g b a t : Int) (w : World) (h1 : 0 ≤ a ∧ a ≤ 255 ∧ 0 ≤ r ∧ r ≤ a ∧ 0 ≤ g ∧ g ≤ a ∧ 0 ≤ b ∧ b ≤ a) (t1 : 0 ≤ t) (t2 : t ≤ 16) :
    Calls Try.prog 18 #[.agg #[.int .i64 r, .int .i64 g, .int .i64 b, .int .i64 a], .int .i64 t] w fun e w' => e = .returned (.agg #[.int .i64 (rnd (r * t) 16), .int .i64 (rnd (g * t) 16), .int .i64 (rnd (b * t) 16), .int .i64 (rnd (a * t) 16)]) ∧ Below w.heap.size w w' := by
  have v1 := colB_true.2 h1
  have v3 := inB_mk t1 t2
  obtain ⟨c1, c2, c3, c4, c5, c6, c7, c8⟩ := h1
  go_enter Try.func18, Try.ntmps18
  go_wp2_with (first | (go_at_call 16; refine (ValidColor_i _ _ _ _ _).mono ?_; rintro e w1 ⟨rfl, rfl⟩) | (go_at_call 29; refine (in_c _ _ _ _).mono ?_; rintro e w1 ⟨rfl, rfl⟩))
  refine (each_cover _ _ _ _ _ _ _ _ t _ _ (by go_cell) (by omega) (by omega) ⟨by omega, by omega, by omega, by omega, by omega, by omega, by omega, by omega⟩ ⟨by omega, by omega, by omega, by omega, by omega, by omega, by omega, by omega⟩).mono ?_
  rintro e w1 ⟨rfl, rfl⟩
  go_wp2
  go_returns
  exact ⟨rfl, by go_grown⟩
end Go.Proofs.Ytmdkfeojkjlpeaa
