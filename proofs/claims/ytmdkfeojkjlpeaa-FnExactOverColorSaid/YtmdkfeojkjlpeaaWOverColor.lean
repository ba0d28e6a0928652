/-
  The walk of FnExactOverColor: it returns true for every two colors.
-/
import Derived.Test.YtmdkfeojkjlpeaaColorA
import Derived.Deep.DeepCutAuto
namespace Go.Proofs.Ytmdkfeojkjlpeaa
open Go.RowKit
set_option linter.unusedSimpArgs false
set_option linter.unusedVariables false

attribute [local go_sem ↓] Go.wp_at_zero Go.wp_at_succ
set_option maxHeartbeats 4000000 in
theorem walk_over (r g b a r' g' b' a' : Int) (w : World)  :
    Calls Try.prog 6 #[.agg #[.int .i64 r, .int .i64 g, .int .i64 b, .int .i64 a], .agg #[.int .i64 r', .int .i64 g', .int .i64 b', .int .i64 a']] w fun e w' => e = .returned (.bool true) ∧ Below w.heap.size w w' := by
  go_enter Try.func6, Try.ntmps6
  go_upto_region 1 with fail
  go_cut [5] (fun s5 wx => ∃ g0 : Nat, s5 = .pointer (some ⟨g0, 0, none⟩) ∧ w.heap.size + 1 < g0 ∧ g0 < wx.heap.size ∧ Below w.heap.size w wx ∧ wx.cell? ⟨w.heap.size, 0, none⟩ = some (.int .i64 r) ∧ wx.cell? ⟨w.heap.size, 1, none⟩ = some (.int .i64 g) ∧ wx.cell? ⟨w.heap.size, 2, none⟩ = some (.int .i64 b) ∧ wx.cell? ⟨w.heap.size, 3, none⟩ = some (.int .i64 a) ∧ wx.cell? ⟨w.heap.size + 1, 0, none⟩ = some (.int .i64 r') ∧ wx.cell? ⟨w.heap.size + 1, 1, none⟩ = some (.int .i64 g') ∧ wx.cell? ⟨w.heap.size + 1, 2, none⟩ = some (.int .i64 b') ∧ wx.cell? ⟨w.heap.size + 1, 3, none⟩ = some (.int .i64 a') ∧ wx.cell? ⟨g0, 0, none⟩ = some (.int .i64 (sel (colB r g b a && colB r' g' b' a') (r + rnd (r' * (255 - a)) 255))) ∧ wx.cell? ⟨g0, 1, none⟩ = some (.int .i64 (sel (colB r g b a && colB r' g' b' a') (g + rnd (g' * (255 - a)) 255))) ∧ wx.cell? ⟨g0, 2, none⟩ = some (.int .i64 (sel (colB r g b a && colB r' g' b' a') (b + rnd (b' * (255 - a)) 255))) ∧ wx.cell? ⟨g0, 3, none⟩ = some (.int .i64 (sel (colB r g b a && colB r' g' b' a') (a + rnd (a' * (255 - a)) 255))))
  case first =>
    go_region_held3 (fun w' => w'.cell? ⟨w.heap.size, 0, none⟩ = some (.int .i64 r) ∧ w'.cell? ⟨w.heap.size, 1, none⟩ = some (.int .i64 g) ∧ w'.cell? ⟨w.heap.size, 2, none⟩ = some (.int .i64 b) ∧ w'.cell? ⟨w.heap.size, 3, none⟩ = some (.int .i64 a) ∧ w'.cell? ⟨w.heap.size + 1, 0, none⟩ = some (.int .i64 r') ∧ w'.cell? ⟨w.heap.size + 1, 1, none⟩ = some (.int .i64 g') ∧ w'.cell? ⟨w.heap.size + 1, 2, none⟩ = some (.int .i64 b') ∧ w'.cell? ⟨w.heap.size + 1, 3, none⟩ = some (.int .i64 a')) ((repeat' apply And.intro) <;> (first | ((repeat (first | (with_reducible assumption) | (with_reducible refine cell_keepD ?_) | (with_reducible refine cell_keepA ?_ _) | (with_reducible refine cell_keepS ?_ _ (by simp only []; omega)) | (with_reducible refine (hc1 _ _ (by go_size)).trans ?_))); done) | (go_cell; done)))
      (first | (go_at_call 15; refine (toColor_c _ _ _ _ _).mono ?_; rintro e w1 ⟨rfl, rfl⟩) | (go_at_call 22; refine (OverColor_sA _ _ _ _ _ _ _ _ _).mono ?_; rintro e w1 ⟨rfl, hb1⟩; obtain ⟨hc1, hf1⟩ := bcell hb1; have hz1 := hb1.size; simp only [World.size_alloc, World.size_setCell, World.size_drew] at hz1; have z0 : w.heap.size < w1.heap.size := (by omega); have z1 : w.heap.size + 1 < w1.heap.size := (by omega); have z2 : w.heap.size + 1 + 1 < w1.heap.size := (by omega); have B1 : Below w.heap.size w w1 := below_then (by go_grown) hb1))
    all_goals (go_wp2_with fail; go_meet; refine ⟨_, rfl, ?_, ?_, ?_, ?_, ?_, ?_, ?_, ?_, ?_, ?_, ?_, ?_, ?_, ?_, ?_⟩ <;> (first | rfl | (go_cell; done) | (go_size; done) | (go_grown; done)))
  case rest =>
    obtain ⟨wx, rfl⟩ : ∃ wx : World, wx = wc := ⟨_, rfl⟩
    obtain ⟨g0, rfl, q1, q2, q3, s0, s1, s2, s3, s4, s5, s6, s7, t0, t1, t2, t3⟩ := hcut
    have y0 : w.heap.size + 1 < wx.heap.size := by omega
    have y1 : w.heap.size < g0 := by omega
    go_upto_region 2 with fail
    go_cut [6] (fun s6 wy => ∃ g1 : Nat, s6 = .pointer (some ⟨g1, 0, none⟩) ∧ wx.heap.size ≤ g1 ∧ g1 < wy.heap.size ∧ Below w.heap.size w wy ∧ wy.cell? ⟨g0, 0, none⟩ = some (.int .i64 (sel (colB r g b a && colB r' g' b' a') (r + rnd (r' * (255 - a)) 255))) ∧ wy.cell? ⟨g0, 1, none⟩ = some (.int .i64 (sel (colB r g b a && colB r' g' b' a') (g + rnd (g' * (255 - a)) 255))) ∧ wy.cell? ⟨g0, 2, none⟩ = some (.int .i64 (sel (colB r g b a && colB r' g' b' a') (b + rnd (b' * (255 - a)) 255))) ∧ wy.cell? ⟨g0, 3, none⟩ = some (.int .i64 (sel (colB r g b a && colB r' g' b' a') (a + rnd (a' * (255 - a)) 255))) ∧ wy.cell? ⟨g1, 0, none⟩ = some (.int .i64 (sel (colB r g b a && colB r' g' b' a') (r + rnd (r' * (255 - a)) 255))) ∧ wy.cell? ⟨g1, 1, none⟩ = some (.int .i64 (sel (colB r g b a && colB r' g' b' a') (g + rnd (g' * (255 - a)) 255))) ∧ wy.cell? ⟨g1, 2, none⟩ = some (.int .i64 (sel (colB r g b a && colB r' g' b' a') (b + rnd (b' * (255 - a)) 255))) ∧ wy.cell? ⟨g1, 3, none⟩ = some (.int .i64 (sel (colB r g b a && colB r' g' b' a') (a + rnd (a' * (255 - a)) 255))))
    case first =>
      go_region_held3 (fun w' => w'.cell? ⟨w.heap.size, 0, none⟩ = some (.int .i64 r) ∧ w'.cell? ⟨w.heap.size, 1, none⟩ = some (.int .i64 g) ∧ w'.cell? ⟨w.heap.size, 2, none⟩ = some (.int .i64 b) ∧ w'.cell? ⟨w.heap.size, 3, none⟩ = some (.int .i64 a) ∧ w'.cell? ⟨w.heap.size + 1, 0, none⟩ = some (.int .i64 r') ∧ w'.cell? ⟨w.heap.size + 1, 1, none⟩ = some (.int .i64 g') ∧ w'.cell? ⟨w.heap.size + 1, 2, none⟩ = some (.int .i64 b') ∧ w'.cell? ⟨w.heap.size + 1, 3, none⟩ = some (.int .i64 a') ∧ w'.cell? ⟨g0, 0, none⟩ = some (.int .i64 (sel (colB r g b a && colB r' g' b' a') (r + rnd (r' * (255 - a)) 255))) ∧ w'.cell? ⟨g0, 1, none⟩ = some (.int .i64 (sel (colB r g b a && colB r' g' b' a') (g + rnd (g' * (255 - a)) 255))) ∧ w'.cell? ⟨g0, 2, none⟩ = some (.int .i64 (sel (colB r g b a && colB r' g' b' a') (b + rnd (b' * (255 - a)) 255))) ∧ w'.cell? ⟨g0, 3, none⟩ = some (.int .i64 (sel (colB r g b a && colB r' g' b' a') (a + rnd (a' * (255 - a)) 255)))) ((repeat' apply And.intro) <;> (first | ((repeat (first | (with_reducible assumption) | (with_reducible refine cell_keepD ?_) | (with_reducible refine cell_keepA ?_ _) | (with_reducible refine cell_keepS ?_ _ (by simp only []; omega)) | (with_reducible refine (hc1 _ _ (by go_size)).trans ?_))); done) | (go_cell; done)))
        (first | (go_at_call 15; refine (toColor_c _ _ _ _ _).mono ?_; rintro e w1 ⟨rfl, rfl⟩) | (go_at_call 23; refine (OverColor_iA _ _ _ _ _ _ _ _ _).mono ?_; rintro e w1 ⟨rfl, hb1⟩; obtain ⟨hc1, hf1⟩ := bcell hb1; have hz1 := hb1.size; simp only [World.size_alloc, World.size_setCell, World.size_drew] at hz1; have zg : g0 < w1.heap.size := (by omega); have zx : wx.heap.size < w1.heap.size := (by omega); obtain ⟨ux0, qx0⟩ := Option.isSome_iff_exists.1 (show (w1.cell? ⟨wx.heap.size, 0, none⟩).isSome = true by rw [hc1 wx.heap.size 0 (by go_size)]; go_simp); obtain ⟨ux1, qx1⟩ := Option.isSome_iff_exists.1 (show (w1.cell? ⟨wx.heap.size, 1, none⟩).isSome = true by rw [hc1 wx.heap.size 1 (by go_size)]; go_simp); obtain ⟨ux2, qx2⟩ := Option.isSome_iff_exists.1 (show (w1.cell? ⟨wx.heap.size, 2, none⟩).isSome = true by rw [hc1 wx.heap.size 2 (by go_size)]; go_simp); obtain ⟨ux3, qx3⟩ := Option.isSome_iff_exists.1 (show (w1.cell? ⟨wx.heap.size, 3, none⟩).isSome = true by rw [hc1 wx.heap.size 3 (by go_size)]; go_simp); have z0 : w.heap.size < w1.heap.size := (by omega); have z1 : w.heap.size + 1 < w1.heap.size := (by omega); have z2 : w.heap.size + 1 + 1 < w1.heap.size := (by omega); have B1 : Below w.heap.size w w1 := below_then (by go_grown) hb1))
      all_goals (go_wp2_with fail; go_meet; refine ⟨_, rfl, ?_, ?_, ?_, ?_, ?_, ?_, ?_, ?_, ?_, ?_, ?_⟩ <;> (first | rfl | (go_cell; done) | (go_size; done) | (go_grown; done)))
    case rest =>
      obtain ⟨wy, rfl⟩ : ∃ wy : World, wy = wc := ⟨_, rfl⟩
      obtain ⟨g1, rfl, p1, p2, p3, u0, u1, u2, u3, v0, v1, v2, v3⟩ := hcut
      go_wp2_with (go_at_call 19; refine (eqColor_c _ _ _ _ _).mono ?_; rintro e w1 ⟨rfl, rfl⟩)
      go_returns
      exact ⟨rfl, by go_grown⟩
theorem walk_FnExactOverColor (a0_0 a0_1 a0_2 a0_3 : Int) (w0_0 : (Lit.int .i64 a0_0).wf = true) (w0_1 : (Lit.int .i64 a0_1).wf = true) (w0_2 : (Lit.int .i64 a0_2).wf = true) (w0_3 : (Lit.int .i64 a0_3).wf = true) (a1_0 a1_1 a1_2 a1_3 : Int) (w1_0 : (Lit.int .i64 a1_0).wf = true) (w1_1 : (Lit.int .i64 a1_1).wf = true) (w1_2 : (Lit.int .i64 a1_2).wf = true) (w1_3 : (Lit.int .i64 a1_3).wf = true) (w : World) :
    Calls Try.prog 6 #[.agg #[.int .i64 a0_0, .int .i64 a0_1, .int .i64 a0_2, .int .i64 a0_3], .agg #[.int .i64 a1_0, .int .i64 a1_1, .int .i64 a1_2, .int .i64 a1_3]] w fun e w' => e = .returned (.bool true) ∧ Below w.heap.size w w' := by
  clear w0_0 w0_1 w0_2 w0_3 w1_0 w1_1 w1_2 w1_3
  exact walk_over a0_0 a0_1 a0_2 a0_3 a1_0 a1_1 a1_2 a1_3 w
end Go.Proofs.Ytmdkfeojkjlpeaa
