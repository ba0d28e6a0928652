/-
  Pixels of tiles.
-/
import Derived.Test.YtkcmjpbnjdedlaaTile
import Derived.Test.YtkcmjpbnjdedlaaSlice
import Derived.Deep.RegionHeld3
import Derived.Deep.DrawnRows
namespace Go.Proofs.Ytkcmjpbnjdedlaa
open Go.RowKit
set_option linter.unusedSimpArgs false
set_option linter.unusedVariables false

attribute [local go_sem ↓] Go.wp_at_zero Go.wp_at_succ
theorem agg4_eq {a b c d a' b' c' d' : Int} (h1 : a = a') (h2 : b = b') (h3 : c = c') (h4 : d = d') : Ending.returned (.tuple #[Value.agg #[.int .i64 a, .int .i64 b, .int .i64 c, .int .i64 d], .bool true]) = .returned (.tuple #[Value.agg #[.int .i64 a', .int .i64 b', .int .i64 c', .int .i64 d'], .bool true]) := by rw [h1, h2, h3, h4]
set_option maxHeartbeats 1000000 in
theorem TileBox_i_ok (a b t : Int) (w : World) (hz : sizedB a b = true) (hv : inB t 0 (acr a * acr b - 1) = true) : Calls Try.prog 30 #[.int .i64 a, .int .i64 b, .int .i64 t] w fun e w' => e = .returned (.tuple #[.agg #[.int .i64 (t % acr a * 4), .int .i64 (t / acr a * 4), .int .i64 (min (t % acr a * 4 + 4) a), .int .i64 (min (t / acr a * 4 + 4) b)], .bool true]) ∧ Below w.heap.size w w' := by
  obtain ⟨x1, x2, y1, y2, m1, m2⟩ := tile_bd hz
  obtain ⟨a1, a2, b1, b2⟩ := sizedB_true hz
  obtain ⟨t1, t2⟩ := inB_true.1 hv
  obtain ⟨n1, n2, n3, n4⟩ := tb_bd t1 (show t ≤ 1000 by omega) x1 x2
  have hc : tileCount a b = acr a * acr b := by simp [tileCount, hz]
  have e1 := IntWalk.i64_in (t % acr a * 4) (by omega)
  have e2 := IntWalk.i64_in (t / acr a * 4) (by omega)
  have hne : (acr a == 0) = false := by simp; omega
  have hne2 : acr a ≠ 0 := by omega
  have hp : (0 : Int) < acr a := by omega
  have hd1 : Int.tmod t (acr a) = t % acr a := Int.tmod_eq_emod_of_nonneg t1
  have hd2 : Int.tdiv t (acr a) = t / acr a := Int.tdiv_eq_ediv_of_nonneg t1
  have e3 := IntWalk.i64_in (t % acr a) (by omega)
  have e4 := IntWalk.i64_in (t / acr a) (by omega)
  go_enter Try.func30, Try.ntmps30
  go_wp2_with (first | (go_at_call 28; refine (TileCount_i _ _ _).mono ?_; rintro e w1 ⟨rfl, rfl⟩) | (go_at_call 47; refine (in_c _ _ _ _).mono ?_; rintro e w1 ⟨rfl, rfl⟩))
  go_region_held3 (fun w' => w'.cell? ⟨w.heap.size, 0, none⟩ = some (.int .i64 0)) ((repeat' apply And.intro) <;> (first | ((repeat (first | (with_reducible assumption) | (with_reducible refine cell_keepD ?_) | (with_reducible refine cell_keepA ?_ _) | (with_reducible refine cell_keepS ?_ _ (by simp only []; omega)) | (with_reducible refine (hc1 _ _ (by go_size)).trans ?_))); done) | (go_cell; done))) (first | (go_at_call 58; refine (across_c _ _ (by omega) (by omega)).mono ?_; rintro e w1 ⟨rfl, rfl⟩))
  go_wp2
  all_goals (go_returns; exact ⟨agg4_eq rfl rfl (by omega) (by omega), by go_grown⟩)
theorem TileBox_i_no (a b t : Int) (w : World) (h : (sizedB a b && inB t 0 (acr a * acr b - 1)) = false) : Calls Try.prog 30 #[.int .i64 a, .int .i64 b, .int .i64 t] w fun e w' => e = .returned (.tuple #[.agg #[.int .i64 0, .int .i64 0, .int .i64 0, .int .i64 0], .bool false]) ∧ Below w.heap.size w w' := by
  cases hz : sizedB a b
  · have hc : tileCount a b = -1 := by simp [tileCount, hz]
    have hv : inB t 0 (-2) = false := inB_false.2 (by omega)
    have hv2 : inB t 0 (-1 - 1) = false := inB_false.2 (by omega)
    clear h
    go_enter Try.func30, Try.ntmps30
    go_wp2_with (first | (go_at_call 28; refine (TileCount_i _ _ _).mono ?_; rintro e w1 ⟨rfl, rfl⟩) | (go_at_call 47; refine (in_c _ _ _ _).mono ?_; rintro e w1 ⟨rfl, rfl⟩))
    go_returns
    exact ⟨rfl, by go_grown⟩
  · have hv : inB t 0 (acr a * acr b - 1) = false := by simpa only [hz, Bool.true_and] using h
    obtain ⟨x1, x2, y1, y2, m1, m2⟩ := tile_bd hz
    have hc : tileCount a b = acr a * acr b := by simp [tileCount, hz]
    clear h
    go_enter Try.func30, Try.ntmps30
    go_wp2_with (first | (go_at_call 28; refine (TileCount_i _ _ _).mono ?_; rintro e w1 ⟨rfl, rfl⟩) | (go_at_call 47; refine (in_c _ _ _ _).mono ?_; rintro e w1 ⟨rfl, rfl⟩))
    go_returns
    exact ⟨rfl, by go_grown⟩
end Go.Proofs.Ytkcmjpbnjdedlaa
