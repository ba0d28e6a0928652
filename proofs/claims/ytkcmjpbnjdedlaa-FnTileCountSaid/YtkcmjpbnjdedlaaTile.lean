/-
  Counts of tiles.
-/
import Derived.Test.YtkcmjpbnjdedlaaNum
import Derived.Handy
namespace Go.Proofs.Ytkcmjpbnjdedlaa
open Go.RowKit
set_option linter.unusedSimpArgs false
set_option linter.unusedVariables false

/-- Tiles side by side. -/
def acr (a : Int) : Int := (a + 4 - 1) / 4
theorem acr_bd {a : Int} (a1 : 1 ≤ a) (a2 : a ≤ 12) : 1 ≤ acr a ∧ acr a ≤ 3 := by unfold acr; omega
theorem mul3 {a b : Int} (a1 : 1 ≤ a) (a2 : a ≤ 3) (b1 : 1 ≤ b) (b2 : b ≤ 3) : 1 ≤ a * b ∧ a * b ≤ 9 := by
  have : a = 1 ∨ a = 2 ∨ a = 3 := by omega
  rcases this with rfl | rfl | rfl <;> omega
theorem sizedB_true {a b : Int} (h : sizedB a b = true) : 1 ≤ a ∧ a ≤ 12 ∧ 1 ≤ b ∧ b ≤ 12 := by
  simp only [sizedB, Bool.and_eq_true, inB_true] at h; omega
def tileCount (a b : Int) : Int := if sizedB a b = true then acr a * acr b else -1
theorem tile_bd {a b : Int} (h : sizedB a b = true) : 1 ≤ acr a ∧ acr a ≤ 3 ∧ 1 ≤ acr b ∧ acr b ≤ 3 ∧ 1 ≤ acr a * acr b ∧ acr a * acr b ≤ 9 := by
  obtain ⟨a1, a2, b1, b2⟩ := sizedB_true h
  obtain ⟨x1, x2⟩ := acr_bd a1 a2
  obtain ⟨y1, y2⟩ := acr_bd b1 b2
  obtain ⟨m1, m2⟩ := mul3 x1 x2 y1 y2
  exact ⟨x1, x2, y1, y2, m1, m2⟩
theorem tb_bd {t x : Int} (t1 : 0 ≤ t) (t2 : t ≤ 1000) (x1 : 1 ≤ x) (x2 : x ≤ 3) : 0 ≤ t % x ∧ t % x ≤ 2 ∧ 0 ≤ t / x ∧ t / x ≤ 1000 :=
  ⟨Int.emod_nonneg _ (by omega), by have := Int.emod_lt_of_pos t (show 0 < x by omega); omega, Int.ediv_nonneg t1 (by omega), (ediv_le (M := 1000) (by omega) (by omega) t2).2⟩
theorem tiles_c (a b : Int) (w : World) (h : sizedB a b = true) : Calls Try.prog 60 #[.int .i64 a, .int .i64 b] w fun e w' => e = .returned (.int .i64 (acr a * acr b)) ∧ w = w' := by
  obtain ⟨x1, x2, y1, y2, m1, m2⟩ := tile_bd h
  obtain ⟨a1, a2, b1, b2⟩ := sizedB_true h
  unfold acr at *
  clear h
  go_enter Try.func60, Try.ntmps60
  go_wp2
  go_ret
  exact ⟨rfl, rfl⟩
theorem across_c (a : Int) (w : World) (a1 : 1 ≤ a) (a2 : a ≤ 12) : Calls Try.prog 58 #[.int .i64 a] w fun e w' => e = .returned (.int .i64 (acr a)) ∧ w = w' := by
  unfold acr
  go_enter Try.func58, Try.ntmps58
  go_wp2
  go_ret
  exact ⟨rfl, rfl⟩
theorem TileCount_s (a b : Int) (w : World) : Calls Try.prog 29 #[.int .i64 a, .int .i64 b] w fun e w' => e = .returned (.int .i64 (tileCount a b)) ∧ w = w' := by
  cases h : sizedB a b
  all_goals
    go_enter Try.func29, Try.ntmps29
    go_wp2_with (first | (go_at_call 59; refine (validSize_c _ _ _).mono ?_; rintro e w1 ⟨rfl, rfl⟩) | (go_at_call 60; refine (tiles_c _ _ _ h).mono ?_; rintro e w1 ⟨rfl, rfl⟩))
    go_ret
    exact ⟨by simp [tileCount, h], rfl⟩
theorem TileCount_i (a b : Int) (w : World) : Calls Try.prog 28 #[.int .i64 a, .int .i64 b] w fun e w' => e = .returned (.int .i64 (tileCount a b)) ∧ w = w' := by
  cases h : sizedB a b
  · go_enter Try.func28, Try.ntmps28
    go_wp2_with (first | (go_at_call 57; refine (sized_c _ _ _).mono ?_; rintro e w1 ⟨rfl, rfl⟩))
    go_ret
    exact ⟨by simp [tileCount, h], rfl⟩
  · obtain ⟨x1, x2, y1, y2, m1, m2⟩ := tile_bd h
    obtain ⟨a1, a2, b1, b2⟩ := sizedB_true h
    go_enter Try.func28, Try.ntmps28
    go_wp2_with (first | (go_at_call 57; refine (sized_c _ _ _).mono ?_; rintro e w1 ⟨rfl, rfl⟩) | (go_at_call 58; refine (across_c _ _ (by omega) (by omega)).mono ?_; rintro e w1 ⟨rfl, rfl⟩))
    go_ret
    exact ⟨by simp [tileCount, h], rfl⟩
end Go.Proofs.Ytkcmjpbnjdedlaa
