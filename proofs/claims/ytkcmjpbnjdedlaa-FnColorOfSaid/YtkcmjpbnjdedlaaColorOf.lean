/-
  What ColorOf makes of four numbers.
-/
import Derived.Test.YtkcmjpbnjdedlaaSlice
namespace Go.Proofs.Ytkcmjpbnjdedlaa
open Go.RowKit
set_option linter.unusedSimpArgs false
set_option linter.unusedVariables false

def sel (v : Bool) (x : Int) : Int := if v = true then x else 0
theorem all4 (r g b a lo hi : Int) : allInB [r, g, b, a] lo hi = (inB r lo hi && inB g lo hi && inB b lo hi && inB a lo hi) := by simp [allInB, Bool.and_assoc]
set_option maxHeartbeats 1000000 in
theorem ColorOf_i_ok (r g b a : Int) (w : World) (h : 0 ≤ r ∧ r ≤ 255 ∧ 0 ≤ g ∧ g ≤ 255 ∧ 0 ≤ b ∧ b ≤ 255 ∧ 0 ≤ a ∧ a ≤ 255) : Calls Try.prog 36 #[.int .i64 r, .int .i64 g, .int .i64 b, .int .i64 a] w fun e w' => e = .returned (.tuple #[.agg #[.int .i64 (rnd (r * a) 255), .int .i64 (rnd (g * a) 255), .int .i64 (rnd (b * a) 255), .int .i64 a], .bool true]) ∧ Below w.heap.size w w' := by
  obtain ⟨h1, h2, h3, h4, h5, h6, h7, h8⟩ := h
  obtain ⟨m1, m2⟩ := prod_bd h1 h2 h7 (show a ≤ 256 by omega)
  obtain ⟨m3, m4⟩ := prod_bd h3 h4 h7 (show a ≤ 256 by omega)
  obtain ⟨m5, m6⟩ := prod_bd h5 h6 h7 (show a ≤ 256 by omega)
  have v1 := inB_mk h1 h2
  have v2 := inB_mk h3 h4
  have v3 := inB_mk h5 h6
  have v4 := inB_mk h7 h8
  go_enter Try.func36, Try.ntmps36
  go_wp2
  refine wp_loop_rounds 5 ?_
  rw [rounds_succ]
  go_wp2_with (first | (go_at_call 47; refine (in_c _ _ _ _).mono ?_; rintro e w1 ⟨rfl, rfl⟩))
  rw [rounds_succ]
  go_wp2_with (first | (go_at_call 47; refine (in_c _ _ _ _).mono ?_; rintro e w1 ⟨rfl, rfl⟩))
  rw [rounds_succ]
  go_wp2_with (first | (go_at_call 47; refine (in_c _ _ _ _).mono ?_; rintro e w1 ⟨rfl, rfl⟩))
  rw [rounds_succ]
  go_wp2_with (first | (go_at_call 47; refine (in_c _ _ _ _).mono ?_; rintro e w1 ⟨rfl, rfl⟩))
  rw [rounds_succ]
  go_wp2_with (first | (go_at_call 54; refine (round_c _ _ _ (by omega) (by omega) (by omega) (by omega)).mono ?_; rintro e w1 ⟨rfl, rfl⟩))
  go_returns
  exact ⟨rfl, by go_grown⟩
theorem ColorOf_i_no (r g b a : Int) (w : World) (h : (inB r 0 255 && inB g 0 255 && inB b 0 255 && inB a 0 255) = false) : Calls Try.prog 36 #[.int .i64 r, .int .i64 g, .int .i64 b, .int .i64 a] w fun e w' => e = .returned (.tuple #[.agg #[.int .i64 0, .int .i64 0, .int .i64 0, .int .i64 0], .bool false]) ∧ Below w.heap.size w w' := by
  cases v0 : inB r 0 255
  · clear h
    go_enter Try.func36, Try.ntmps36
    go_wp2
    refine wp_loop_rounds 5 ?_
    rw [rounds_succ]
    go_wp2_with (first | (go_at_call 47; refine (in_c _ _ _ _).mono ?_; rintro e w1 ⟨rfl, rfl⟩))
    go_returns
    exact ⟨rfl, by go_grown⟩
  cases v1 : inB g 0 255
  · clear h
    go_enter Try.func36, Try.ntmps36
    go_wp2
    refine wp_loop_rounds 5 ?_
    rw [rounds_succ]
    go_wp2_with (first | (go_at_call 47; refine (in_c _ _ _ _).mono ?_; rintro e w1 ⟨rfl, rfl⟩))
    rw [rounds_succ]
    go_wp2_with (first | (go_at_call 47; refine (in_c _ _ _ _).mono ?_; rintro e w1 ⟨rfl, rfl⟩))
    go_returns
    exact ⟨rfl, by go_grown⟩
  cases v2 : inB b 0 255
  · clear h
    go_enter Try.func36, Try.ntmps36
    go_wp2
    refine wp_loop_rounds 5 ?_
    rw [rounds_succ]
    go_wp2_with (first | (go_at_call 47; refine (in_c _ _ _ _).mono ?_; rintro e w1 ⟨rfl, rfl⟩))
    rw [rounds_succ]
    go_wp2_with (first | (go_at_call 47; refine (in_c _ _ _ _).mono ?_; rintro e w1 ⟨rfl, rfl⟩))
    rw [rounds_succ]
    go_wp2_with (first | (go_at_call 47; refine (in_c _ _ _ _).mono ?_; rintro e w1 ⟨rfl, rfl⟩))
    go_returns
    exact ⟨rfl, by go_grown⟩
  have v3 : inB a 0 255 = false := by simpa only [v0, v1, v2, Bool.true_and] using h
  clear h
  go_enter Try.func36, Try.ntmps36
  go_wp2
  refine wp_loop_rounds 5 ?_
  rw [rounds_succ]
  go_wp2_with (first | (go_at_call 47; refine (in_c _ _ _ _).mono ?_; rintro e w1 ⟨rfl, rfl⟩))
  rw [rounds_succ]
  go_wp2_with (first | (go_at_call 47; refine (in_c _ _ _ _).mono ?_; rintro e w1 ⟨rfl, rfl⟩))
  rw [rounds_succ]
  go_wp2_with (first | (go_at_call 47; refine (in_c _ _ _ _).mono ?_; rintro e w1 ⟨rfl, rfl⟩))
  rw [rounds_succ]
  go_wp2_with (first | (go_at_call 47; refine (in_c _ _ _ _).mono ?_; rintro e w1 ⟨rfl, rfl⟩))
  go_returns
  exact ⟨rfl, by go_grown⟩
theorem ColorOf_s_ok (r g b a : Int) (w : World) (h : 0 ≤ r ∧ r ≤ 255 ∧ 0 ≤ g ∧ g ≤ 255 ∧ 0 ≤ b ∧ b ≤ 255 ∧ 0 ≤ a ∧ a ≤ 255) : Calls Try.prog 35 #[.int .i64 r, .int .i64 g, .int .i64 b, .int .i64 a] w fun e w' => e = .returned (.tuple #[.agg #[.int .i64 (rnd (r * a) 255), .int .i64 (rnd (g * a) 255), .int .i64 (rnd (b * a) 255), .int .i64 a], .bool true]) ∧ Below w.heap.size w w' := by
  obtain ⟨h1, h2, h3, h4, h5, h6, h7, h8⟩ := h
  obtain ⟨m1, m2⟩ := prod_bd h1 h2 h7 (show a ≤ 256 by omega)
  obtain ⟨m3, m4⟩ := prod_bd h3 h4 h7 (show a ≤ 256 by omega)
  obtain ⟨m5, m6⟩ := prod_bd h5 h6 h7 (show a ≤ 256 by omega)
  have va : allInB [r, g, b, a] 0 255 = true := by rw [all4]; simp only [Bool.and_eq_true, inB_true]; omega
  go_enter Try.func35, Try.ntmps35
  go_wp2_with (first | (go_at_call 61; refine (allIn_c [r, g, b, a] _ _ _ _ _ _ (by exact Ints.lit [r, g, b, a] _ _ _ _ (by simp) rfl) rfl (by simp)).mono ?_; rintro e w' ⟨rfl, rfl⟩) | (go_at_call 55; refine (nearest_c _ _ _ (by omega) (by omega) (by omega) (by omega)).mono ?_; rintro e w1 ⟨rfl, rfl⟩) | go_in)
  go_returns
  exact ⟨rfl, by go_grown⟩
theorem ColorOf_s_no (r g b a : Int) (w : World) (h : (inB r 0 255 && inB g 0 255 && inB b 0 255 && inB a 0 255) = false) : Calls Try.prog 35 #[.int .i64 r, .int .i64 g, .int .i64 b, .int .i64 a] w fun e w' => e = .returned (.tuple #[.agg #[.int .i64 0, .int .i64 0, .int .i64 0, .int .i64 0], .bool false]) ∧ Below w.heap.size w w' := by
  have va : allInB [r, g, b, a] 0 255 = false := by rw [all4]; exact h
  clear h
  go_enter Try.func35, Try.ntmps35
  go_wp2_with (first | (go_at_call 61; refine (allIn_c [r, g, b, a] _ _ _ _ _ _ (by exact Ints.lit [r, g, b, a] _ _ _ _ (by simp) rfl) rfl (by simp)).mono ?_; rintro e w' ⟨rfl, rfl⟩))
  go_returns
  exact ⟨rfl, by go_grown⟩
theorem ColorOf_iA (r g b a : Int) (w : World) : Calls Try.prog 36 #[.int .i64 r, .int .i64 g, .int .i64 b, .int .i64 a] w fun e w' => e = .returned (.tuple #[.agg #[.int .i64 (sel (inB r 0 255 && inB g 0 255 && inB b 0 255 && inB a 0 255) (rnd (r * a) 255)), .int .i64 (sel (inB r 0 255 && inB g 0 255 && inB b 0 255 && inB a 0 255) (rnd (g * a) 255)), .int .i64 (sel (inB r 0 255 && inB g 0 255 && inB b 0 255 && inB a 0 255) (rnd (b * a) 255)), .int .i64 (sel (inB r 0 255 && inB g 0 255 && inB b 0 255 && inB a 0 255) a)], .bool (inB r 0 255 && inB g 0 255 && inB b 0 255 && inB a 0 255)]) ∧ Below w.heap.size w w' := by
  cases h : (inB r 0 255 && inB g 0 255 && inB b 0 255 && inB a 0 255)
  · simp only [sel, Bool.false_eq_true, if_false]
    exact ColorOf_i_no r g b a w h
  · simp only [sel, if_true]
    simp only [Bool.and_eq_true, inB_true] at h
    exact ColorOf_i_ok r g b a w (by omega)
theorem ColorOf_sA (r g b a : Int) (w : World) : Calls Try.prog 35 #[.int .i64 r, .int .i64 g, .int .i64 b, .int .i64 a] w fun e w' => e = .returned (.tuple #[.agg #[.int .i64 (sel (inB r 0 255 && inB g 0 255 && inB b 0 255 && inB a 0 255) (rnd (r * a) 255)), .int .i64 (sel (inB r 0 255 && inB g 0 255 && inB b 0 255 && inB a 0 255) (rnd (g * a) 255)), .int .i64 (sel (inB r 0 255 && inB g 0 255 && inB b 0 255 && inB a 0 255) (rnd (b * a) 255)), .int .i64 (sel (inB r 0 255 && inB g 0 255 && inB b 0 255 && inB a 0 255) a)], .bool (inB r 0 255 && inB g 0 255 && inB b 0 255 && inB a 0 255)]) ∧ Below w.heap.size w w' := by
  cases h : (inB r 0 255 && inB g 0 255 && inB b 0 255 && inB a 0 255)
  · simp only [sel, Bool.false_eq_true, if_false]
    exact ColorOf_s_no r g b a w h
  · simp only [sel, if_true]
    simp only [Bool.and_eq_true, inB_true] at h
    exact ColorOf_s_ok r g b a w (by omega)
end Go.Proofs.Ytkcmjpbnjdedlaa
