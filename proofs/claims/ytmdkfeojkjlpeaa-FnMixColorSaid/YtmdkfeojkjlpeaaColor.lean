/-
  Colors: which are valid; copies and comparisons of colors.
-/
import Derived.Test.YtmdkfeojkjlpeaaSlice
import Derived.Deep.RegionHeld3
import Derived.Deep.DrawnRows
namespace Go.Proofs.Ytmdkfeojkjlpeaa
open Go.RowKit
set_option linter.unusedSimpArgs false
set_option linter.unusedVariables false

/-- Is a color premultiplied? -/
def colB (r g b a : Int) : Bool := decide (0 ≤ a ∧ a ≤ 255 ∧ 0 ≤ r ∧ r ≤ a ∧ 0 ≤ g ∧ g ≤ a ∧ 0 ≤ b ∧ b ≤ a)
theorem colB_true {r g b a : Int} : colB r g b a = true ↔ (0 ≤ a ∧ a ≤ 255 ∧ 0 ≤ r ∧ r ≤ a ∧ 0 ≤ g ∧ g ≤ a ∧ 0 ≤ b ∧ b ≤ a) := by simp only [colB, decide_eq_true_eq]
theorem colB_false {r g b a : Int} : colB r g b a = false ↔ ¬ (0 ≤ a ∧ a ≤ 255 ∧ 0 ≤ r ∧ r ≤ a ∧ 0 ≤ g ∧ g ≤ a ∧ 0 ≤ b ∧ b ≤ a) := by rw [← colB_true]; simp
theorem all3 (r g b lo hi : Int) : allInB [r, g, b] lo hi = (inB r lo hi && inB g lo hi && inB b lo hi) := by simp [allInB, Bool.and_assoc]
theorem ValidColor_i (r g b a : Int) (w : World) : Calls Try.prog 16 #[.agg #[.int .i64 r, .int .i64 g, .int .i64 b, .int .i64 a]] w fun e w' => e = .returned (.bool (colB r g b a)) ∧ w.alloc (.cells #[.int .i64 r, .int .i64 g, .int .i64 b, .int .i64 a] 25) = w' := by
  go_enter Try.func16, Try.ntmps16
  go_wp2
  all_goals
    go_returns
    refine ⟨ret_iff ?_, rfl⟩
    simp only [colB, decide_eq_true_eq, Bool.false_eq_true, false_iff, iff_true, iff_false, true_iff]
    omega
theorem validColor_s (r g b a : Int) (w : World) : Calls Try.prog 28 #[.agg #[.int .i64 r, .int .i64 g, .int .i64 b, .int .i64 a]] w fun e w' => e = .returned (.bool (colB r g b a)) ∧ Below w.heap.size w w' := by
  cases h : inB a 0 255
  · have h' := inB_false.1 h
    go_enter Try.func28, Try.ntmps28
    go_wp2_with (go_at_call 30; refine (inRange_c _ _ _ _).mono ?_; rintro e w' ⟨rfl, rfl⟩)
    go_returns
    exact ⟨ret_b (Eq.symm (colB_false.2 (by omega))), by go_grown⟩
  · have h' := inB_true.1 h
    have e3 : allInB [r, g, b] 0 a = colB r g b a := by
      rw [Bool.eq_iff_iff, all3, colB_true]; simp only [Bool.and_eq_true, inB_true]; omega
    have E3 := Lib.hid e3
    clear e3
    go_enter Try.func28, Try.ntmps28
    go_wp2_with (first | (go_at_call 30; refine (inRange_c _ _ _ _).mono ?_; rintro e w' ⟨rfl, rfl⟩) | (go_at_call 42; refine (allIn_c [r, g, b] _ _ _ _ _ _ (by exact Ints.lit [r, g, b] _ _ _ _ (by simp) rfl) rfl (by simp)).mono ?_; rintro e w' ⟨rfl, rfl⟩))
    go_returns
    exact ⟨ret_b E3.out, by go_grown⟩
theorem validColor_ok (r g b a : Int) (w : World) (hv : 0 ≤ a ∧ a ≤ 255 ∧ 0 ≤ r ∧ r ≤ a ∧ 0 ≤ g ∧ g ≤ a ∧ 0 ≤ b ∧ b ≤ a) : Calls Try.prog 28 #[.agg #[.int .i64 r, .int .i64 g, .int .i64 b, .int .i64 a]] w fun e w' => e = .returned (.bool true) ∧ (w.alloc (.cells #[.int .i64 r, .int .i64 g, .int .i64 b, .int .i64 a] 25)).alloc (.cells #[.int .i64 r, .int .i64 g, .int .i64 b] 3) = w' := by
  have h := inB_mk hv.1 hv.2.1
  have e3 : allInB [r, g, b] 0 a = true := by
    rw [all3]; simp only [Bool.and_eq_true, inB_true]; omega
  clear hv
  go_enter Try.func28, Try.ntmps28
  go_wp2_with (first | (go_at_call 30; refine (inRange_c _ _ _ _).mono ?_; rintro e w' ⟨rfl, rfl⟩) | (go_at_call 42; refine (allIn_c [r, g, b] _ _ _ _ _ _ (by exact Ints.lit [r, g, b] _ _ _ _ (by simp) rfl) rfl (by simp)).mono ?_; rintro e w' ⟨rfl, rfl⟩))
  go_returns
  exact ⟨rfl, rfl⟩
theorem colB_alpha {r g b a : Int} (q : inB a 0 255 = false) : colB r g b a = false := colB_false.2 (by have := inB_false.1 q; omega)
theorem validColor_e0 (r g b a : Int) (w : World) (h : inB a 0 255 = false) : Calls Try.prog 28 #[.agg #[.int .i64 r, .int .i64 g, .int .i64 b, .int .i64 a]] w fun e w' => e = .returned (.bool false) ∧ w.alloc (.cells #[.int .i64 r, .int .i64 g, .int .i64 b, .int .i64 a] 25) = w' := by
  go_enter Try.func28, Try.ntmps28
  go_wp2_with (go_at_call 30; refine (inRange_c _ _ _ _).mono ?_; rintro e w' ⟨rfl, rfl⟩)
  go_returns
  exact ⟨rfl, rfl⟩
theorem validColor_e1 (r g b a : Int) (w : World) (h : inB a 0 255 = true) : Calls Try.prog 28 #[.agg #[.int .i64 r, .int .i64 g, .int .i64 b, .int .i64 a]] w fun e w' => e = .returned (.bool (colB r g b a)) ∧ (w.alloc (.cells #[.int .i64 r, .int .i64 g, .int .i64 b, .int .i64 a] 25)).alloc (.cells #[.int .i64 r, .int .i64 g, .int .i64 b] 3) = w' := by
  have h' := inB_true.1 h
  have e3 : allInB [r, g, b] 0 a = colB r g b a := by
    rw [Bool.eq_iff_iff, all3, colB_true]; simp only [Bool.and_eq_true, inB_true]; omega
  have E3 := Lib.hid e3
  clear e3
  go_enter Try.func28, Try.ntmps28
  go_wp2_with (first | (go_at_call 30; refine (inRange_c _ _ _ _).mono ?_; rintro e w' ⟨rfl, rfl⟩) | (go_at_call 42; refine (allIn_c [r, g, b] _ _ _ _ _ _ (by exact Ints.lit [r, g, b] _ _ _ _ (by simp) rfl) rfl (by simp)).mono ?_; rintro e w' ⟨rfl, rfl⟩))
  go_returns
  exact ⟨ret_b E3.out, rfl⟩
theorem ValidColor_s (r g b a : Int) (w : World) : Calls Try.prog 14 #[.agg #[.int .i64 r, .int .i64 g, .int .i64 b, .int .i64 a]] w fun e w' => e = .returned (.bool (colB r g b a)) ∧ Below w.heap.size w w' := by
  go_enter Try.func14, Try.ntmps14
  go_wp2_with (go_at_call 28; refine (validColor_s _ _ _ _ _).mono ?_; rintro e w1 ⟨rfl, hb1⟩)
  go_returns
  exact ⟨rfl, below_then (by go_grown) hb1⟩
theorem toColor_c (r g b a : Int) (w : World) : Calls Try.prog 15 #[.agg #[.int .i64 r, .int .i64 g, .int .i64 b, .int .i64 a]] w fun e w' => e = .returned (.agg #[.int .i64 r, .int .i64 g, .int .i64 b, .int .i64 a]) ∧ ((w.alloc (.cells #[.int .i64 r, .int .i64 g, .int .i64 b, .int .i64 a] 23)).alloc (.cells #[.int .i64 r, .int .i64 g, .int .i64 b, .int .i64 a] 25)).alloc (.cells #[.int .i64 r, .int .i64 g, .int .i64 b, .int .i64 a] 25) = w' := by
  go_enter Try.func15, Try.ntmps15
  go_wp2
  go_returns
  exact ⟨rfl, rfl⟩
theorem eqColor_c (r g b a : Int) (w : World) : Calls Try.prog 19 #[.agg #[.int .i64 r, .int .i64 g, .int .i64 b, .int .i64 a], .agg #[.int .i64 r, .int .i64 g, .int .i64 b, .int .i64 a]] w fun e w' => e = .returned (.bool true) ∧ (w.alloc (.cells #[.int .i64 r, .int .i64 g, .int .i64 b, .int .i64 a] 25)).alloc (.cells #[.int .i64 r, .int .i64 g, .int .i64 b, .int .i64 a] 25) = w' := by
  go_enter Try.func19, Try.ntmps19
  go_wp2
  go_returns
  exact ⟨rfl, rfl⟩
end Go.Proofs.Ytmdkfeojkjlpeaa
