/-
  Colors or numbers that are not valid: the zero color comes back.
-/
import Derived.Test.YtmdkfeojkjlpeaaColor
import Derived.Handy
namespace Go.Proofs.Ytmdkfeojkjlpeaa
open Go.RowKit
set_option linter.unusedSimpArgs false
set_option linter.unusedVariables false

theorem CoverColor_i0 (r g b a t : Int) (w : World) (h : (colB r g b a && inB t 0 16) = false) :
    Calls Try.prog 18 #[.agg #[.int .i64 r, .int .i64 g, .int .i64 b, .int .i64 a], .int .i64 t] w fun e w' => e = .returned (.agg #[.int .i64 0, .int .i64 0, .int .i64 0, .int .i64 0]) ∧ Below w.heap.size w w' := by
  cases v0 : colB r g b a
  · clear h
    go_enter Try.func18, Try.ntmps18
    go_wp2_with (first | (go_at_call 16; refine (ValidColor_i _ _ _ _ _).mono ?_; rintro e w1 ⟨rfl, rfl⟩) | (go_at_call 29; refine (in_c _ _ _ _).mono ?_; rintro e w1 ⟨rfl, rfl⟩))
    go_returns
    exact ⟨rfl, by go_grown⟩
  have v1 : inB t 0 16 = false := by simpa only [v0, Bool.true_and, Bool.and_true] using h
  clear h
  go_enter Try.func18, Try.ntmps18
  go_wp2_with (first | (go_at_call 16; refine (ValidColor_i _ _ _ _ _).mono ?_; rintro e w1 ⟨rfl, rfl⟩) | (go_at_call 29; refine (in_c _ _ _ _).mono ?_; rintro e w1 ⟨rfl, rfl⟩))
  go_returns
  exact ⟨rfl, by go_grown⟩
theorem CoverColor_s0 (r g b a t : Int) (w : World) (h : (colB r g b a && inB t 0 16) = false) :
    Calls Try.prog 17 #[.agg #[.int .i64 r, .int .i64 g, .int .i64 b, .int .i64 a], .int .i64 t] w fun e w' => e = .returned (.agg #[.int .i64 0, .int .i64 0, .int .i64 0, .int .i64 0]) ∧ Below w.heap.size w w' := by
  cases q0 : inB a 0 255
  · have v0 : colB r g b a = false := colB_alpha q0
    clear h
    go_enter Try.func17, Try.ntmps17
    go_wp2_with (first | (go_at_call 28; refine (validColor_e1 _ _ _ _ _ (by assumption)).mono ?_; rintro e w1 ⟨rfl, rfl⟩) | (go_at_call 28; refine (validColor_e0 _ _ _ _ _ (by assumption)).mono ?_; rintro e w1 ⟨rfl, rfl⟩) | (go_at_call 30; refine (inRange_c _ _ _ _).mono ?_; rintro e w' ⟨rfl, rfl⟩))
    go_returns
    exact ⟨rfl, by go_grown⟩
  cases v0 : colB r g b a
  · clear h
    go_enter Try.func17, Try.ntmps17
    go_wp2_with (first | (go_at_call 28; refine (validColor_e1 _ _ _ _ _ (by assumption)).mono ?_; rintro e w1 ⟨rfl, rfl⟩) | (go_at_call 28; refine (validColor_e0 _ _ _ _ _ (by assumption)).mono ?_; rintro e w1 ⟨rfl, rfl⟩) | (go_at_call 30; refine (inRange_c _ _ _ _).mono ?_; rintro e w' ⟨rfl, rfl⟩))
    go_returns
    exact ⟨rfl, by go_grown⟩
  have v1 : inB t 0 16 = false := by simpa only [v0, Bool.true_and, Bool.and_true] using h
  clear h
  go_enter Try.func17, Try.ntmps17
  go_wp2_with (first | (go_at_call 28; refine (validColor_e1 _ _ _ _ _ (by assumption)).mono ?_; rintro e w1 ⟨rfl, rfl⟩) | (go_at_call 28; refine (validColor_e0 _ _ _ _ _ (by assumption)).mono ?_; rintro e w1 ⟨rfl, rfl⟩) | (go_at_call 30; refine (inRange_c _ _ _ _).mono ?_; rintro e w' ⟨rfl, rfl⟩))
  go_returns
  exact ⟨rfl, by go_grown⟩
theorem OverColor_i0 (r g b a r' g' b' a' : Int) (w : World) (h : (colB r g b a && colB r' g' b' a') = false) :
    Calls Try.prog 23 #[.agg #[.int .i64 r, .int .i64 g, .int .i64 b, .int .i64 a], .agg #[.int .i64 r', .int .i64 g', .int .i64 b', .int .i64 a']] w fun e w' => e = .returned (.agg #[.int .i64 0, .int .i64 0, .int .i64 0, .int .i64 0]) ∧ Below w.heap.size w w' := by
  cases v0 : colB r g b a
  · clear h
    go_enter Try.func23, Try.ntmps23
    go_wp2_with (first | (go_at_call 16; refine (ValidColor_i _ _ _ _ _).mono ?_; rintro e w1 ⟨rfl, rfl⟩) | (go_at_call 29; refine (in_c _ _ _ _).mono ?_; rintro e w1 ⟨rfl, rfl⟩))
    go_returns
    exact ⟨rfl, by go_grown⟩
  have v1 : colB r' g' b' a' = false := by simpa only [v0, Bool.true_and, Bool.and_true] using h
  clear h
  go_enter Try.func23, Try.ntmps23
  go_wp2_with (first | (go_at_call 16; refine (ValidColor_i _ _ _ _ _).mono ?_; rintro e w1 ⟨rfl, rfl⟩) | (go_at_call 29; refine (in_c _ _ _ _).mono ?_; rintro e w1 ⟨rfl, rfl⟩))
  go_returns
  exact ⟨rfl, by go_grown⟩
theorem OverColor_s0 (r g b a r' g' b' a' : Int) (w : World) (h : (colB r g b a && colB r' g' b' a') = false) :
    Calls Try.prog 22 #[.agg #[.int .i64 r, .int .i64 g, .int .i64 b, .int .i64 a], .agg #[.int .i64 r', .int .i64 g', .int .i64 b', .int .i64 a']] w fun e w' => e = .returned (.agg #[.int .i64 0, .int .i64 0, .int .i64 0, .int .i64 0]) ∧ Below w.heap.size w w' := by
  cases q0 : inB a 0 255
  · have v0 : colB r g b a = false := colB_alpha q0
    clear h
    go_enter Try.func22, Try.ntmps22
    go_wp2_with (first | (go_at_call 28; refine (validColor_e1 _ _ _ _ _ (by assumption)).mono ?_; rintro e w1 ⟨rfl, rfl⟩) | (go_at_call 28; refine (validColor_e0 _ _ _ _ _ (by assumption)).mono ?_; rintro e w1 ⟨rfl, rfl⟩) | (go_at_call 30; refine (inRange_c _ _ _ _).mono ?_; rintro e w' ⟨rfl, rfl⟩))
    go_returns
    exact ⟨rfl, by go_grown⟩
  cases v0 : colB r g b a
  · clear h
    go_enter Try.func22, Try.ntmps22
    go_wp2_with (first | (go_at_call 28; refine (validColor_e1 _ _ _ _ _ (by assumption)).mono ?_; rintro e w1 ⟨rfl, rfl⟩) | (go_at_call 28; refine (validColor_e0 _ _ _ _ _ (by assumption)).mono ?_; rintro e w1 ⟨rfl, rfl⟩) | (go_at_call 30; refine (inRange_c _ _ _ _).mono ?_; rintro e w' ⟨rfl, rfl⟩))
    go_returns
    exact ⟨rfl, by go_grown⟩
  cases q1 : inB a' 0 255
  · have v1 : colB r' g' b' a' = false := colB_alpha q1
    clear h
    go_enter Try.func22, Try.ntmps22
    go_wp2_with (first | (go_at_call 28; refine (validColor_e1 _ _ _ _ _ (by assumption)).mono ?_; rintro e w1 ⟨rfl, rfl⟩) | (go_at_call 28; refine (validColor_e0 _ _ _ _ _ (by assumption)).mono ?_; rintro e w1 ⟨rfl, rfl⟩) | (go_at_call 30; refine (inRange_c _ _ _ _).mono ?_; rintro e w' ⟨rfl, rfl⟩))
    go_returns
    exact ⟨rfl, by go_grown⟩
  have v1 : colB r' g' b' a' = false := by simpa only [v0, Bool.true_and, Bool.and_true] using h
  clear h
  go_enter Try.func22, Try.ntmps22
  go_wp2_with (first | (go_at_call 28; refine (validColor_e1 _ _ _ _ _ (by assumption)).mono ?_; rintro e w1 ⟨rfl, rfl⟩) | (go_at_call 28; refine (validColor_e0 _ _ _ _ _ (by assumption)).mono ?_; rintro e w1 ⟨rfl, rfl⟩) | (go_at_call 30; refine (inRange_c _ _ _ _).mono ?_; rintro e w' ⟨rfl, rfl⟩))
  go_returns
  exact ⟨rfl, by go_grown⟩
theorem MixColor_i0 (r g b a r' g' b' a' t : Int) (w : World) (h : (colB r g b a && colB r' g' b' a' && inB t 0 256) = false) :
    Calls Try.prog 21 #[.agg #[.int .i64 r, .int .i64 g, .int .i64 b, .int .i64 a], .agg #[.int .i64 r', .int .i64 g', .int .i64 b', .int .i64 a'], .int .i64 t] w fun e w' => e = .returned (.agg #[.int .i64 0, .int .i64 0, .int .i64 0, .int .i64 0]) ∧ Below w.heap.size w w' := by
  cases v0 : colB r g b a
  · clear h
    go_enter Try.func21, Try.ntmps21
    go_wp2_with (first | (go_at_call 16; refine (ValidColor_i _ _ _ _ _).mono ?_; rintro e w1 ⟨rfl, rfl⟩) | (go_at_call 29; refine (in_c _ _ _ _).mono ?_; rintro e w1 ⟨rfl, rfl⟩))
    go_returns
    exact ⟨rfl, by go_grown⟩
  cases v1 : colB r' g' b' a'
  · clear h
    go_enter Try.func21, Try.ntmps21
    go_wp2_with (first | (go_at_call 16; refine (ValidColor_i _ _ _ _ _).mono ?_; rintro e w1 ⟨rfl, rfl⟩) | (go_at_call 29; refine (in_c _ _ _ _).mono ?_; rintro e w1 ⟨rfl, rfl⟩))
    go_returns
    exact ⟨rfl, by go_grown⟩
  have v2 : inB t 0 256 = false := by simpa only [v0, v1, Bool.true_and, Bool.and_true] using h
  clear h
  go_enter Try.func21, Try.ntmps21
  go_wp2_with (first | (go_at_call 16; refine (ValidColor_i _ _ _ _ _).mono ?_; rintro e w1 ⟨rfl, rfl⟩) | (go_at_call 29; refine (in_c _ _ _ _).mono ?_; rintro e w1 ⟨rfl, rfl⟩))
  go_returns
  exact ⟨rfl, by go_grown⟩
theorem MixColor_s0 (r g b a r' g' b' a' t : Int) (w : World) (h : (colB r g b a && colB r' g' b' a' && inB t 0 256) = false) :
    Calls Try.prog 20 #[.agg #[.int .i64 r, .int .i64 g, .int .i64 b, .int .i64 a], .agg #[.int .i64 r', .int .i64 g', .int .i64 b', .int .i64 a'], .int .i64 t] w fun e w' => e = .returned (.agg #[.int .i64 0, .int .i64 0, .int .i64 0, .int .i64 0]) ∧ Below w.heap.size w w' := by
  cases q0 : inB a 0 255
  · have v0 : colB r g b a = false := colB_alpha q0
    clear h
    go_enter Try.func20, Try.ntmps20
    go_wp2_with (first | (go_at_call 28; refine (validColor_e1 _ _ _ _ _ (by assumption)).mono ?_; rintro e w1 ⟨rfl, rfl⟩) | (go_at_call 28; refine (validColor_e0 _ _ _ _ _ (by assumption)).mono ?_; rintro e w1 ⟨rfl, rfl⟩) | (go_at_call 30; refine (inRange_c _ _ _ _).mono ?_; rintro e w' ⟨rfl, rfl⟩))
    go_returns
    exact ⟨rfl, by go_grown⟩
  cases v0 : colB r g b a
  · clear h
    go_enter Try.func20, Try.ntmps20
    go_wp2_with (first | (go_at_call 28; refine (validColor_e1 _ _ _ _ _ (by assumption)).mono ?_; rintro e w1 ⟨rfl, rfl⟩) | (go_at_call 28; refine (validColor_e0 _ _ _ _ _ (by assumption)).mono ?_; rintro e w1 ⟨rfl, rfl⟩) | (go_at_call 30; refine (inRange_c _ _ _ _).mono ?_; rintro e w' ⟨rfl, rfl⟩))
    go_returns
    exact ⟨rfl, by go_grown⟩
  cases q1 : inB a' 0 255
  · have v1 : colB r' g' b' a' = false := colB_alpha q1
    clear h
    go_enter Try.func20, Try.ntmps20
    go_wp2_with (first | (go_at_call 28; refine (validColor_e1 _ _ _ _ _ (by assumption)).mono ?_; rintro e w1 ⟨rfl, rfl⟩) | (go_at_call 28; refine (validColor_e0 _ _ _ _ _ (by assumption)).mono ?_; rintro e w1 ⟨rfl, rfl⟩) | (go_at_call 30; refine (inRange_c _ _ _ _).mono ?_; rintro e w' ⟨rfl, rfl⟩))
    go_returns
    exact ⟨rfl, by go_grown⟩
  cases v1 : colB r' g' b' a'
  · clear h
    go_enter Try.func20, Try.ntmps20
    go_wp2_with (first | (go_at_call 28; refine (validColor_e1 _ _ _ _ _ (by assumption)).mono ?_; rintro e w1 ⟨rfl, rfl⟩) | (go_at_call 28; refine (validColor_e0 _ _ _ _ _ (by assumption)).mono ?_; rintro e w1 ⟨rfl, rfl⟩) | (go_at_call 30; refine (inRange_c _ _ _ _).mono ?_; rintro e w' ⟨rfl, rfl⟩))
    go_returns
    exact ⟨rfl, by go_grown⟩
  have v2 : inB t 0 256 = false := by simpa only [v0, v1, Bool.true_and, Bool.and_true] using h
  clear h
  go_enter Try.func20, Try.ntmps20
  go_wp2_with (first | (go_at_call 28; refine (validColor_e1 _ _ _ _ _ (by assumption)).mono ?_; rintro e w1 ⟨rfl, rfl⟩) | (go_at_call 28; refine (validColor_e0 _ _ _ _ _ (by assumption)).mono ?_; rintro e w1 ⟨rfl, rfl⟩) | (go_at_call 30; refine (inRange_c _ _ _ _).mono ?_; rintro e w' ⟨rfl, rfl⟩))
  go_returns
  exact ⟨rfl, by go_grown⟩
end Go.Proofs.Ytmdkfeojkjlpeaa
