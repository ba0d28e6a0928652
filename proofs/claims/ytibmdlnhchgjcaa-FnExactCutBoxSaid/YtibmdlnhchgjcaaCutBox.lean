/-
  What two boxes have.
-/
import Derived.Test.YtibmdlnhchgjcaaPixel
namespace Go.Proofs.Ytibmdlnhchgjcaa
open Go.RowKit
set_option linter.unusedSimpArgs false
set_option linter.unusedVariables false

def okB (l t r b : Int) : Bool := decide (-1000 ≤ l) && decide (l ≤ r) && decide (r ≤ 1000) && decide (-1000 ≤ t) && decide (t ≤ b) && decide (b ≤ 1000)
theorem validBox_c (l t r b : Int) (w : World) : Calls Try.prog 45 #[.agg #[.int .i64 l, .int .i64 t, .int .i64 r, .int .i64 b]] w fun e w' => e = .returned (.bool (okB l t r b)) ∧ w.alloc (.cells #[.int .i64 l, .int .i64 t, .int .i64 r, .int .i64 b] 28) = w' := by
  go_enter Try.func45, Try.ntmps45
  go_wp2
  all_goals
    go_returns
    refine ⟨ret_iff ?_, rfl⟩
    (try simp only [Bool.not_eq_eq_eq_not, Bool.not_false, Bool.not_true, decide_eq_true_eq, decide_eq_false_iff_not] at *)
    simp only [okB, Bool.and_eq_true, decide_eq_true_eq, Bool.false_eq_true, false_iff, true_iff]
    omega
theorem valid_c (l t r b : Int) (w : World) : Calls Try.prog 47 #[.agg #[.int .i64 l, .int .i64 t, .int .i64 r, .int .i64 b]] w fun e w' => e = .returned (.bool (okB l t r b)) ∧ w.alloc (.cells #[.int .i64 l, .int .i64 t, .int .i64 r, .int .i64 b] 28) = w' := by
  go_enter Try.func47, Try.ntmps47
  go_wp2
  all_goals
    go_returns
    refine ⟨ret_iff ?_, rfl⟩
    (try simp only [Bool.not_eq_eq_eq_not, Bool.not_false, Bool.not_true, decide_eq_true_eq, decide_eq_false_iff_not] at *)
    simp only [okB, Bool.and_eq_true, decide_eq_true_eq, Bool.false_eq_true, false_iff, true_iff]
    omega
def cv (v : Bool) (x : Int) : Int := if v = true then x else 0
def mx (a b : Int) : Int := if a < b then b else a
def mn (a b : Int) : Int := if b < a then b else a
def tv (L T R B x : Int) : Int := if L < R ∧ T < B then x else 0
theorem agg4_of {a b c d a' b' c' d' : Int} (h1 : a = a') (h2 : b = b') (h3 : c = c') (h4 : d = d') : Ending.returned (Value.agg #[.int .i64 a, .int .i64 b, .int .i64 c, .int .i64 d]) = .returned (Value.agg #[.int .i64 a', .int .i64 b', .int .i64 c', .int .i64 d']) := by rw [h1, h2, h3, h4]
theorem tidy_c (l t r b : Int) (w : World) : Calls Try.prog 61 #[.agg #[.int .i64 l, .int .i64 t, .int .i64 r, .int .i64 b]] w fun e w' => e = .returned (.agg #[.int .i64 (tv l t r b l), .int .i64 (tv l t r b t), .int .i64 (tv l t r b r), .int .i64 (tv l t r b b)]) ∧ Below w.heap.size w w' := by
  go_enter Try.func61, Try.ntmps61
  go_wp2
  all_goals
    go_returns
    (try simp only [Bool.not_eq_eq_eq_not, Bool.not_false, Bool.not_true, decide_eq_true_eq, decide_eq_false_iff_not] at *)
    unfold tv
    refine ⟨agg4_of ?_ ?_ ?_ ?_, by go_grown⟩ <;> ((repeat' split) <;> omega)
set_option maxHeartbeats 1000000 in
theorem cut_c (l t r b l' t' r' b' : Int) (w : World) : Calls Try.prog 62 #[.agg #[.int .i64 l, .int .i64 t, .int .i64 r, .int .i64 b], .agg #[.int .i64 l', .int .i64 t', .int .i64 r', .int .i64 b']] w fun e w' => e = .returned (.agg #[.int .i64 (tv (mx l l') (mx t t') (mn r r') (mn b b') (mx l l')), .int .i64 (tv (mx l l') (mx t t') (mn r r') (mn b b') (mx t t')), .int .i64 (tv (mx l l') (mx t t') (mn r r') (mn b b') (mn r r')), .int .i64 (tv (mx l l') (mx t t') (mn r r') (mn b b') (mn b b'))]) ∧ Below w.heap.size w w' := by
  have m1 : (if l < l' then l' else l) = mx l l' := rfl
  have m2 : (if t < t' then t' else t) = mx t t' := rfl
  have m3 : (if r' < r then r' else r) = mn r r' := rfl
  have m4 : (if b' < b then b' else b) = mn b b' := rfl
  go_enter Try.func62, Try.ntmps62
  go_wp2
  all_goals
    go_returns
    (try simp only [Bool.not_eq_eq_eq_not, Bool.not_false, Bool.not_true, decide_eq_true_eq, decide_eq_false_iff_not] at *)
    unfold tv
    refine ⟨agg4_of ?_ ?_ ?_ ?_, by go_grown⟩ <;> ((repeat' split) <;> omega)
set_option maxHeartbeats 1000000 in
theorem CutBox_iA (l t r b l' t' r' b' : Int) (w : World) : Calls Try.prog 40 #[.agg #[.int .i64 l, .int .i64 t, .int .i64 r, .int .i64 b], .agg #[.int .i64 l', .int .i64 t', .int .i64 r', .int .i64 b']] w fun e w' => e = .returned (.agg #[.int .i64 (cv (okB l t r b && okB l' t' r' b') (tv (mx l l') (mx t t') (mn r r') (mn b b') (mx l l'))), .int .i64 (cv (okB l t r b && okB l' t' r' b') (tv (mx l l') (mx t t') (mn r r') (mn b b') (mx t t'))), .int .i64 (cv (okB l t r b && okB l' t' r' b') (tv (mx l l') (mx t t') (mn r r') (mn b b') (mn r r'))), .int .i64 (cv (okB l t r b && okB l' t' r' b') (tv (mx l l') (mx t t') (mn r r') (mn b b') (mn b b')))]) ∧ Below w.heap.size w w' := by
  cases h1 : okB l t r b
  · go_enter Try.func40, Try.ntmps40
    go_wp2_with (first | (go_at_call 47; refine (valid_c _ _ _ _ _).mono ?_; rintro e w1 ⟨rfl, rfl⟩))
    go_returns
    exact ⟨by simp [cv, h1], by go_grown⟩
  cases h2 : okB l' t' r' b'
  · go_enter Try.func40, Try.ntmps40
    go_wp2_with (first | (go_at_call 47; refine (valid_c _ _ _ _ _).mono ?_; rintro e w1 ⟨rfl, rfl⟩))
    go_returns
    exact ⟨by simp [cv, h1, h2], by go_grown⟩
  · have m1 : (if l < l' then l' else l) = mx l l' := rfl
    have m2 : (if t < t' then t' else t) = mx t t' := rfl
    have m3 : (if r' < r then r' else r) = mn r r' := rfl
    have m4 : (if b' < b then b' else b) = mn b b' := rfl
    go_enter Try.func40, Try.ntmps40
    go_wp2_with (first | (go_at_call 47; refine (valid_c _ _ _ _ _).mono ?_; rintro e w1 ⟨rfl, rfl⟩) | fail)
    refine (cut_c _ _ _ _ _ _ _ _ _).mono ?_
    rintro e w1 ⟨rfl, hb1⟩
    obtain ⟨hc1, hf1⟩ := bcell hb1
    have hz1 := hb1.size
    simp only [World.size_alloc, World.size_setCell, World.size_drew] at hz1
    have z0 : w.heap.size + 1 + 1 < w1.heap.size := by omega
    have B1 : Below w.heap.size w w1 := below_then (by go_grown) hb1
    obtain ⟨u0, q0⟩ := Option.isSome_iff_exists.1 (show (w1.cell? ⟨w.heap.size + 1 + 1, 0, none⟩).isSome = true by rw [hc1 (w.heap.size + 1 + 1) 0 (by go_size)]; go_simp)
    obtain ⟨u1, q1⟩ := Option.isSome_iff_exists.1 (show (w1.cell? ⟨w.heap.size + 1 + 1, 1, none⟩).isSome = true by rw [hc1 (w.heap.size + 1 + 1) 1 (by go_size)]; go_simp)
    obtain ⟨u2, q2⟩ := Option.isSome_iff_exists.1 (show (w1.cell? ⟨w.heap.size + 1 + 1, 2, none⟩).isSome = true by rw [hc1 (w.heap.size + 1 + 1) 2 (by go_size)]; go_simp)
    obtain ⟨u3, q3⟩ := Option.isSome_iff_exists.1 (show (w1.cell? ⟨w.heap.size + 1 + 1, 3, none⟩).isSome = true by rw [hc1 (w.heap.size + 1 + 1) 3 (by go_size)]; go_simp)
    have g0 : w1.frozen? ⟨w.heap.size + 1 + 1, 0, none⟩ = false := by rw [hf1 (w.heap.size + 1 + 1) 0 (by go_size)]; go_simp
    have g1 : w1.frozen? ⟨w.heap.size + 1 + 1, 1, none⟩ = false := by rw [hf1 (w.heap.size + 1 + 1) 1 (by go_size)]; go_simp
    have g2 : w1.frozen? ⟨w.heap.size + 1 + 1, 2, none⟩ = false := by rw [hf1 (w.heap.size + 1 + 1) 2 (by go_size)]; go_simp
    have g3 : w1.frozen? ⟨w.heap.size + 1 + 1, 3, none⟩ = false := by rw [hf1 (w.heap.size + 1 + 1) 3 (by go_size)]; go_simp
    go_wp2
    refine bodyPost_ret (by simp [results, Try.results40, go_sem, *]; try rfl) rfl ?_
    exact ⟨by simp [cv, h1, h2], by go_grown⟩
set_option maxHeartbeats 1000000 in
theorem CutBox_sA (l t r b l' t' r' b' : Int) (w : World) : Calls Try.prog 39 #[.agg #[.int .i64 l, .int .i64 t, .int .i64 r, .int .i64 b], .agg #[.int .i64 l', .int .i64 t', .int .i64 r', .int .i64 b']] w fun e w' => e = .returned (.agg #[.int .i64 (cv (okB l t r b && okB l' t' r' b') (tv (mx l l') (mx t t') (mn r r') (mn b b') (mx l l'))), .int .i64 (cv (okB l t r b && okB l' t' r' b') (tv (mx l l') (mx t t') (mn r r') (mn b b') (mx t t'))), .int .i64 (cv (okB l t r b && okB l' t' r' b') (tv (mx l l') (mx t t') (mn r r') (mn b b') (mn r r'))), .int .i64 (cv (okB l t r b && okB l' t' r' b') (tv (mx l l') (mx t t') (mn r r') (mn b b') (mn b b')))]) ∧ Below w.heap.size w w' := by
  cases h1 : okB l t r b
  · go_enter Try.func39, Try.ntmps39
    go_wp2_with (first | (go_at_call 45; refine (validBox_c _ _ _ _ _).mono ?_; rintro e w1 ⟨rfl, rfl⟩))
    go_returns
    exact ⟨by simp [cv, h1], by go_grown⟩
  cases h2 : okB l' t' r' b'
  · go_enter Try.func39, Try.ntmps39
    go_wp2_with (first | (go_at_call 45; refine (validBox_c _ _ _ _ _).mono ?_; rintro e w1 ⟨rfl, rfl⟩))
    go_returns
    exact ⟨by simp [cv, h1, h2], by go_grown⟩
  · have m1 : (if l < l' then l' else l) = mx l l' := rfl
    have m2 : (if t < t' then t' else t) = mx t t' := rfl
    have m3 : (if r' < r then r' else r) = mn r r' := rfl
    have m4 : (if b' < b then b' else b) = mn b b' := rfl
    go_enter Try.func39, Try.ntmps39
    go_wp2_with (first | (go_at_call 45; refine (validBox_c _ _ _ _ _).mono ?_; rintro e w1 ⟨rfl, rfl⟩) | fail)
    refine (tidy_c _ _ _ _ _).mono ?_
    rintro e w1 ⟨rfl, hb1⟩
    obtain ⟨hc1, hf1⟩ := bcell hb1
    have hz1 := hb1.size
    simp only [World.size_alloc, World.size_setCell, World.size_drew] at hz1
    have z0 : w.heap.size + 1 + 1 < w1.heap.size := by omega
    have B1 : Below w.heap.size w w1 := below_then (by go_grown) hb1
    obtain ⟨u0, q0⟩ := Option.isSome_iff_exists.1 (show (w1.cell? ⟨w.heap.size + 1 + 1, 0, none⟩).isSome = true by rw [hc1 (w.heap.size + 1 + 1) 0 (by go_size)]; go_simp)
    obtain ⟨u1, q1⟩ := Option.isSome_iff_exists.1 (show (w1.cell? ⟨w.heap.size + 1 + 1, 1, none⟩).isSome = true by rw [hc1 (w.heap.size + 1 + 1) 1 (by go_size)]; go_simp)
    obtain ⟨u2, q2⟩ := Option.isSome_iff_exists.1 (show (w1.cell? ⟨w.heap.size + 1 + 1, 2, none⟩).isSome = true by rw [hc1 (w.heap.size + 1 + 1) 2 (by go_size)]; go_simp)
    obtain ⟨u3, q3⟩ := Option.isSome_iff_exists.1 (show (w1.cell? ⟨w.heap.size + 1 + 1, 3, none⟩).isSome = true by rw [hc1 (w.heap.size + 1 + 1) 3 (by go_size)]; go_simp)
    have g0 : w1.frozen? ⟨w.heap.size + 1 + 1, 0, none⟩ = false := by rw [hf1 (w.heap.size + 1 + 1) 0 (by go_size)]; go_simp
    have g1 : w1.frozen? ⟨w.heap.size + 1 + 1, 1, none⟩ = false := by rw [hf1 (w.heap.size + 1 + 1) 1 (by go_size)]; go_simp
    have g2 : w1.frozen? ⟨w.heap.size + 1 + 1, 2, none⟩ = false := by rw [hf1 (w.heap.size + 1 + 1) 2 (by go_size)]; go_simp
    have g3 : w1.frozen? ⟨w.heap.size + 1 + 1, 3, none⟩ = false := by rw [hf1 (w.heap.size + 1 + 1) 3 (by go_size)]; go_simp
    go_wp2
    refine bodyPost_ret (by simp [results, Try.results39, go_sem, *]; try rfl) rfl ?_
    exact ⟨by simp [cv, h1, h2], by go_grown⟩
end Go.Proofs.Ytibmdlnhchgjcaa
