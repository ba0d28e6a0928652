/-
  The walk of FnColorOf: it returns true for every code.
-/
import Derived.Test.YtkcmjpbnjdedlaaDraw
import Derived.Test.YtkcmjpbnjdedlaaColorOf
import Derived.Test.YtkcmjpbnjdedlaaColorL
import Derived.Test.YtkcmjpbnjdedlaaRowC
namespace Go.Proofs.Ytkcmjpbnjdedlaa
open Go.RowKit
set_option linter.unusedSimpArgs false
set_option linter.unusedVariables false

theorem cof_valid {r g b a : Int} (h : 0 ≤ r ∧ r ≤ 255 ∧ 0 ≤ g ∧ g ≤ 255 ∧ 0 ≤ b ∧ b ≤ 255 ∧ 0 ≤ a ∧ a ≤ 255) : colB (rnd (r * a) 255) (rnd (g * a) 255) (rnd (b * a) 255) a = true := by
  obtain ⟨h1, h2, h3, h4, h5, h6, h7, h8⟩ := h
  have key : ∀ x : Int, 0 ≤ x → x ≤ 255 → 0 ≤ rnd (x * a) 255 ∧ rnd (x * a) 255 ≤ a := fun x x1 x2 =>
    rnd_bd (by omega) (Int.mul_nonneg x1 h7) (by rw [Int.mul_comm a 255]; exact Int.mul_le_mul_of_nonneg_right x2 h7)
  have := key r h1 h2
  have := key g h3 h4
  have := key b h5 h6
  rw [colB_true]; omega
set_option maxHeartbeats 4000000 in
theorem walk_FnColorOf (w : World) (a0 : Option Addr) (len0 cap0 : Nat) (z0 : List Int) (w0 : IsRow .u8 w a0 len0 cap0 z0) :
    Calls Try.prog 13 #[.slice a0 len0 cap0] w fun e w' => e = .returned (.bool true) ∧ Below w.heap.size w w' := by
  have HC := Lib.hid w0.code
  clear w0
  by_cases hl : 1048576 < len0
  · have hl2 : (1048576 : Int) < (len0 : Int) := by omega
    go_enter Try.func13, Try.ntmps13
    go_wp2
    go_ret
    exact ⟨rfl, Below.refl _ _⟩
  have hl2 : ¬ (1048576 : Int) < (len0 : Int) := by omega
  go_enter Try.func13, Try.ntmps13
  go_wp2_with fail
  refine (DrawColorOf_c _ _ _ _ HC.out).mono ?_
  rintro e w1 ⟨r, g, b, a, q1, rfl, hb1⟩
  have HB1 := Lib.hid hb1
  have hs1 := hb1.size
  clear hb1
  cases hV : (inB r 0 255 && inB g 0 255 && inB b 0 255 && inB a 0 255)
  · have HV := Lib.hid hV
    clear hV
    go_wp2_with fail
    refine (ColorOf_i_no _ _ _ _ _ HV.out).mono ?_
    rintro e w2 ⟨rfl, hb2⟩
    have HB2 := Lib.hid (show Below w.heap.size w w2 from below_then (by have hhh := HB1.out; go_grown) hb2)
    have hs2 := hb2.size
    (try simp only [World.size_alloc, World.size_setCell, World.size_drew] at hs2)
    clear hb2
    go_wp2_with fail
    refine (ColorOf_s_no _ _ _ _ _ HV.out).mono ?_
    rintro e w3 ⟨rfl, hb3⟩
    have C3 := Lib.hid (show Row w3 (w2.heap.size) 39 4 (col 0 0 0 0) from Row.below (row_col1 _ _ _ _ _ _ _ (by go_size)) hb3 (by go_size))
    have HB3 := Lib.hid (show Below w.heap.size w w3 from below_then (by have hhh := HB2.out; go_grown) hb3)
    have hs3 := hb3.size
    (try simp only [World.size_alloc, World.size_setCell, World.size_drew] at hs3)
    clear hb3
    obtain ⟨⟨cC3_0, cC3_1, cC3_2, cC3_3⟩, fC3_0, fC3_1, fC3_2, fC3_3⟩ := col_cells C3.out
    have zC : w2.heap.size < w3.heap.size := by omega
    go_wp2_with fail
    all_goals
      go_ret
      exact ⟨ret_b (by first | rfl | (simp; done) | (simp [*]; done) | (simp; omega)), by have hhh := HB3.out; go_grown⟩
  simp only [Bool.and_eq_true, inB_true] at hV
  obtain ⟨⟨⟨⟨b1, b2⟩, b3, b4⟩, b5, b6⟩, b7, b8⟩ := hV
  have b9 : 0 ≤ r ∧ r ≤ 255 ∧ 0 ≤ g ∧ g ≤ 255 ∧ 0 ≤ b ∧ b ≤ 255 ∧ 0 ≤ a ∧ a ≤ 255 := by omega
  have B9 := Lib.hid b9
  clear b9
  have er : rnd (r * 255) 255 = r := rnd_mul (by omega)
  have ur : rnd (r * 0) 255 = 0 := by rw [Int.mul_zero]; exact rnd_zero (by omega)
  have eg : rnd (g * 255) 255 = g := rnd_mul (by omega)
  have ug : rnd (g * 0) 255 = 0 := by rw [Int.mul_zero]; exact rnd_zero (by omega)
  have eb : rnd (b * 255) 255 = b := rnd_mul (by omega)
  have ub : rnd (b * 0) 255 = 0 := by rw [Int.mul_zero]; exact rnd_zero (by omega)
  have u0 : rnd 0 255 = 0 := rnd_zero (by omega)
  have ev : colB (rnd (r * a) 255) (rnd (g * a) 255) (rnd (b * a) 255) a = true := cof_valid B9.out
  go_wp2_with fail
  refine (ColorOf_i_ok r g b a _ B9.out).mono ?_
  rintro e w2 ⟨rfl, hb2⟩
  have HB2 := Lib.hid (show Below w.heap.size w w2 from below_then (by have hhh := HB1.out; go_grown) hb2)
  have hs2 := hb2.size
  (try simp only [World.size_alloc, World.size_setCell, World.size_drew] at hs2)
  clear hb2
  go_wp2_with fail
  refine (ColorOf_s_ok r g b a _ B9.out).mono ?_
  rintro e w3 ⟨rfl, hb3⟩
  have C3 := Lib.hid (show Row w3 (w2.heap.size) 39 4 (col (rnd (r * a) 255) (rnd (g * a) 255) (rnd (b * a) 255) a) from Row.below (row_col1 _ _ _ _ _ _ _ (by go_size)) hb3 (by go_size))
  have HB3 := Lib.hid (show Below w.heap.size w w3 from below_then (by have hhh := HB2.out; go_grown) hb3)
  have hs3 := hb3.size
  (try simp only [World.size_alloc, World.size_setCell, World.size_drew] at hs3)
  clear hb3
  obtain ⟨⟨cC3_0, cC3_1, cC3_2, cC3_3⟩, fC3_0, fC3_1, fC3_2, fC3_3⟩ := col_cells C3.out
  have zC : w2.heap.size < w3.heap.size := by omega
  go_wp2_with fail
  refine (ColorOf_i_ok r g b 255 _ (by have := B9.out; omega)).mono ?_
  rintro e w4 ⟨rfl, hb4⟩
  have C4 := Lib.hid (show Row w4 (w2.heap.size) 39 4 (col (rnd (r * a) 255) (rnd (g * a) 255) (rnd (b * a) 255) a) from Row.below (by (repeat (first | (with_reducible exact C3.out) | (with_reducible refine Row.alloc ?_ _) | (with_reducible refine Row.drew ?_)))) hb4 (by go_size))
  have W4 := Lib.hid (show Row w4 (w3.heap.size) 39 4 (col (rnd (r * a) 255) (rnd (g * a) 255) (rnd (b * a) 255) a) from Row.below (row_col1 _ _ _ _ _ _ _ (by go_size)) hb4 (by go_size))
  have HB4 := Lib.hid (show Below w.heap.size w w4 from below_then (by have hhh := HB3.out; go_grown) hb4)
  have hs4 := hb4.size
  (try simp only [World.size_alloc, World.size_setCell, World.size_drew] at hs4)
  clear hb4
  go_wp2_with fail
  refine (ColorOf_i_ok r g b 0 _ (by have := B9.out; omega)).mono ?_
  rintro e w5 ⟨rfl, hb5⟩
  have C5 := Lib.hid (show Row w5 (w2.heap.size) 39 4 (col (rnd (r * a) 255) (rnd (g * a) 255) (rnd (b * a) 255) a) from Row.below (by (repeat (first | (with_reducible exact C4.out) | (with_reducible refine Row.alloc ?_ _) | (with_reducible refine Row.drew ?_)))) hb5 (by go_size))
  have W5 := Lib.hid (show Row w5 (w3.heap.size) 39 4 (col (rnd (r * a) 255) (rnd (g * a) 255) (rnd (b * a) 255) a) from Row.below (by (repeat (first | (with_reducible exact W4.out) | (with_reducible refine Row.alloc ?_ _) | (with_reducible refine Row.drew ?_)))) hb5 (by go_size))
  have F5 := Lib.hid (show Row w5 (w4.heap.size) 39 4 (col r g b 255) from Row.below (row_col1 _ _ _ _ _ _ _ (by go_size)) hb5 (by go_size))
  have HB5 := Lib.hid (show Below w.heap.size w w5 from below_then (by have hhh := HB4.out; go_grown) hb5)
  have hs5 := hb5.size
  (try simp only [World.size_alloc, World.size_setCell, World.size_drew] at hs5)
  clear hb5
  obtain ⟨⟨cC5_0, cC5_1, cC5_2, cC5_3⟩, fC5_0, fC5_1, fC5_2, fC5_3⟩ := col_cells C5.out
  obtain ⟨⟨cW5_0, cW5_1, cW5_2, cW5_3⟩, fW5_0, fW5_1, fW5_2, fW5_3⟩ := col_cells W5.out
  obtain ⟨⟨cF5_0, cF5_1, cF5_2, cF5_3⟩, fF5_0, fF5_1, fF5_2, fF5_3⟩ := col_cells F5.out
  have zC0 : w2.heap.size < w5.heap.size := by omega
  have zW0 : w3.heap.size < w5.heap.size := by omega
  have zF0 : w4.heap.size < w5.heap.size := by omega
  have zC1 : w2.heap.size < w5.heap.size + 1 := by omega
  have zW1 : w3.heap.size < w5.heap.size + 1 := by omega
  have zF1 : w4.heap.size < w5.heap.size + 1 := by omega
  have zC2 : w2.heap.size < w5.heap.size + 1 + 1 := by omega
  have zW2 : w3.heap.size < w5.heap.size + 1 + 1 := by omega
  have zF2 : w4.heap.size < w5.heap.size + 1 + 1 := by omega
  have zC3 : w2.heap.size < w5.heap.size + 1 + 1 + 1 := by omega
  have zW3 : w3.heap.size < w5.heap.size + 1 + 1 + 1 := by omega
  have zF3 : w4.heap.size < w5.heap.size + 1 + 1 + 1 := by omega
  go_wp2_with (first | (go_at_call 39; refine (ValidColor_i _ _ _ _ _).mono ?_; rintro e wz ⟨rfl, rfl⟩) | fail)
  all_goals
    go_ret
    exact ⟨ret_b (by first | rfl | (simp; done) | (simp [*]; done) | (simp; omega)), by have hhh := HB5.out; go_grown⟩

end Go.Proofs.Ytkcmjpbnjdedlaa
