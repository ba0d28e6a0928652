/-
  The walks of the laws on products in 256ths.
-/
import Derived.Test.YtkcmjpbnjdedlaaDraw
namespace Go.Proofs.Ytkcmjpbnjdedlaa
open Go.RowKit
set_option linter.unusedSimpArgs false
set_option linter.unusedVariables false

theorem mulFixed_in {a b : Int} (ha : -1000000 ≤ a ∧ a ≤ 1000000) (hb : -1000000 ≤ b ∧ b ≤ 1000000) : mulFixed a b = (2 * (a * b) + 256) / 512 := by
  simp [mulFixed, rnd, inB_mk ha.1 ha.2, inB_mk hb.1 hb.2]
theorem mulFixed_out {a b : Int} (h : ¬ ((-1000000 ≤ a ∧ a ≤ 1000000) ∧ (-1000000 ≤ b ∧ b ≤ 1000000))) : mulFixed a b = 0 := by
  have : (inB a (-1000000) 1000000 && inB b (-1000000) 1000000) = false := by
    cases e : (inB a (-1000000) 1000000 && inB b (-1000000) 1000000)
    · rfl
    · simp only [Bool.and_eq_true, inB_true] at e; exact absurd e h
  simp [mulFixed, this]
theorem mulFixed_sign (a b : Int) : mulFixed a b + mulFixed (-a) b = 0 ∨ mulFixed a b + mulFixed (-a) b = 1 := by
  by_cases h : (-1000000 ≤ a ∧ a ≤ 1000000) ∧ (-1000000 ≤ b ∧ b ≤ 1000000)
  · rw [mulFixed_in h.1 h.2, mulFixed_in (by omega) h.2, Int.neg_mul]; omega
  · rw [mulFixed_out h, mulFixed_out (by omega)]; omega
theorem mulFixed_bd (a b : Int) : -4000000000 ≤ mulFixed a b ∧ mulFixed a b ≤ 4000000000 := by
  by_cases h : (-1000000 ≤ a ∧ a ≤ 1000000) ∧ (-1000000 ≤ b ∧ b ≤ 1000000)
  · have := mul_bd h.1.1 h.1.2 h.2.1 h.2.2
    rw [mulFixed_in h.1 h.2]; omega
  · rw [mulFixed_out h]; omega
theorem mulFixed_comm (a b : Int) : mulFixed b a = mulFixed a b := by
  by_cases h : (-1000000 ≤ a ∧ a ≤ 1000000) ∧ (-1000000 ≤ b ∧ b ≤ 1000000)
  · rw [mulFixed_in h.1 h.2, mulFixed_in h.2 h.1, Int.mul_comm b a]
  · rw [mulFixed_out h, mulFixed_out (fun k => h ⟨k.2, k.1⟩)]
theorem mulFixed_256 {a : Int} (h : -1000000 ≤ a ∧ a ≤ 1000000) : mulFixed a 256 = a := by
  rw [mulFixed_in h (by omega)]; omega
theorem mulFixed_near {a b : Int} (ha : -1000000 ≤ a ∧ a ≤ 1000000) (hb : -1000000 ≤ b ∧ b ≤ 1000000) : -128 ≤ 256 * mulFixed a b - a * b ∧ 256 * mulFixed a b - a * b ≤ 128 := by
  rw [mulFixed_in ha hb]; omega
theorem walk_FnMulFixedSign (w : World) (a0 : Option Addr) (len0 cap0 : Nat) (z0 : List Int) (w0 : IsRow .u8 w a0 len0 cap0 z0) :
    Calls Try.prog 7 #[.slice a0 len0 cap0] w fun e w' => e = .returned (.bool true) ∧ Below w.heap.size w w' := by
  have HC := Lib.hid w0.code
  clear w0
  by_cases hl : 1048576 < len0
  · have hl2 : (1048576 : Int) < (len0 : Int) := by omega
    go_enter Try.func7, Try.ntmps7
    go_wp2
    go_ret
    exact ⟨rfl, Below.refl _ _⟩
  have hl2 : ¬ (1048576 : Int) < (len0 : Int) := by omega
  go_enter Try.func7, Try.ntmps7
  go_wp2_with fail
  refine (DrawMulFixed_c _ _ _ _ HC.out).mono ?_
  rintro e w1 ⟨u, v, ⟨hu1, hu2, hv1, hv2⟩, rfl, hb1⟩
  have HB := Lib.hid hb1
  clear hb1
  obtain ⟨x1, x2⟩ := mulFixed_bd u v
  obtain ⟨y1, y2⟩ := mulFixed_bd (-u) v
  rcases mulFixed_sign u v with hs | hs
  all_goals
    have HS := Lib.hid hs
    clear hs
    go_wp2_with (first | (go_at_call 25; refine (MulFixed_i _ _ _).mono ?_; rintro e w1 ⟨rfl, rfl⟩) | (go_at_call 26; refine (MulFixed_s _ _ _).mono ?_; rintro e w1 ⟨rfl, rfl⟩))
    all_goals
      go_ret
      exact ⟨ret_b (by have := HS.out; first | rfl | (simp; done) | (simp; omega)), HB.out⟩

theorem walk_FnMulFixed (w : World) (a0 : Option Addr) (len0 cap0 : Nat) (z0 : List Int) (w0 : IsRow .u8 w a0 len0 cap0 z0) :
    Calls Try.prog 9 #[.slice a0 len0 cap0] w fun e w' => e = .returned (.bool true) ∧ Below w.heap.size w w' := by
  have HC := Lib.hid w0.code
  clear w0
  by_cases hl : 1048576 < len0
  · have hl2 : (1048576 : Int) < (len0 : Int) := by omega
    go_enter Try.func9, Try.ntmps9
    go_wp2
    go_ret
    exact ⟨rfl, Below.refl _ _⟩
  have hl2 : ¬ (1048576 : Int) < (len0 : Int) := by omega
  go_enter Try.func9, Try.ntmps9
  go_wp2_with fail
  refine (DrawMulFixed_c _ _ _ _ HC.out).mono ?_
  rintro e w1 ⟨u, v, ⟨hu1, hu2, hv1, hv2⟩, rfl, hb1⟩
  have HB := Lib.hid hb1
  clear hb1
  obtain ⟨x1, x2⟩ := mulFixed_bd u v
  by_cases h : (-1000000 ≤ u ∧ u ≤ 1000000) ∧ (-1000000 ≤ v ∧ v ≤ 1000000)
  · obtain ⟨m1, m2⟩ := mul_bd h.1.1 h.1.2 h.2.1 h.2.2
    obtain ⟨n1, n2⟩ := mulFixed_near h.1 h.2
    have e1 := mulFixed_comm u v
    have e2 := mulFixed_256 h.1
    obtain ⟨⟨h1, h2⟩, h3, h4⟩ := h
    go_wp2_with (first | (go_at_call 25; refine (MulFixed_i _ _ _).mono ?_; rintro e w1 ⟨rfl, rfl⟩) | (go_at_call 26; refine (MulFixed_s _ _ _).mono ?_; rintro e w1 ⟨rfl, rfl⟩) | go_in)
    all_goals
      go_ret
      exact ⟨ret_b (by first | rfl | (simp; done) | (simp; omega)), HB.out⟩
  · go_wp2_with (first | (go_at_call 25; refine (MulFixed_i _ _ _).mono ?_; rintro e w1 ⟨rfl, rfl⟩) | (go_at_call 26; refine (MulFixed_s _ _ _).mono ?_; rintro e w1 ⟨rfl, rfl⟩) | go_in)
    all_goals
      go_ret
      exact ⟨ret_b (by first | rfl | (simp; done) | (simp; omega)), HB.out⟩

end Go.Proofs.Ytkcmjpbnjdedlaa
