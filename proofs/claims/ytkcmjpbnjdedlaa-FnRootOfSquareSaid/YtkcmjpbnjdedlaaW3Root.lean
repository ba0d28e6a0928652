/-
  The walks of the laws on square roots.
-/
import Derived.Test.YtkcmjpbnjdedlaaDraw
import Derived.Test.YtkcmjpbnjdedlaaRoot
namespace Go.Proofs.Ytkcmjpbnjdedlaa
open Go.RowKit
set_option linter.unusedSimpArgs false
set_option linter.unusedVariables false

theorem rootV_out {n : Int} (h : ¬ (0 ≤ n ∧ n ≤ 1000000)) : rootV n = -1 := by simp [rootV, inB_false.2 h]
/-- The root as an integer: what is known of it. -/
theorem rootV_in {n : Int} (h1 : 0 ≤ n) (h2 : n ≤ 1000000) : 0 ≤ rootV n ∧ rootV n ≤ 1000 ∧ rootV n * rootV n ≤ n ∧ n < (rootV n + 1) * (rootV n + 1) := by
  obtain ⟨m, rfl⟩ := Int.eq_ofNat_of_zero_le h1
  have e : rootV (m : Int) = ((isq m : Nat) : Int) := by simp [rootV, inB_mk h1 h2]
  obtain ⟨s1, s2⟩ := isq_spec m
  rw [e]
  refine ⟨by omega, ?_, by exact_mod_cast s1, by exact_mod_cast s2⟩
  rcases Nat.lt_or_ge 1000 (isq m) with hlt | hge
  · have := Nat.mul_le_mul (show 1001 ≤ isq m from hlt) (show 1001 ≤ isq m from hlt); omega
  · omega
theorem rootV_unique {n r : Int} (h1 : 0 ≤ n) (h2 : n ≤ 1000000) (r0 : 0 ≤ r) (r1 : r * r ≤ n) (r2 : n < (r + 1) * (r + 1)) : rootV n = r := by
  obtain ⟨m, rfl⟩ := Int.eq_ofNat_of_zero_le h1
  obtain ⟨k, rfl⟩ := Int.eq_ofNat_of_zero_le r0
  have e : rootV (m : Int) = ((isq m : Nat) : Int) := by simp [rootV, inB_mk h1 h2]
  rw [e, ← isq_unique (n := m) (r := k) (by exact_mod_cast r1) (by exact_mod_cast r2)]
theorem sq_mono {a b : Int} (h0 : 0 ≤ a) (h : a ≤ b) : a * a ≤ b * b := Int.mul_le_mul h h h0 (by omega)
theorem rootV_mono {a b : Int} (h1 : 0 ≤ a) (h : a ≤ b) (h2 : b ≤ 1000000) : rootV a ≤ rootV b := by
  obtain ⟨p1, p2, p3, p4⟩ := rootV_in h1 (by omega)
  obtain ⟨q1, q2, q3, q4⟩ := rootV_in (show 0 ≤ b by omega) h2
  rcases Int.lt_or_le (rootV b) (rootV a) with hlt | hge
  · have := sq_mono (a := rootV b + 1) (b := rootV a) (by omega) (by omega); omega
  · exact hge
theorem rootV_next {a : Int} (h1 : 0 ≤ a) (h2 : a + 1 ≤ 1000000) : rootV (a + 1) ≤ rootV a + 1 := by
  obtain ⟨p1, p2, p3, p4⟩ := rootV_in h1 (show a ≤ 1000000 by omega)
  obtain ⟨q1, q2, q3, q4⟩ := rootV_in (show 0 ≤ a + 1 by omega) h2
  rcases Int.lt_or_le (rootV a + 1) (rootV (a + 1)) with hlt | hge
  · have := sq_mono (a := rootV a + 2) (b := rootV (a + 1)) (by omega) (by omega)
    have e : (rootV a + 2) * (rootV a + 2) = (rootV a + 1) * (rootV a + 1) + 2 * rootV a + 3 := by
      rw [Int.add_mul, Int.mul_add, Int.add_mul, Int.mul_add, Int.mul_add]; omega
    omega
  · exact hge
theorem walk_FnRootOf (w : World) (a0 : Option Addr) (len0 cap0 : Nat) (z0 : List Int) (w0 : IsRow .u8 w a0 len0 cap0 z0) :
    Calls Try.prog 4 #[.slice a0 len0 cap0] w fun e w' => e = .returned (.bool true) ∧ Below w.heap.size w w' := by
  have HC := Lib.hid w0.code
  clear w0
  by_cases hl : 1048576 < len0
  · have hl2 : (1048576 : Int) < (len0 : Int) := by omega
    go_enter Try.func4, Try.ntmps4
    go_wp2
    go_ret
    exact ⟨rfl, Below.refl _ _⟩
  have hl2 : ¬ (1048576 : Int) < (len0 : Int) := by omega
  go_enter Try.func4, Try.ntmps4
  go_wp2_with fail
  refine (DrawRootOf_c _ _ _ _ HC.out).mono ?_
  rintro e w1 ⟨v, ⟨hv1, hv2⟩, rfl, hb1⟩
  have HB := Lib.hid hb1
  clear hb1
  by_cases hv : 0 ≤ v ∧ v ≤ 1000000
  · obtain ⟨p1, p2, p3, p4⟩ := rootV_in hv.1 hv.2
    have s1 : 0 ≤ rootV v * rootV v := Int.mul_nonneg p1 p1
    have s2 := sq_mono (a := rootV v + 1) (b := 1001) (by omega) (by omega)
    have s3 : 0 ≤ (rootV v + 1) * (rootV v + 1) := Int.mul_nonneg (by omega) (by omega)
    obtain ⟨hv3, hv4⟩ := hv
    go_wp2_with (first | (go_at_call 19; refine (RootOf_i _ _).mono ?_; rintro e w1 ⟨rfl, rfl⟩) | (go_at_call 20; refine (RootOf_s _ _).mono ?_; rintro e w1 ⟨rfl, rfl⟩))
    all_goals
      go_ret
      exact ⟨ret_b (by first | (simp; done) | rfl | (simp; omega)), HB.out⟩
  · have e := rootV_out hv
    go_wp2_with (first | (go_at_call 19; refine (RootOf_i _ _).mono ?_; rintro e w1 ⟨rfl, rfl⟩) | (go_at_call 20; refine (RootOf_s _ _).mono ?_; rintro e w1 ⟨rfl, rfl⟩))
    all_goals
      go_ret
      exact ⟨ret_b (by first | (simp; done) | rfl | (simp; omega)), HB.out⟩

theorem walk_FnRootOfSquare (w : World) (a0 : Option Addr) (len0 cap0 : Nat) (z0 : List Int) (w0 : IsRow .u8 w a0 len0 cap0 z0) :
    Calls Try.prog 5 #[.slice a0 len0 cap0] w fun e w' => e = .returned (.bool true) ∧ Below w.heap.size w w' := by
  have HC := Lib.hid w0.code
  clear w0
  by_cases hl : 1048576 < len0
  · have hl2 : (1048576 : Int) < (len0 : Int) := by omega
    go_enter Try.func5, Try.ntmps5
    go_wp2
    go_ret
    exact ⟨rfl, Below.refl _ _⟩
  have hl2 : ¬ (1048576 : Int) < (len0 : Int) := by omega
  go_enter Try.func5, Try.ntmps5
  go_wp2_with fail
  refine (DrawRootOf_c _ _ _ _ HC.out).mono ?_
  rintro e w1 ⟨v, ⟨hv1, hv2⟩, rfl, hb1⟩
  have HB := Lib.hid hb1
  clear hb1
  by_cases hv : 0 ≤ v ∧ v ≤ 1000000
  · obtain ⟨p1, p2, p3, p4⟩ := rootV_in hv.1 hv.2
    have s1 : 0 ≤ rootV v * rootV v := Int.mul_nonneg p1 p1
    by_cases hm : 1000000 ≤ v
    · go_wp2_with (first | (go_at_call 19; refine (RootOf_i _ _).mono ?_; rintro e w1 ⟨rfl, rfl⟩) | (go_at_call 20; refine (RootOf_s _ _).mono ?_; rintro e w1 ⟨rfl, rfl⟩))
      all_goals first
        | (go_ret; exact ⟨ret_b (by first | (simp; done) | rfl | (simp; omega)), HB.out⟩)
        | (exfalso; (try simp only [Bool.not_eq_true, beq_eq_false_iff_ne, ne_eq] at *); omega)
    · have e2 : rootV (rootV v * rootV v) = rootV v := rootV_unique s1 (by omega) p1 (by omega) (by
        have := sq_mono (a := rootV v) (b := rootV v) p1 (by omega)
        have e : (rootV v + 1) * (rootV v + 1) = rootV v * rootV v + 2 * rootV v + 1 := by rw [Int.add_mul, Int.mul_add]; omega
        omega)
      have t1 := rootV_mono hv.1 (show v ≤ v + 1 by omega) (by omega)
      have t2 := rootV_next hv.1 (by omega)
      have t3 := rootV_in (show 0 ≤ v + 1 by omega) (by omega)
      obtain ⟨t3, t4, -, -⟩ := t3
      obtain ⟨hv3, hv4⟩ := hv
      go_wp2_with (first | (go_at_call 19; refine (RootOf_i _ _).mono ?_; rintro e w1 ⟨rfl, rfl⟩) | (go_at_call 20; refine (RootOf_s _ _).mono ?_; rintro e w1 ⟨rfl, rfl⟩))
      all_goals
        go_ret
        exact ⟨ret_b (by first | (simp; done) | rfl | (simp; omega)), HB.out⟩
  · have e := rootV_out hv
    go_wp2_with (first | (go_at_call 19; refine (RootOf_i _ _).mono ?_; rintro e w1 ⟨rfl, rfl⟩) | (go_at_call 20; refine (RootOf_s _ _).mono ?_; rintro e w1 ⟨rfl, rfl⟩))
    all_goals
      go_ret
      exact ⟨ret_b (by first | (simp; done) | rfl | (simp; omega)), HB.out⟩

end Go.Proofs.Ytkcmjpbnjdedlaa
