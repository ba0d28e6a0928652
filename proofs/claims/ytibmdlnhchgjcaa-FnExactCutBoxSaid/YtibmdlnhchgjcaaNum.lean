/-
  What the small number functions return: range tests, floor division, rounding; each by one walk. (Conditions: the bounds of each theorem.)
-/
import Derived.Test.YtibmdlnhchgjcaaBase
import Derived.Test.YtibmdlnhchgjcaaArith
import Derived.Lib.Hide
import Derived.Outline
namespace Go.Proofs.Ytibmdlnhchgjcaa
open Go.RowKit

theorem ret_int {k : IntKind} {a b : Int} (h : a = b) : Ending.returned (.int k a) = .returned (.int k b) := by rw [h]

theorem in_c (n lo hi : Int) (w : World) : Calls Try.prog 48 #[.int .i64 n, .int .i64 lo, .int .i64 hi] w fun e w' => e = .returned (.bool (inB n lo hi)) ∧ w = w' := by
  by_cases h1 : lo ≤ n <;> by_cases h2 : n ≤ hi
  all_goals
    go_enter Try.func48, Try.ntmps48
    go_wp2
    go_ret
    exact ⟨by simp [inB, h1, h2], rfl⟩
theorem inRange_c (n lo hi : Int) (w : World) : Calls Try.prog 46 #[.int .i64 n, .int .i64 lo, .int .i64 hi] w fun e w' => e = .returned (.bool (inB n lo hi)) ∧ w = w' := by
  by_cases h1 : lo ≤ n <;> by_cases h2 : n ≤ hi
  all_goals
    go_enter Try.func46, Try.ntmps46
    go_wp2
    go_ret
    exact ⟨by simp [inB, h1, h2], rfl⟩
theorem isUnit_c (n : Int) (w : World) : Calls Try.prog 50 #[.int .i64 n] w fun e w' => e = .returned (.bool (inB n (-1000) 1000)) ∧ w = w' := by
  go_enter Try.func50, Try.ntmps50
  go_wp2_with (go_at_call 48; refine (in_c _ _ _ _).mono ?_; rintro e w' ⟨rfl, rfl⟩)
  go_ret
  exact ⟨rfl, rfl⟩
theorem floor_c (a b : Int) (w : World) (ha1 : -1000000000000000 ≤ a) (ha2 : a ≤ 1000000000000000) (hb1 : 1 ≤ b) (hb2 : b ≤ 1000000000000000) :
    Calls Try.prog 51 #[.int .i64 a, .int .i64 b] w fun e w' => e = .returned (.int .i64 (a / b)) ∧ w = w' := by
  have hq := tdiv_le (a := a) (b := b) (M := 1000000000000000) (by omega) (by omega)
  obtain ⟨hq1, hq2⟩ := hq
  by_cases h : a.tmod b < 0
  · have e := Lib.hid (tdiv_floor_neg (by omega) h)
    go_enter Try.func51, Try.ntmps51
    go_wp2
    go_ret
    exact ⟨ret_int e.out, rfl⟩
  · have e := Lib.hid (tdiv_floor_pos (by omega) h)
    go_enter Try.func51, Try.ntmps51
    go_wp2
    go_ret
    exact ⟨ret_int e.out, rfl⟩
theorem floorDiv_c (a b : Int) (w : World) (ha1 : -1000000000000000 ≤ a) (ha2 : a ≤ 1000000000000000) (hb1 : 1 ≤ b) (hb2 : b ≤ 1000000000000000) :
    Calls Try.prog 49 #[.int .i64 a, .int .i64 b] w fun e w' => e = .returned (.int .i64 (a / b)) ∧ w = w' := by
  have hq := tdiv_le (a := a) (b := b) (M := 1000000000000000) (by omega) (by omega)
  obtain ⟨hq1, hq2⟩ := hq
  by_cases h : a.tmod b < 0
  · have e := Lib.hid (tdiv_floor_neg (by omega) h)
    go_enter Try.func49, Try.ntmps49
    go_wp2
    go_ret
    exact ⟨ret_int e.out, rfl⟩
  · have e := Lib.hid (tdiv_floor_pos (by omega) h)
    go_enter Try.func49, Try.ntmps49
    go_wp2
    go_ret
    exact ⟨ret_int e.out, rfl⟩
theorem round_c (a b : Int) (w : World) (ha1 : -100000000000000 ≤ a) (ha2 : a ≤ 100000000000000) (hb1 : 1 ≤ b) (hb2 : b ≤ 100000000000000) :
    Calls Try.prog 55 #[.int .i64 a, .int .i64 b] w fun e w' => e = .returned (.int .i64 (rnd a b)) ∧ w = w' := by
  go_enter Try.func55, Try.ntmps55
  go_wp2_with (go_at_call 51; refine (floor_c _ _ _ (by omega) (by omega) (by omega) (by omega)).mono ?_; rintro e w' ⟨rfl, rfl⟩)
  go_ret
  exact ⟨rfl, rfl⟩
theorem nearest_c (a b : Int) (w : World) (ha1 : -100000000000000 ≤ a) (ha2 : a ≤ 100000000000000) (hb1 : 1 ≤ b) (hb2 : b ≤ 100000000000000) :
    Calls Try.prog 54 #[.int .i64 a, .int .i64 b] w fun e w' => e = .returned (.int .i64 (rnd a b)) ∧ w = w' := by
  go_enter Try.func54, Try.ntmps54
  go_wp2_with (go_at_call 49; refine (floorDiv_c _ _ _ (by omega) (by omega) (by omega) (by omega)).mono ?_; rintro e w' ⟨rfl, rfl⟩)
  go_ret
  exact ⟨rfl, rfl⟩

/-- Whole pixels, rounded down; 0 where n is no coordinate. -/
def floorUnit (n : Int) : Int := if inB n (-1000) 1000 = true then n / 16 else 0
/-- The nearest whole pixels; 0 where n is no coordinate. -/
def roundUnit (n : Int) : Int := if inB n (-1000) 1000 = true then rnd n 16 else 0
theorem FloorUnit_i (n : Int) (w : World) : Calls Try.prog 21 #[.int .i64 n] w fun e w' => e = .returned (.int .i64 (floorUnit n)) ∧ w = w' := by
  cases h : inB n (-1000) 1000
  · go_enter Try.func21, Try.ntmps21
    go_wp2_with (go_at_call 50; refine (isUnit_c _ _).mono ?_; rintro e w' ⟨rfl, rfl⟩)
    go_ret
    exact ⟨by simp [floorUnit, h], rfl⟩
  · obtain ⟨h1, h2⟩ := inB_true.1 h
    go_enter Try.func21, Try.ntmps21
    go_wp2_with (first | (go_at_call 50; refine (isUnit_c _ _).mono ?_; rintro e w' ⟨rfl, rfl⟩) | (go_at_call 51; refine (floor_c _ _ _ (by omega) (by omega) (by omega) (by omega)).mono ?_; rintro e w' ⟨rfl, rfl⟩))
    go_ret
    exact ⟨by simp [floorUnit, h], rfl⟩
theorem FloorUnit_s (n : Int) (w : World) : Calls Try.prog 20 #[.int .i64 n] w fun e w' => e = .returned (.int .i64 (floorUnit n)) ∧ w = w' := by
  cases h : inB n (-1000) 1000
  · go_enter Try.func20, Try.ntmps20
    go_wp2_with (go_at_call 46; refine (inRange_c _ _ _ _).mono ?_; rintro e w' ⟨rfl, rfl⟩)
    go_ret
    exact ⟨by simp [floorUnit, h], rfl⟩
  · obtain ⟨h1, h2⟩ := inB_true.1 h
    go_enter Try.func20, Try.ntmps20
    go_wp2_with (first | (go_at_call 46; refine (inRange_c _ _ _ _).mono ?_; rintro e w' ⟨rfl, rfl⟩) | (go_at_call 49; refine (floorDiv_c _ _ _ (by omega) (by omega) (by omega) (by omega)).mono ?_; rintro e w' ⟨rfl, rfl⟩))
    go_ret
    exact ⟨by simp [floorUnit, h], rfl⟩
theorem RoundUnit_i (n : Int) (w : World) : Calls Try.prog 27 #[.int .i64 n] w fun e w' => e = .returned (.int .i64 (roundUnit n)) ∧ w = w' := by
  cases h : inB n (-1000) 1000
  · go_enter Try.func27, Try.ntmps27
    go_wp2_with (go_at_call 50; refine (isUnit_c _ _).mono ?_; rintro e w' ⟨rfl, rfl⟩)
    go_ret
    exact ⟨by simp [roundUnit, h], rfl⟩
  · obtain ⟨h1, h2⟩ := inB_true.1 h
    go_enter Try.func27, Try.ntmps27
    go_wp2_with (first | (go_at_call 50; refine (isUnit_c _ _).mono ?_; rintro e w' ⟨rfl, rfl⟩) | (go_at_call 55; refine (round_c _ _ _ (by omega) (by omega) (by omega) (by omega)).mono ?_; rintro e w' ⟨rfl, rfl⟩))
    go_ret
    exact ⟨by simp [roundUnit, h], rfl⟩
theorem RoundUnit_s (n : Int) (w : World) : Calls Try.prog 26 #[.int .i64 n] w fun e w' => e = .returned (.int .i64 (roundUnit n)) ∧ w = w' := by
  cases h : inB n (-1000) 1000
  · go_enter Try.func26, Try.ntmps26
    go_wp2_with (go_at_call 46; refine (inRange_c _ _ _ _).mono ?_; rintro e w' ⟨rfl, rfl⟩)
    go_ret
    exact ⟨by simp [roundUnit, h], rfl⟩
  · obtain ⟨h1, h2⟩ := inB_true.1 h
    go_enter Try.func26, Try.ntmps26
    go_wp2_with (first | (go_at_call 46; refine (inRange_c _ _ _ _).mono ?_; rintro e w' ⟨rfl, rfl⟩) | (go_at_call 54; refine (nearest_c _ _ _ (by omega) (by omega) (by omega) (by omega)).mono ?_; rintro e w' ⟨rfl, rfl⟩))
    go_ret
    exact ⟨by simp [roundUnit, h], rfl⟩

/-- The product in 256ths; 0 where a number is too great. -/
def mulFixed (a b : Int) : Int := if (inB a (-1000000) 1000000 && inB b (-1000000) 1000000) = true then rnd (a * b) 256 else 0
theorem mul_bd {a b : Int} (ha1 : -1000000 ≤ a) (ha2 : a ≤ 1000000) (hb1 : -1000000 ≤ b) (hb2 : b ≤ 1000000) : -1000000000000 ≤ a * b ∧ a * b ≤ 1000000000000 := by
  have h : (a * b).natAbs ≤ 1000000 * 1000000 := by
    rw [Int.natAbs_mul]; exact Nat.mul_le_mul (by omega) (by omega)
  omega
theorem MulFixed_i (a b : Int) (w : World) : Calls Try.prog 25 #[.int .i64 a, .int .i64 b] w fun e w' => e = .returned (.int .i64 (mulFixed a b)) ∧ w = w' := by
  cases h : inB a (-1000000) 1000000
  · go_enter Try.func25, Try.ntmps25
    go_wp2_with (go_at_call 48; refine (in_c _ _ _ _).mono ?_; rintro e w' ⟨rfl, rfl⟩)
    go_ret
    exact ⟨by simp [mulFixed, h], rfl⟩
  cases k : inB b (-1000000) 1000000
  · go_enter Try.func25, Try.ntmps25
    go_wp2_with (go_at_call 48; refine (in_c _ _ _ _).mono ?_; rintro e w' ⟨rfl, rfl⟩)
    go_ret
    exact ⟨by simp [mulFixed, h, k], rfl⟩
  · obtain ⟨h1, h2⟩ := inB_true.1 h
    obtain ⟨k1, k2⟩ := inB_true.1 k
    obtain ⟨m1, m2⟩ := mul_bd h1 h2 k1 k2
    go_enter Try.func25, Try.ntmps25
    go_wp2_with (first | (go_at_call 48; refine (in_c _ _ _ _).mono ?_; rintro e w' ⟨rfl, rfl⟩) | (go_at_call 55; refine (round_c _ _ _ (by omega) (by omega) (by omega) (by omega)).mono ?_; rintro e w' ⟨rfl, rfl⟩))
    go_ret
    exact ⟨by simp [mulFixed, h, k], rfl⟩
theorem MulFixed_s (a b : Int) (w : World) : Calls Try.prog 24 #[.int .i64 a, .int .i64 b] w fun e w' => e = .returned (.int .i64 (mulFixed a b)) ∧ w = w' := by
  cases h : inB a (-1000000) 1000000
  · go_enter Try.func24, Try.ntmps24
    go_wp2_with (go_at_call 46; refine (inRange_c _ _ _ _).mono ?_; rintro e w' ⟨rfl, rfl⟩)
    go_ret
    exact ⟨by simp [mulFixed, h], rfl⟩
  cases k : inB b (-1000000) 1000000
  · go_enter Try.func24, Try.ntmps24
    go_wp2_with (go_at_call 46; refine (inRange_c _ _ _ _).mono ?_; rintro e w' ⟨rfl, rfl⟩)
    go_ret
    exact ⟨by simp [mulFixed, h, k], rfl⟩
  · obtain ⟨h1, h2⟩ := inB_true.1 h
    obtain ⟨k1, k2⟩ := inB_true.1 k
    obtain ⟨m1, m2⟩ := mul_bd h1 h2 k1 k2
    go_enter Try.func24, Try.ntmps24
    go_wp2_with (first | (go_at_call 46; refine (inRange_c _ _ _ _).mono ?_; rintro e w' ⟨rfl, rfl⟩) | (go_at_call 54; refine (nearest_c _ _ _ (by omega) (by omega) (by omega) (by omega)).mono ?_; rintro e w' ⟨rfl, rfl⟩))
    go_ret
    exact ⟨by simp [mulFixed, h, k], rfl⟩

/-- Can a picture have this size? -/
def sizedB (a b : Int) : Bool := inB a 1 12 && inB b 1 12
theorem sized_c (a b : Int) (w : World) : Calls Try.prog 43 #[.int .i64 a, .int .i64 b] w fun e w' => e = .returned (.bool (sizedB a b)) ∧ w = w' := by
  cases h : inB a 1 12
  all_goals
    go_enter Try.func43, Try.ntmps43
    go_wp2_with (go_at_call 48; refine (in_c _ _ _ _).mono ?_; rintro e w' ⟨rfl, rfl⟩)
    go_ret
    exact ⟨by simp [sizedB, h], rfl⟩
theorem validSize_c (a b : Int) (w : World) : Calls Try.prog 41 #[.int .i64 a, .int .i64 b] w fun e w' => e = .returned (.bool (sizedB a b)) ∧ w = w' := by
  cases h : inB a 1 12
  all_goals
    go_enter Try.func41, Try.ntmps41
    go_wp2_with (go_at_call 46; refine (inRange_c _ _ _ _).mono ?_; rintro e w' ⟨rfl, rfl⟩)
    go_ret
    exact ⟨by simp [sizedB, h], rfl⟩
end Go.Proofs.Ytibmdlnhchgjcaa
