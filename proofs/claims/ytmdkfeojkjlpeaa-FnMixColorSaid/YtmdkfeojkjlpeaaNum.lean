/-
  What the small number functions return: range tests, floor division, rounding; each by one walk. (Conditions: the bounds of each theorem.)
-/
import Derived.Test.YtmdkfeojkjlpeaaBase
import Derived.Test.YtmdkfeojkjlpeaaArith
import Derived.Lib.Hide
import Derived.Outline
namespace Go.Proofs.Ytmdkfeojkjlpeaa
open Go.RowKit

theorem ret_int {k : IntKind} {a b : Int} (h : a = b) : Ending.returned (.int k a) = .returned (.int k b) := by rw [h]

theorem in_c (n lo hi : Int) (w : World) : Calls Try.prog 29 #[.int .i64 n, .int .i64 lo, .int .i64 hi] w fun e w' => e = .returned (.bool (inB n lo hi)) ∧ w = w' := by
  by_cases h1 : lo ≤ n <;> by_cases h2 : n ≤ hi
  all_goals
    go_enter Try.func29, Try.ntmps29
    go_wp2
    go_ret
    exact ⟨by simp [inB, h1, h2], rfl⟩
theorem inRange_c (n lo hi : Int) (w : World) : Calls Try.prog 30 #[.int .i64 n, .int .i64 lo, .int .i64 hi] w fun e w' => e = .returned (.bool (inB n lo hi)) ∧ w = w' := by
  by_cases h1 : lo ≤ n <;> by_cases h2 : n ≤ hi
  all_goals
    go_enter Try.func30, Try.ntmps30
    go_wp2
    go_ret
    exact ⟨by simp [inB, h1, h2], rfl⟩
theorem floor_c (a b : Int) (w : World) (ha1 : -1000000000000000 ≤ a) (ha2 : a ≤ 1000000000000000) (hb1 : 1 ≤ b) (hb2 : b ≤ 1000000000000000) :
    Calls Try.prog 44 #[.int .i64 a, .int .i64 b] w fun e w' => e = .returned (.int .i64 (a / b)) ∧ w = w' := by
  have hq := tdiv_le (a := a) (b := b) (M := 1000000000000000) (by omega) (by omega)
  obtain ⟨hq1, hq2⟩ := hq
  by_cases h : a.tmod b < 0
  · have e := Lib.hid (tdiv_floor_neg (by omega) h)
    go_enter Try.func44, Try.ntmps44
    go_wp2
    go_ret
    exact ⟨ret_int e.out, rfl⟩
  · have e := Lib.hid (tdiv_floor_pos (by omega) h)
    go_enter Try.func44, Try.ntmps44
    go_wp2
    go_ret
    exact ⟨ret_int e.out, rfl⟩
theorem floorDiv_c (a b : Int) (w : World) (ha1 : -1000000000000000 ≤ a) (ha2 : a ≤ 1000000000000000) (hb1 : 1 ≤ b) (hb2 : b ≤ 1000000000000000) :
    Calls Try.prog 47 #[.int .i64 a, .int .i64 b] w fun e w' => e = .returned (.int .i64 (a / b)) ∧ w = w' := by
  have hq := tdiv_le (a := a) (b := b) (M := 1000000000000000) (by omega) (by omega)
  obtain ⟨hq1, hq2⟩ := hq
  by_cases h : a.tmod b < 0
  · have e := Lib.hid (tdiv_floor_neg (by omega) h)
    go_enter Try.func47, Try.ntmps47
    go_wp2
    go_ret
    exact ⟨ret_int e.out, rfl⟩
  · have e := Lib.hid (tdiv_floor_pos (by omega) h)
    go_enter Try.func47, Try.ntmps47
    go_wp2
    go_ret
    exact ⟨ret_int e.out, rfl⟩
theorem round_c (a b : Int) (w : World) (ha1 : -100000000000000 ≤ a) (ha2 : a ≤ 100000000000000) (hb1 : 1 ≤ b) (hb2 : b ≤ 100000000000000) :
    Calls Try.prog 34 #[.int .i64 a, .int .i64 b] w fun e w' => e = .returned (.int .i64 (rnd a b)) ∧ w = w' := by
  go_enter Try.func34, Try.ntmps34
  go_wp2_with (go_at_call 44; refine (floor_c _ _ _ (by omega) (by omega) (by omega) (by omega)).mono ?_; rintro e w' ⟨rfl, rfl⟩)
  go_ret
  exact ⟨rfl, rfl⟩
theorem nearest_c (a b : Int) (w : World) (ha1 : -100000000000000 ≤ a) (ha2 : a ≤ 100000000000000) (hb1 : 1 ≤ b) (hb2 : b ≤ 100000000000000) :
    Calls Try.prog 43 #[.int .i64 a, .int .i64 b] w fun e w' => e = .returned (.int .i64 (rnd a b)) ∧ w = w' := by
  go_enter Try.func43, Try.ntmps43
  go_wp2_with (go_at_call 47; refine (floorDiv_c _ _ _ (by omega) (by omega) (by omega) (by omega)).mono ?_; rintro e w' ⟨rfl, rfl⟩)
  go_ret
  exact ⟨rfl, rfl⟩

/-- Whole pixels, rounded down; 0 where n is no coordinate. -/
def floorUnit (n : Int) : Int := if inB n (-1000) 1000 = true then n / 16 else 0
/-- The nearest whole pixels; 0 where n is no coordinate. -/
def roundUnit (n : Int) : Int := if inB n (-1000) 1000 = true then rnd n 16 else 0

/-- The product in 256ths; 0 where a number is too great. -/
def mulFixed (a b : Int) : Int := if (inB a (-1000000) 1000000 && inB b (-1000000) 1000000) = true then rnd (a * b) 256 else 0
theorem mul_bd {a b : Int} (ha1 : -1000000 ≤ a) (ha2 : a ≤ 1000000) (hb1 : -1000000 ≤ b) (hb2 : b ≤ 1000000) : -1000000000000 ≤ a * b ∧ a * b ≤ 1000000000000 := by
  have h : (a * b).natAbs ≤ 1000000 * 1000000 := by
    rw [Int.natAbs_mul]; exact Nat.mul_le_mul (by omega) (by omega)
  omega

/-- Can a picture have this size? -/
def sizedB (a b : Int) : Bool := inB a 1 12 && inB b 1 12
end Go.Proofs.Ytmdkfeojkjlpeaa
