/-
  What the small number functions return: range tests, floor division, rounding; each by one walk. (Conditions: the bounds of each theorem.)
-/
import Derived.Test.YthfpplpklhclgaaBase
import Derived.Test.YthfpplpklhclgaaArith
import Derived.Lib.Hide
import Derived.Outline
namespace Go.Proofs.Ythfpplpklhclgaa
open Go.RowKit

theorem ret_int {k : IntKind} {a b : Int} (h : a = b) : Ending.returned (.int k a) = .returned (.int k b) := by rw [h]

theorem in_c (n lo hi : Int) (w : World) : Calls Try.prog 29 #[.int .i64 n, .int .i64 lo, .int .i64 hi] w fun e w' => e = .returned (.bool (inB n lo hi)) ∧ w = w' := by
  by_cases h1 : lo ≤ n <;> by_cases h2 : n ≤ hi
  all_goals
    go_enter Try.func29, Try.ntmps29
    go_wp2
    go_ret
    exact ⟨by simp [inB, h1, h2], rfl⟩
theorem inRange_c (n lo hi : Int) (w : World) : Calls Try.prog 31 #[.int .i64 n, .int .i64 lo, .int .i64 hi] w fun e w' => e = .returned (.bool (inB n lo hi)) ∧ w = w' := by
  by_cases h1 : lo ≤ n <;> by_cases h2 : n ≤ hi
  all_goals
    go_enter Try.func31, Try.ntmps31
    go_wp2
    go_ret
    exact ⟨by simp [inB, h1, h2], rfl⟩

/-- Whole pixels, rounded down; 0 where n is no coordinate. -/
def floorUnit (n : Int) : Int := if inB n (-1000) 1000 = true then n / 16 else 0
/-- The nearest whole pixels; 0 where n is no coordinate. -/
def roundUnit (n : Int) : Int := if inB n (-1000) 1000 = true then rnd n 16 else 0

/-- The product in 256ths; 0 where a number is too great. -/
def mulFixed (a b : Int) : Int := if (inB a (-1000000) 1000000 && inB b (-1000000) 1000000) = true then rnd (a * b) 256 else 0
theorem mul_bd {a b : Int} (ha1 : -1000000 ≤ a) (ha2 : a ≤ 1000000) (hb1 : -1000000 ≤ b) (hb2 : b ≤ 1000000) : -1000000000000 ≤ a * b ∧ a * b ≤ 1000000000000 := by
  have h : (a * b).natAbs ≤ 1000000 * 1000000 := by
    rw [Int.natAbs_mul]; exact Nat.mul_le_mul (by omega) (by omega)
  omega

/-- Can a picture have this size? -/
def sizedB (a b : Int) : Bool := inB a 1 12 && inB b 1 12
end Go.Proofs.Ythfpplpklhclgaa
