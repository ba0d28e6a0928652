/-
  Plain arithmetic, no program in sight: a range test, floor division, rounding, the integer square root.
-/
import Derived.KernelRfl
namespace Go.Proofs.Ytmdkfeojkjlpeaa

/-- Is n between lo and hi? -/
def inB (n lo hi : Int) : Bool := decide (lo ≤ n) && decide (n ≤ hi)
theorem inB_true {n lo hi : Int} : inB n lo hi = true ↔ lo ≤ n ∧ n ≤ hi := by simp [inB]
theorem inB_false {n lo hi : Int} : inB n lo hi = false ↔ ¬ (lo ≤ n ∧ n ≤ hi) := by
  rw [← inB_true]; simp
theorem inB_mk {n lo hi : Int} (h1 : lo ≤ n) (h2 : n ≤ hi) : inB n lo hi = true := inB_true.2 ⟨h1, h2⟩
theorem inB_lo {n lo hi : Int} (h1 : ¬ lo ≤ n) : inB n lo hi = false := inB_false.2 fun h => h1 h.1
theorem inB_hi {n lo hi : Int} (h1 : ¬ n ≤ hi) : inB n lo hi = false := inB_false.2 fun h => h1 h.2

/-- Go's quotient, lowered where Go's remainder is negative, is the floor. -/
theorem tdiv_floor_neg {a b : Int} (hb : 0 < b) (h : a.tmod b < 0) : a.tdiv b - 1 = a / b := by
  have h1 := Int.mul_tdiv_add_tmod a b
  have h2 : -b < a.tmod b := Int.lt_tmod_of_pos a hb
  have e : b * (a.tdiv b - 1) + (a.tmod b + b) = a := by rw [Int.mul_sub]; omega
  have := Int.ediv_emod_unique hb (a := a) (r := a.tmod b + b) (q := a.tdiv b - 1)
  exact ((this.2 ⟨by omega, by omega, by omega⟩).1).symm
theorem tdiv_floor_pos {a b : Int} (hb : 0 < b) (h : ¬ a.tmod b < 0) : a.tdiv b = a / b := by
  have h1 := Int.mul_tdiv_add_tmod a b
  have h2 : a.tmod b < b := Int.tmod_lt_of_pos a hb
  have := Int.ediv_emod_unique hb (a := a) (r := a.tmod b) (q := a.tdiv b)
  exact ((this.2 ⟨by omega, by omega, by omega⟩).1).symm
theorem tdiv_le {a b M : Int} (h1 : -M ≤ a) (h2 : a ≤ M) : -M ≤ a.tdiv b ∧ a.tdiv b ≤ M := by
  have hM : 0 ≤ M := by omega
  have hn : (a.tdiv b).natAbs ≤ a.natAbs := by
    rw [Int.natAbs_tdiv]; exact Nat.div_le_self a.natAbs b.natAbs
  omega
theorem ediv_le {a b M : Int} (hb : 0 < b) (h1 : -M ≤ a) (h2 : a ≤ M) : -M ≤ a / b ∧ a / b ≤ M := by
  constructor
  · rw [Int.le_ediv_iff_mul_le hb]
    have : M * 1 ≤ M * b := Int.mul_le_mul_of_nonneg_left (by omega) (by omega)
    rw [Int.neg_mul]; omega
  · have : a / b < M + 1 := by
      rw [Int.ediv_lt_iff_lt_mul hb]
      have : (M + 1) * 1 ≤ (M + 1) * b := Int.mul_le_mul_of_nonneg_left (by omega) (by omega)
      omega
    omega

/-- a / b rounded to the nearest number, halves up. -/
def rnd (a b : Int) : Int := (2 * a + b) / (2 * b)

/-- The integer square root, by counting up. -/
def isq : Nat → Nat
  | 0 => 0
  | n + 1 => if (isq n + 1) * (isq n + 1) ≤ n + 1 then isq n + 1 else isq n
theorem isq_spec (n : Nat) : isq n * isq n ≤ n ∧ n < (isq n + 1) * (isq n + 1) := by
  induction n with
  | zero => simp [isq]
  | succ n ih =>
    unfold isq
    split
    · rename_i h
      refine ⟨h, ?_⟩
      have e : (isq n + 1 + 1) * (isq n + 1 + 1) = (isq n + 1) * (isq n + 1) + (isq n + 1) + (isq n + 1) + 1 := by
        rw [Nat.add_mul, Nat.mul_add]; omega
      omega
    · omega
theorem isq_unique {n r : Nat} (h1 : r * r ≤ n) (h2 : n < (r + 1) * (r + 1)) : r = isq n := by
  have h := isq_spec n
  rcases Nat.lt_trichotomy r (isq n) with hlt | heq | hgt
  · have := Nat.mul_le_mul (show r + 1 ≤ isq n from hlt) (show r + 1 ≤ isq n from hlt); omega
  · exact heq
  · have := Nat.mul_le_mul (show isq n + 1 ≤ r from hgt) (show isq n + 1 ≤ r from hgt); omega

theorem prod_bd {x p : Int} (h1 : 0 ≤ x) (h2 : x ≤ 255) (p1 : 0 ≤ p) (_p2 : p ≤ 256) : 0 ≤ x * p ∧ x * p ≤ 255 * p :=
  ⟨Int.mul_nonneg h1 p1, Int.mul_le_mul_of_nonneg_right h2 p1⟩
theorem rnd_bd {p q M : Int} (hq : 0 < q) (h1 : 0 ≤ p) (h2 : p ≤ M * q) : 0 ≤ rnd p q ∧ rnd p q ≤ M := by
  unfold rnd
  constructor
  · exact Int.ediv_nonneg (by omega) (by omega)
  · have : (2 * p + q) / (2 * q) < M + 1 := by
      rw [Int.ediv_lt_iff_lt_mul (by omega)]
      have : (M + 1) * (2 * q) = 2 * (M * q) + 2 * q := by rw [Int.add_mul, Int.mul_left_comm]; omega
      omega
    omega
end Go.Proofs.Ytmdkfeojkjlpeaa
