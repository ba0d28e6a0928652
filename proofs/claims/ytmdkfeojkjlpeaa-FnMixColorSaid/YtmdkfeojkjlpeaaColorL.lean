/-
  Plain numbers, no program in sight: what holds of colors over, between and covered.
-/
import Derived.Test.YtmdkfeojkjlpeaaColor
namespace Go.Proofs.Ytmdkfeojkjlpeaa
set_option linter.unusedVariables false

theorem rnd_mono {p q n : Int} (hn : 0 < n) (h : p ≤ q) : rnd p n ≤ rnd q n := by
  unfold rnd
  exact Int.ediv_le_ediv (by omega) (by omega)
theorem rnd_mul {x n : Int} (hn : 0 < n) : rnd (x * n) n = x := by
  unfold rnd
  have e : 2 * (x * n) + n = n + x * (2 * n) := by rw [Int.mul_left_comm]; omega
  rw [e, Int.add_mul_ediv_right _ _ (by omega), Int.ediv_eq_zero_of_lt (by omega) (by omega)]; omega
theorem rnd_zero {n : Int} (hn : 0 < n) : rnd 0 n = 0 := by have := rnd_mul (x := 0) hn; rwa [Int.zero_mul] at this
theorem rnd_sum {x y n : Int} (hn : 0 < n) : rnd (x * n + y) n = x + rnd y n := by
  unfold rnd
  have e : 2 * (x * n + y) + n = 2 * y + n + x * (2 * n) := by rw [Int.mul_add, Int.mul_left_comm x 2 n]; omega
  rw [e, Int.add_mul_ediv_right _ _ (by omega)]; omega
/-- One channel over another. -/
def ov (x y a : Int) : Int := x + rnd (y * (255 - a)) 255
def mx (x y t : Int) : Int := rnd (x * (256 - t) + y * t) 256
def cv (x p : Int) : Int := rnd (x * p) 16
theorem ov_zero (x a : Int) : ov x 0 a = x := by unfold ov; rw [Int.zero_mul, rnd_zero (by omega)]; omega
theorem zero_ov (y : Int) : ov 0 y 0 = y := by unfold ov; rw [show (255 : Int) - 0 = 255 by omega, rnd_mul (by omega)]; omega
theorem ov_full (x y : Int) : ov x y 255 = x := by unfold ov; rw [show (255 : Int) - 255 = 0 by omega, Int.mul_zero, rnd_zero (by omega)]; omega
theorem ov_mono {x y x' y' a : Int} (ha : a ≤ 255) (h1 : x ≤ x') (h2 : y ≤ y') : ov x y a ≤ ov x' y' a := by
  unfold ov
  have := rnd_mono (n := 255) (by omega) (Int.mul_le_mul_of_nonneg_right h2 (show 0 ≤ 255 - a by omega)); omega
theorem ov_ge {x y a : Int} (ha : a ≤ 255) (hy : 0 ≤ y) : x ≤ ov x y a := by
  unfold ov
  have := rnd_mono (n := 255) (by omega) (Int.mul_nonneg hy (show 0 ≤ 255 - a by omega))
  rw [rnd_zero (by omega)] at this; omega
/-- The alpha over another alpha. -/
theorem ov_alpha (a b : Int) : ov a b a = ov b a b := by
  unfold ov
  have e1 : b * (255 - a) = b * 255 + -(a * b) := by rw [Int.mul_sub, Int.mul_comm b a]; omega
  have e2 : a * (255 - b) = a * 255 + -(a * b) := by rw [Int.mul_sub]; omega
  rw [e1, e2, rnd_sum (by omega), rnd_sum (by omega)]; omega
theorem ov_opaque (a : Int) : ov a 255 a = 255 := by rw [ov_alpha, ov_full]
theorem ov_le {a b : Int} (ha : a ≤ 255) (hb : b ≤ 255) : ov a b a ≤ 255 := by
  have := ov_mono (x := a) (x' := a) (a := a) ha (Int.le_refl _) hb
  rw [ov_opaque] at this; exact this
theorem ov_ge_b {a b : Int} (hb : b ≤ 255) (ha : 0 ≤ a) : b ≤ ov a b a := by rw [ov_alpha]; exact ov_ge hb ha
theorem ov_valid {r g b a r' g' b' a' : Int} (h : colB r g b a = true) (h' : colB r' g' b' a' = true) : colB (ov r r' a) (ov g g' a) (ov b b' a) (ov a a' a) = true := by
  rw [colB_true] at *
  have := ov_le (a := a) (b := a') (by omega) (by omega)
  have := ov_ge (x := a) (y := a') (a := a) (by omega) (by omega)
  have := ov_ge (x := r) (y := r') (a := a) (by omega) (by omega)
  have := ov_ge (x := g) (y := g') (a := a) (by omega) (by omega)
  have := ov_ge (x := b) (y := b') (a := a) (by omega) (by omega)
  have := ov_mono (x := r) (y := r') (x' := a) (y' := a') (a := a) (by omega) (by omega) (by omega)
  have := ov_mono (x := g) (y := g') (x' := a) (y' := a') (a := a) (by omega) (by omega) (by omega)
  have := ov_mono (x := b) (y := b') (x' := a) (y' := a') (a := a) (by omega) (by omega) (by omega)
  omega
theorem mx_zero (x y : Int) : mx x y 0 = x := by unfold mx; rw [Int.mul_zero, show (256 : Int) - 0 = 256 by omega, Int.add_zero, rnd_mul (by omega)]
theorem mx_full (x y : Int) : mx x y 256 = y := by unfold mx; rw [show (256 : Int) - 256 = 0 by omega, Int.mul_zero, Int.zero_add, rnd_mul (by omega)]
theorem mx_same (x t : Int) : mx x x t = x := by
  unfold mx; rw [← Int.mul_add, show 256 - t + t = 256 by omega, rnd_mul (by omega)]
theorem mx_turn (x y t : Int) : mx y x (256 - t) = mx x y t := by
  unfold mx; rw [show 256 - (256 - t) = t by omega, Int.add_comm]
theorem mx_mono {x y x' y' t : Int} (h0 : 0 ≤ t) (h1 : t ≤ 256) (hx : x ≤ x') (hy : y ≤ y') : mx x y t ≤ mx x' y' t := by
  unfold mx
  have := Int.mul_le_mul_of_nonneg_right hx (show 0 ≤ 256 - t by omega)
  have := Int.mul_le_mul_of_nonneg_right hy h0
  exact rnd_mono (by omega) (by omega)
theorem mx_between {x y t : Int} (h0 : 0 ≤ t) (h1 : t ≤ 256) : min x y ≤ mx x y t ∧ mx x y t ≤ max x y := by
  have a := mx_mono (x := min x y) (y := min x y) (x' := x) (y' := y) h0 h1 (by omega) (by omega)
  have b := mx_mono (x := x) (y := y) (x' := max x y) (y' := max x y) h0 h1 (by omega) (by omega)
  rw [mx_same] at a b; exact ⟨a, b⟩
theorem mx_valid {r g b a r' g' b' a' t : Int} (h0 : 0 ≤ t) (h1 : t ≤ 256) (h : colB r g b a = true) (h' : colB r' g' b' a' = true) : colB (mx r r' t) (mx g g' t) (mx b b' t) (mx a a' t) = true := by
  rw [colB_true] at *
  have z := mx_same 0 t
  have f := mx_same 255 t
  have := mx_mono (x := 0) (y := 0) (x' := r) (y' := r') h0 h1 (by omega) (by omega)
  have := mx_mono (x := 0) (y := 0) (x' := g) (y' := g') h0 h1 (by omega) (by omega)
  have := mx_mono (x := 0) (y := 0) (x' := b) (y' := b') h0 h1 (by omega) (by omega)
  have := mx_mono (x := 0) (y := 0) (x' := a) (y' := a') h0 h1 (by omega) (by omega)
  have := mx_mono (x := a) (y := a') (x' := 255) (y' := 255) h0 h1 (by omega) (by omega)
  have := mx_mono (x := r) (y := r') (x' := a) (y' := a') h0 h1 (by omega) (by omega)
  have := mx_mono (x := g) (y := g') (x' := a) (y' := a') h0 h1 (by omega) (by omega)
  have := mx_mono (x := b) (y := b') (x' := a) (y' := a') h0 h1 (by omega) (by omega)
  omega
theorem cv_zero (x : Int) : cv x 0 = 0 := by unfold cv; rw [Int.mul_zero, rnd_zero (by omega)]
theorem cv_full (x : Int) : cv x 16 = x := by unfold cv; rw [rnd_mul (by omega)]
theorem cv_mono {x y p : Int} (hp : 0 ≤ p) (h : x ≤ y) : cv x p ≤ cv y p := rnd_mono (by omega) (Int.mul_le_mul_of_nonneg_right h hp)
theorem cv_more {x p q : Int} (hx : 0 ≤ x) (h : p ≤ q) : cv x p ≤ cv x q := rnd_mono (by omega) (Int.mul_le_mul_of_nonneg_left h hx)
theorem cv_valid {r g b a p : Int} (h0 : 0 ≤ p) (h1 : p ≤ 16) (h : colB r g b a = true) : colB (cv r p) (cv g p) (cv b p) (cv a p) = true := by
  rw [colB_true] at *
  have z : cv 0 p = 0 := by unfold cv; rw [Int.zero_mul, rnd_zero (by omega)]
  have := cv_mono (x := 0) (y := r) h0 (by omega)
  have := cv_mono (x := 0) (y := g) h0 (by omega)
  have := cv_mono (x := 0) (y := b) h0 (by omega)
  have := cv_mono (x := 0) (y := a) h0 (by omega)
  have := cv_mono (x := r) (y := a) h0 (by omega)
  have := cv_mono (x := g) (y := a) h0 (by omega)
  have := cv_mono (x := b) (y := a) h0 (by omega)
  have := cv_more (x := a) (p := p) (q := 16) (by omega) h1
  rw [cv_full] at this
  omega
end Go.Proofs.Ytmdkfeojkjlpeaa
