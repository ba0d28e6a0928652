/-
  The walk of FnTileCount: it returns true for every code.
-/
import Derived.Test.YtkcmjpbnjdedlaaDraw
import Derived.Test.YtkcmjpbnjdedlaaTileBox
namespace Go.Proofs.Ytkcmjpbnjdedlaa
open Go.RowKit
set_option linter.unusedSimpArgs false
set_option linter.unusedVariables false

/-- A tile's area; the area of the first k tiles. -/
def tileA (u v k : Int) : Int := (min (k % acr u * 4 + 4) u - k % acr u * 4) * (min (k / acr u * 4 + 4) v - k / acr u * 4)
def areaUp (u v : Int) : Nat → Int
  | 0 => 0
  | k + 1 => areaUp u v k + tileA u v k
theorem area_all (u v : Fin 13) : 0 < u.val → 0 < v.val → areaUp (u.val : Int) (v.val : Int) (acr (u.val : Int) * acr (v.val : Int)).toNat = (u.val : Int) * (v.val : Int) := by
  revert u v; decide +kernel
theorem area_is {u v : Int} (h : sizedB u v = true) : areaUp u v (acr u * acr v).toNat = u * v := by
  obtain ⟨a1, a2, b1, b2⟩ := sizedB_true h
  obtain ⟨m, rfl⟩ := Int.eq_ofNat_of_zero_le (show 0 ≤ u by omega)
  obtain ⟨n, rfl⟩ := Int.eq_ofNat_of_zero_le (show 0 ≤ v by omega)
  exact area_all ⟨m, by omega⟩ ⟨n, by omega⟩ (by simp only []; omega) (by simp only []; omega)
theorem tile_row {t x y : Int} (x1 : 1 ≤ x) (t1 : 0 ≤ t) (h : t ≤ x * y - 1) : t / x ≤ y - 1 := by
  have : t / x < y := by rw [Int.ediv_lt_iff_lt_mul (by omega), Int.mul_comm]; omega
  omega
theorem mul4 {a b : Int} (a1 : 0 ≤ a) (a2 : a ≤ 4) (b1 : 0 ≤ b) (b2 : b ≤ 4) : 0 ≤ a * b ∧ a * b ≤ 16 := by
  have : a = 0 ∨ a = 1 ∨ a = 2 ∨ a = 3 ∨ a = 4 := by omega
  rcases this with rfl | rfl | rfl | rfl | rfl <;> omega
/-- The two sides of a tile. -/
theorem sides {u v : Int} (h : sizedB u v = true) {k : Int} (k0 : 0 ≤ k) (k1 : k ≤ acr u * acr v - 1) : (0 ≤ min (k % acr u * 4 + 4) u - k % acr u * 4 ∧ min (k % acr u * 4 + 4) u - k % acr u * 4 ≤ 4) ∧ (0 ≤ min (k / acr u * 4 + 4) v - k / acr u * 4 ∧ min (k / acr u * 4 + 4) v - k / acr u * 4 ≤ 4) := by
  obtain ⟨x1, x2, y1, y2, m1, m2⟩ := tile_bd h
  obtain ⟨a1, a2, b1, b2⟩ := sizedB_true h
  have h1 := Int.emod_nonneg k (show acr u ≠ 0 by omega)
  have h2 := Int.emod_lt_of_pos k (show 0 < acr u by omega)
  have h3 : 0 ≤ k / acr u := Int.ediv_nonneg k0 (by omega)
  have h4 := tile_row x1 k0 k1
  have e1 : acr u = (u + 4 - 1) / 4 := rfl
  have e2 : acr v = (v + 4 - 1) / 4 := rfl
  omega
theorem area_bd {u v : Int} (h : sizedB u v = true) {k : Nat} (hk : (k : Int) ≤ acr u * acr v) : 0 ≤ areaUp u v k ∧ areaUp u v k ≤ 16 * (k : Int) := by
  induction k with
  | zero => simp [areaUp]
  | succ k ih =>
    obtain ⟨⟨s1, s2⟩, s3, s4⟩ := sides h (k := (k : Int)) (by omega) (by omega)
    have := mul4 s1 s2 s3 s4
    have := ih (by omega)
    simp only [areaUp, tileA]; omega
set_option maxHeartbeats 40000000 in
theorem walk_FnTileCount (w : World) (a0 : Option Addr) (len0 cap0 : Nat) (z0 : List Int) (w0 : IsRow .u8 w a0 len0 cap0 z0) :
    Calls Try.prog 8 #[.slice a0 len0 cap0] w fun e w' => e = .returned (.bool true) ∧ Below w.heap.size w w' := by
  have HC := Lib.hid w0.code
  clear w0
  by_cases hl : 1048576 < len0
  · have hl2 : (1048576 : Int) < (len0 : Int) := by omega
    go_enter Try.func8, Try.ntmps8
    go_wp2
    go_ret
    exact ⟨rfl, Below.refl _ _⟩
  have hl2 : ¬ (1048576 : Int) < (len0 : Int) := by omega
  go_enter Try.func8, Try.ntmps8
  go_wp2_with fail
  refine (DrawTileCount_c _ _ _ _ HC.out).mono ?_
  rintro e w1 ⟨u, v, q1, rfl, hb1⟩
  have HB1 := Lib.hid hb1
  have hs1 := hb1.size
  clear hb1
  cases hz : sizedB u v
  · have hc : tileCount u v = -1 := by simp [tileCount, hz]
    go_wp2_with (first | (go_at_call 28; refine (TileCount_i _ _ _).mono ?_; rintro e wz ⟨rfl, rfl⟩) | (go_at_call 29; refine (TileCount_s _ _ _).mono ?_; rintro e wz ⟨rfl, rfl⟩))
    all_goals
      go_ret
      exact ⟨ret_b (by simp), HB1.out⟩
  have hc : tileCount u v = acr u * acr v := by simp [tileCount, hz]
  obtain ⟨x1, x2, y1, y2, m1, m2⟩ := tile_bd hz
  obtain ⟨a1, a2, b1, b2⟩ := sizedB_true hz
  go_wp2_with (first | (go_at_call 28; refine (TileCount_i _ _ _).mono ?_; rintro e wz ⟨rfl, rfl⟩) | (go_at_call 29; refine (TileCount_s _ _ _).mono ?_; rintro e wz ⟨rfl, rfl⟩))
  go_loopw [6, 7] (fun s i wr => ∃ k : Nat, (k : Int) ≤ acr u * acr v ∧ i = .int .i64 k ∧ s = .int .i64 (areaUp u v k) ∧ Below w.heap.size w wr) (fun _ i _ => 9 - (intOf i).toNat)
  case atStart => exact ⟨0, by omega, rfl, rfl, HB1.out⟩
  case round =>
    obtain ⟨k, hk, rfl, rfl, hbel⟩ := hrel
    have HBel := Lib.hid hbel
    have hsb := hbel.size
    clear hbel
    obtain ⟨z1, z2⟩ := area_bd hz hk
    by_cases hlt : (k : Int) < acr u * acr v
    · obtain ⟨⟨s1, s2⟩, s3, s4⟩ := sides hz (k := (k : Int)) (by omega) (by omega)
      obtain ⟨p1, p2⟩ := mul4 s1 s2 s3 s4
      have h1 := Int.emod_nonneg (k : Int) (show acr u ≠ 0 by omega)
      have h2 := Int.emod_lt_of_pos (k : Int) (show 0 < acr u by omega)
      have h3 : 0 ≤ (k : Int) / acr u := Int.ediv_nonneg (by omega) (by omega)
      have h4 := tile_row (t := (k : Int)) x1 (by omega) (show (k : Int) ≤ acr u * acr v - 1 by omega)
      have hv : inB (k : Int) 0 (acr u * acr v - 1) = true := inB_mk (by omega) (by omega)
      have HV := Lib.hid hv
      have HZ := Lib.hid hz
      clear hv hz
      go_wp2_with fail
      refine (TileBox_i_ok u v _ _ HZ.out HV.out).mono ?_
      rintro e w2 ⟨rfl, hb2⟩
      have HB2 := Lib.hid (show Below w.heap.size w w2 from below_then (by have hhh := HBel.out; go_grown) hb2)
      have hs2 := hb2.size
      clear hb2
      go_wp2
      go_roundw
      case rel => exact ⟨k + 1, by omega, by go_num, rfl, by have hhh := HB2.out; go_grown⟩
      case measure => simp [intOf]; omega
    · have he : (k : Int) = acr u * acr v := by omega
      have hE := area_is hz
      rw [← he] at hE
      have hE2 : areaUp u v k = u * v := by simpa using hE
      obtain ⟨q1, q2⟩ : 0 ≤ u * v ∧ u * v ≤ 144 := by rw [← hE2]; omega
      have hn : (sizedB u v && inB (acr u * acr v) 0 (acr u * acr v - 1)) = false := by rw [inB_hi (by omega)]; simp
      have HN := Lib.hid hn
      have HE2 := Lib.hid hE2
      have HK := Lib.hid he
      clear hE hE2 he hn
      go_wp2_with fail
      refine (TileBox_i_no u v _ _ HN.out).mono ?_
      rintro e w2 ⟨rfl, hb2⟩
      have HB2 := Lib.hid (show Below w.heap.size w w2 from below_then (by have hhh := HBel.out; go_grown) hb2)
      have hs2 := hb2.size
      clear hb2
      have hE2 := HE2.out
      go_wp2
      all_goals
        go_ret
        exact ⟨ret_b (by simp [HE2.out]), by have hhh := HB2.out; go_grown⟩

end Go.Proofs.Ytkcmjpbnjdedlaa
