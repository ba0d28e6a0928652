/-
  Slices of colors: comparisons and marks of them. (Conditions: the bounds of each theorem.)
-/
import Derived.Test.YtjfbbieacpnpkaaSpan
import Derived.Test.YtjfbbieacpnpkaaColor
namespace Go.Proofs.Ytjfbbieacpnpkaa
open Go.RowKit
set_option linter.unusedSimpArgs false
set_option linter.unusedVariables false

theorem color_info : (Try.prog.info? 69).map (fun i => (i.zero, i.size, i.bytes)) = some (some (.agg #[.int .i64 0, .int .i64 0, .int .i64 0, .int .i64 0]), 4, 32) := by kernel_rfl
/-- Element k of a slice of structs of four ints. -/
theorem four_cells {w : World} {b off n : Nat} {zs : List Int} (hl : zs.length = 4 * n) (hc : ∀ i, i < zs.length → w.cell? ⟨b, off + i, none⟩ = some (.int .i64 (nth zs i))) {k : Nat} (hk : k < n) :
    w.cell? ⟨b, off + k * 4, none⟩ = some (.int .i64 (nth zs (k * 4))) ∧ w.cell? ⟨b, off + k * 4 + 1, none⟩ = some (.int .i64 (nth zs (k * 4 + 1))) ∧ w.cell? ⟨b, off + k * 4 + 2, none⟩ = some (.int .i64 (nth zs (k * 4 + 2))) ∧ w.cell? ⟨b, off + k * 4 + 3, none⟩ = some (.int .i64 (nth zs (k * 4 + 3))) := by
  exact ⟨hc (k * 4) (by omega), hc (k * 4 + 1) (by omega), hc (k * 4 + 2) (by omega), hc (k * 4 + 3) (by omega)⟩
set_option maxHeartbeats 1000000 in
theorem eqColorS_c (zs : List Int) (k0 : Nat) (A B : Option Addr) (n ca m cb : Nat) (w : World) (ha : Ints w A zs) (hb : Ints w B zs) (hl : zs.length = 4 * k0) (hn : k0 = n) (hm : k0 = m) (hz : k0 ≤ 1000000000000) :
    Calls Try.prog 46 #[.slice A n ca, .slice B m cb] w fun e w' => e = .returned (.bool true) ∧ Below w.heap.size w w' := by
  subst hn
  subst hm
  have HA := Lib.hid ha
  have HB := Lib.hid hb
  clear ha hb
  have hm1 : (k0 : Int) ≤ 1000000000000 := by omega
  go_enter Try.func46, Try.ntmps46
  go_wp2
  go_loopw [5] (fun i wr => ∃ k : Nat, k ≤ k0 ∧ i = .int .i64 k ∧ Below w.heap.size w wr) (fun i _ => k0 - (intOf i).toNat)
  case atStart => exact ⟨0, Nat.zero_le _, rfl, Below.refl _ _⟩
  case round =>
    obtain ⟨k, hk, rfl, hbel⟩ := hrel
    have HBel := Lib.hid hbel
    have hsr := hbel.size
    clear hbel
    by_cases hlt : k < k0
    · obtain ⟨b1, o1, rfl, q1, c1⟩ := HA.out (by omega)
      obtain ⟨b2, o2, rfl, q2, c2⟩ := HB.out (by omega)
      obtain ⟨s0, s1, s2, s3⟩ := four_cells (w := wr) hl (fun i hi => (HBel.out.cell (p := ⟨b1, o1 + i, none⟩) q1).trans (c1 i hi)) hlt
      obtain ⟨r0, r1, r2, r3⟩ := four_cells (w := wr) hl (fun i hi => (HBel.out.cell (p := ⟨b2, o2 + i, none⟩) q2).trans (c2 i hi)) hlt
      have hl1 : (k : Int) < (k0 : Int) := by omega
      have hl0 : (0 : Int) ≤ (k : Int) := by omega
      clear c1 c2
      go_wp2
      go_region_held3 (fun w' => w'.cell? ⟨b1, o1 + k * 4, none⟩ = some (.int .i64 (nth zs (k * 4))) ∧ w'.cell? ⟨b1, o1 + k * 4 + 1, none⟩ = some (.int .i64 (nth zs (k * 4 + 1))) ∧ w'.cell? ⟨b1, o1 + k * 4 + 2, none⟩ = some (.int .i64 (nth zs (k * 4 + 2))) ∧ w'.cell? ⟨b1, o1 + k * 4 + 3, none⟩ = some (.int .i64 (nth zs (k * 4 + 3))) ∧ w'.cell? ⟨b2, o2 + k * 4, none⟩ = some (.int .i64 (nth zs (k * 4))) ∧ w'.cell? ⟨b2, o2 + k * 4 + 1, none⟩ = some (.int .i64 (nth zs (k * 4 + 1))) ∧ w'.cell? ⟨b2, o2 + k * 4 + 2, none⟩ = some (.int .i64 (nth zs (k * 4 + 2))) ∧ w'.cell? ⟨b2, o2 + k * 4 + 3, none⟩ = some (.int .i64 (nth zs (k * 4 + 3)))) ((repeat' apply And.intro) <;> (first | ((repeat (first | (with_reducible assumption) | (with_reducible refine cell_keepD ?_) | (with_reducible refine cell_keepA ?_ _))); done) | (go_cell; done)))
        (first | (go_at_call 56; refine (eqColor_c _ _ _ _ _).mono ?_; rintro e wz ⟨rfl, rfl⟩))
      go_wp2
      go_roundw
      case rel => exact ⟨k + 1, by omega, by go_num, by have hhh := HBel.out; go_grown⟩
      case measure => simp [intOf]; omega
    · go_wp2
      go_ret
      exact ⟨rfl, HBel.out⟩
set_option maxHeartbeats 2000000 in
theorem markColorS_c (lo hi : Nat) (zs : List Int) (A : Option Addr) (n cap : Nat) (q : Int) (w : World) (h : OwnT 69 lo hi w A zs) (hn : zs.length = 4 * n) (hm : n ≤ 1000000000000) (q0 : 0 ≤ q) (q1 : q ≤ 1000000000000) :
    Calls Try.prog 47 #[.slice A n cap, .int .i64 q] w fun e w' => e = .returned (.int .i64 (q + 4 * (n : Int))) ∧ OwnT 69 lo hi w' A (upFrom q (4 * n)) ∧ Only lo hi w w' ∧ w'.heap.size = w.heap.size := by
  have hn0 := hn
  have HO := Lib.hid h
  clear h
  have hm1 : (n : Int) ≤ 1000000000000 := by omega
  go_enter Try.func47, Try.ntmps47
  go_wp2
  go_loopw [1, 5] (fun a i wr => ∃ k : Nat, k ≤ n ∧ i = .int .i64 k ∧ a = .int .i64 (q + 4 * (k : Int)) ∧ wr.heap.size = w.heap.size ∧ Only lo hi w wr ∧ (0 < zs.length → ∃ g, A = some ⟨g, 0, none⟩ ∧ lo ≤ g ∧ g < hi ∧ Row wr g 69 zs.length (fun j => .int .i64 (if j < 4 * k then q + (j : Int) else nth zs j)))) (fun _ i _ => n - (intOf i).toNat)
  case atStart =>
    refine ⟨0, Nat.zero_le _, rfl, by simp, rfl, Only.refl _ _ _, fun hn => ?_⟩
    obtain ⟨g, e, h1, h2, hr⟩ := HO.out hn
    exact ⟨g, e, h1, h2, hr.congr fun j hj => by simp⟩
  case round =>
    obtain ⟨k, hk, rfl, rfl, hsz, honly, hrow⟩ := hrel
    have HSz := Lib.hid hsz
    have HOnly := Lib.hid honly
    have HRow := Lib.hid hrow
    clear hsz honly hrow
    by_cases hlt : k < n
    · obtain ⟨g, rfl, h1, h2, hr⟩ := HRow.out (by omega)
      have d0 : wr.cell? ⟨g, k * 4, none⟩ = some (.int .i64 (nth zs (k * 4))) := by
        have := hr.cell (i := k * 4) (by omega)
        rwa [if_neg (by omega)] at this
      have f0 := hr.free (k * 4)
      have d1 : wr.cell? ⟨g, k * 4 + 1, none⟩ = some (.int .i64 (nth zs (k * 4 + 1))) := by
        have := hr.cell (i := k * 4 + 1) (by omega)
        rwa [if_neg (by omega)] at this
      have f1 := hr.free (k * 4 + 1)
      have d2 : wr.cell? ⟨g, k * 4 + 2, none⟩ = some (.int .i64 (nth zs (k * 4 + 2))) := by
        have := hr.cell (i := k * 4 + 2) (by omega)
        rwa [if_neg (by omega)] at this
      have f2 := hr.free (k * 4 + 2)
      have d3 : wr.cell? ⟨g, k * 4 + 3, none⟩ = some (.int .i64 (nth zs (k * 4 + 3))) := by
        have := hr.cell (i := k * 4 + 3) (by omega)
        rwa [if_neg (by omega)] at this
      have f3 := hr.free (k * 4 + 3)
      have HR := Lib.hid hr
      clear hr
      go_wp2
      go_roundw
      case rel =>
        refine ⟨k + 1, by omega, by go_num, by go_num, by simpa [World.setCell] using HSz.out, ((((HOnly.out.set (by simpa using h1) (by simpa using h2) _).set (by simpa using h1) (by simpa using h2) _).set (by simpa using h1) (by simpa using h2) _).set (by simpa using h1) (by simpa using h2) _), fun _ => ⟨g, rfl, h1, h2, ?_⟩⟩
        refine ((((HR.out.set (i := k * 4) (by omega) _).set (i := k * 4 + 1) (by omega) _).set (i := k * 4 + 2) (by omega) _).set (i := k * 4 + 3) (by omega) _).congr fun j hj => ?_
        by_cases jj : j < 4 * k
        · rw [if_neg (show ¬ j = k * 4 + 3 by omega)]; rw [if_neg (show ¬ j = k * 4 + 2 by omega)]; rw [if_neg (show ¬ j = k * 4 + 1 by omega)]; rw [if_neg (show ¬ j = k * 4 by omega)]; rw [if_pos jj, if_pos (by omega)]
        · by_cases je : 4 * k + 4 ≤ j
          · rw [if_neg (show ¬ j = k * 4 + 3 by omega)]; rw [if_neg (show ¬ j = k * 4 + 2 by omega)]; rw [if_neg (show ¬ j = k * 4 + 1 by omega)]; rw [if_neg (show ¬ j = k * 4 by omega)]; rw [if_neg jj, if_neg (by omega)]
          · obtain rfl | rfl | rfl | rfl : j = k * 4 ∨ j = k * 4 + 1 ∨ j = k * 4 + 2 ∨ j = k * 4 + 3 := by omega
            · rw [if_neg (show ¬ k * 4 = k * 4 + 3 by omega)]; rw [if_neg (show ¬ k * 4 = k * 4 + 2 by omega)]; rw [if_neg (show ¬ k * 4 = k * 4 + 1 by omega)]; rw [if_pos rfl, if_pos (by omega)]; congr 1; omega
            · rw [if_neg (show ¬ k * 4 + 1 = k * 4 + 3 by omega)]; rw [if_neg (show ¬ k * 4 + 1 = k * 4 + 2 by omega)]; rw [if_pos rfl, if_pos (by omega)]; congr 1; omega
            · rw [if_neg (show ¬ k * 4 + 2 = k * 4 + 3 by omega)]; rw [if_pos rfl, if_pos (by omega)]; congr 1; omega
            · rw [if_pos rfl, if_pos (by omega)]; congr 1; omega
      case measure => simp [intOf]; omega
    · have he : k = n := by omega
      go_wp2
      go_ret
      refine ⟨ret_int (by omega), fun hn => ?_, HOnly.out, HSz.out⟩
      rw [upFrom_length] at hn
      obtain ⟨g, e, h1, h2, hr⟩ := HRow.out (by omega)
      rw [upFrom_length]
      refine ⟨g, e, h1, h2, ?_⟩
      rw [hn0] at hr
      exact hr.congr fun j hj => by rw [if_pos (by omega), nth_upFrom hj]
set_option maxHeartbeats 1000000 in
theorem heldColorS_c (A : Option Addr) (n cap : Nat) (q : Int) (w : World) (h : Ints w A (upFrom q (4 * n))) (hm : n ≤ 1000000000000) (q0 : 0 ≤ q) (q1 : q ≤ 1000000000000) :
    Calls Try.prog 48 #[.slice A n cap, .int .i64 q] w fun e w' => e = .returned (.int .i64 (q + 4 * (n : Int))) ∧ w = w' := by
  have HO := Lib.hid h
  clear h
  have hm1 : (n : Int) ≤ 1000000000000 := by omega
  go_enter Try.func48, Try.ntmps48
  go_wp2
  go_loop [1, 5] (fun a i => ∃ k : Nat, k ≤ n ∧ i = .int .i64 k ∧ a = .int .i64 (q + 4 * (k : Int))) (fun _ i => n - (intOf i).toNat)
  case atStart => exact ⟨0, Nat.zero_le _, rfl, by simp⟩
  case round =>
    obtain ⟨k, hk, rfl, rfl⟩ := hrel
    by_cases hlt : k < n
    · obtain ⟨b, off, rfl, hb, hc⟩ := HO.out (by rw [upFrom_length]; omega)
      have s0 : w.cell? ⟨b, off + k * 4, none⟩ = some (.int .i64 (q + 4 * (k : Int))) := by
        rw [hc (k * 4) (by rw [upFrom_length]; omega), nth_upFrom (by omega)]; congr 2; omega
      have s1 : w.cell? ⟨b, off + k * 4 + 1, none⟩ = some (.int .i64 (q + 4 * (k : Int) + 1)) := by
        rw [show off + k * 4 + 1 = off + (k * 4 + 1) by omega, hc (k * 4 + 1) (by rw [upFrom_length]; omega), nth_upFrom (by omega)]; congr 2; omega
      have s2 : w.cell? ⟨b, off + k * 4 + 2, none⟩ = some (.int .i64 (q + 4 * (k : Int) + 2)) := by
        rw [show off + k * 4 + 2 = off + (k * 4 + 2) by omega, hc (k * 4 + 2) (by rw [upFrom_length]; omega), nth_upFrom (by omega)]; congr 2; omega
      have s3 : w.cell? ⟨b, off + k * 4 + 3, none⟩ = some (.int .i64 (q + 4 * (k : Int) + 3)) := by
        rw [show off + k * 4 + 3 = off + (k * 4 + 3) by omega, hc (k * 4 + 3) (by rw [upFrom_length]; omega), nth_upFrom (by omega)]; congr 2; omega
      clear hc
      go_wp2
      go_round
      case rel => exact ⟨k + 1, by omega, by go_num, by go_num⟩
      case measure => simp [intOf]; omega
    · have he : k = n := by omega
      go_wp2
      go_ret
      exact ⟨ret_int (by omega), rfl⟩
end Go.Proofs.Ytjfbbieacpnpkaa
