/-
  Marks of slices of pairs. (Conditions: the bounds of each theorem.)
-/
import Derived.Test.YtjigoidcmlebhaaSpan
namespace Go.Proofs.Ytjigoidcmlebhaa
open Go.RowKit
set_option linter.unusedSimpArgs false
set_option linter.unusedVariables false

set_option maxHeartbeats 1000000 in
theorem markSpanS_c (lo hi : Nat) (zs : List Int) (A : Option Addr) (n cap : Nat) (q : Int) (w : World) (h : OwnT 38 lo hi w A zs) (hn : zs.length = 2 * n) (hm : n ≤ 1000000000000) (q0 : 0 ≤ q) (q1 : q ≤ 1000000000000) :
    Calls Try.prog 26 #[.slice A n cap, .int .i64 q] w fun e w' => e = .returned (.int .i64 (q + 2 * (n : Int))) ∧ OwnT 38 lo hi w' A (upFrom q (2 * n)) ∧ Only lo hi w w' ∧ w'.heap.size = w.heap.size := by
  have hn0 := hn
  have HO := Lib.hid h
  clear h
  have hm1 : (n : Int) ≤ 1000000000000 := by omega
  go_enter Try.func26, Try.ntmps26
  go_wp2
  go_loopw [1, 5] (fun a i wr => ∃ k : Nat, k ≤ n ∧ i = .int .i64 k ∧ a = .int .i64 (q + 2 * (k : Int)) ∧ wr.heap.size = w.heap.size ∧ Only lo hi w wr ∧ (0 < zs.length → ∃ g, A = some ⟨g, 0, none⟩ ∧ lo ≤ g ∧ g < hi ∧ Row wr g 38 zs.length (fun j => .int .i64 (if j < 2 * k then q + (j : Int) else nth zs j)))) (fun _ i _ => n - (intOf i).toNat)
  case atStart =>
    refine ⟨0, Nat.zero_le _, rfl, by simp, rfl, Only.refl _ _ _, fun hn => ?_⟩
    obtain ⟨g, e, h1, h2, hr⟩ := HO.out hn
    exact ⟨g, e, h1, h2, hr.congr fun j hj => by simp⟩
  case round =>
    obtain ⟨k, hk, rfl, rfl, hsz, honly, hrow⟩ := hrel
    have HSz := Lib.hid hsz
    have HOnly := Lib.hid honly
    have HRow := Lib.hid hrow
    clear hsz honly hrow
    by_cases hlt : k < n
    · obtain ⟨g, rfl, h1, h2, hr⟩ := HRow.out (by omega)
      have d1 : wr.cell? ⟨g, k * 2, none⟩ = some (.int .i64 (nth zs (k * 2))) := by
        have := hr.cell (i := k * 2) (by omega)
        rwa [if_neg (by omega)] at this
      have d2 : wr.cell? ⟨g, k * 2 + 1, none⟩ = some (.int .i64 (nth zs (k * 2 + 1))) := by
        have := hr.cell (i := k * 2 + 1) (by omega)
        rwa [if_neg (by omega)] at this
      have f1 := hr.free (k * 2)
      have f2 := hr.free (k * 2 + 1)
      have HR := Lib.hid hr
      clear hr
      go_wp2
      go_roundw
      case rel =>
        refine ⟨k + 1, by omega, by go_num, by go_num, by simpa [World.setCell] using HSz.out, (HOnly.out.set (by simpa using h1) (by simpa using h2) _).set (by simpa using h1) (by simpa using h2) _, fun _ => ⟨g, rfl, h1, h2, ?_⟩⟩
        refine ((HR.out.set (i := k * 2) (by omega) _).set (i := k * 2 + 1) (by omega) _).congr fun j hj => ?_
        by_cases j1 : j = k * 2 + 1
        · subst j1; rw [if_pos rfl, if_pos (by omega)]; congr 1; omega
        · rw [if_neg j1]
          by_cases j2 : j = k * 2
          · subst j2; rw [if_pos rfl, if_pos (by omega)]; congr 1; omega
          · rw [if_neg j2]
            by_cases j3 : j < 2 * k
            · rw [if_pos j3, if_pos (by omega)]
            · rw [if_neg j3, if_neg (by omega)]
      case measure => simp [intOf]; omega
    · have he : k = n := by omega
      go_wp2
      go_ret
      refine ⟨ret_int (by omega), fun hn => ?_, HOnly.out, HSz.out⟩
      rw [upFrom_length] at hn
      obtain ⟨g, e, h1, h2, hr⟩ := HRow.out (by omega)
      rw [upFrom_length]
      refine ⟨g, e, h1, h2, ?_⟩
      rw [hn0] at hr
      exact hr.congr fun j hj => by rw [if_pos (by omega), nth_upFrom hj]
set_option maxHeartbeats 1000000 in
theorem heldSpanS_c (A : Option Addr) (n cap : Nat) (q : Int) (w : World) (h : Ints w A (upFrom q (2 * n))) (hm : n ≤ 1000000000000) (q0 : 0 ≤ q) (q1 : q ≤ 1000000000000) :
    Calls Try.prog 27 #[.slice A n cap, .int .i64 q] w fun e w' => e = .returned (.int .i64 (q + 2 * (n : Int))) ∧ w = w' := by
  have HO := Lib.hid h
  clear h
  have hm1 : (n : Int) ≤ 1000000000000 := by omega
  go_enter Try.func27, Try.ntmps27
  go_wp2
  go_loop [1, 5] (fun a i => ∃ k : Nat, k ≤ n ∧ i = .int .i64 k ∧ a = .int .i64 (q + 2 * (k : Int))) (fun _ i => n - (intOf i).toNat)
  case atStart => exact ⟨0, Nat.zero_le _, rfl, by simp⟩
  case round =>
    obtain ⟨k, hk, rfl, rfl⟩ := hrel
    by_cases hlt : k < n
    · obtain ⟨b, off, rfl, hb, hc⟩ := HO.out (by rw [upFrom_length]; omega)
      have s1 : w.cell? ⟨b, off + k * 2, none⟩ = some (.int .i64 (q + 2 * (k : Int))) := by
        rw [hc (k * 2) (by rw [upFrom_length]; omega), nth_upFrom (by omega)]; congr 2; omega
      have s2 : w.cell? ⟨b, off + k * 2 + 1, none⟩ = some (.int .i64 (q + 2 * (k : Int) + 1)) := by
        rw [show off + k * 2 + 1 = off + (k * 2 + 1) by omega, hc (k * 2 + 1) (by rw [upFrom_length]; omega), nth_upFrom (by omega)]; congr 2; omega
      clear hc
      go_wp2
      go_round
      case rel => exact ⟨k + 1, by omega, by go_num, by go_num⟩
      case measure => simp [intOf]; omega
    · have he : k = n := by omega
      go_wp2
      go_ret
      exact ⟨ret_int (by omega), rfl⟩
end Go.Proofs.Ytjigoidcmlebhaa
