/-
  Square roots: the search by halving steps, and counting up.
-/
import Derived.Test.YtibmdlnhchgjcaaNum
import Derived.Handy
namespace Go.Proofs.Ytibmdlnhchgjcaa
open Go.RowKit
set_option linter.unusedSimpArgs false
set_option linter.unusedVariables false
def P2 (s : Nat) : Prop := s = 0 ∨ ∃ j, s = 2 ^ j
theorem P2.half {s : Nat} (h : P2 s) (hs : 0 < s) : s = 1 ∨ (s = 2 * (s / 2) ∧ 0 < s / 2 ∧ P2 (s / 2)) := by
  rcases h with rfl | ⟨j, rfl⟩
  · omega
  · cases j with
    | zero => exact .inl rfl
    | succ j =>
      have e : 2 ^ (j + 1) / 2 = 2 ^ j := by rw [Nat.pow_succ]; omega
      have hp : 0 < 2 ^ j := Nat.pow_pos (by omega)
      exact .inr ⟨by rw [e, Nat.pow_succ]; omega, by rw [e]; exact hp, .inr ⟨j, e⟩⟩
/-- What the search for the root keeps: the root is at least k, below k + 2s. -/
def RootInv (n k s : Nat) : Prop := P2 s ∧ k * k ≤ n ∧ (0 < s → n < (k + 2 * s) * (k + 2 * s)) ∧ (s = 0 → n < (k + 1) * (k + 1)) ∧ k + 2 * s ≤ 65536
theorem RootInv.up {n k s : Nat} (h : RootInv n k s) (hs : 0 < s) (ht : (k + s) * (k + s) ≤ n) : RootInv n (k + s) (s / 2) := by
  obtain ⟨h1, h2, h3, h4, h5⟩ := h
  have h3 := h3 hs
  rcases h1.half hs with rfl | ⟨e, hp, hh⟩
  · refine ⟨.inl rfl, ht, fun h => absurd h (by omega), fun _ => ?_, by omega⟩
    have e : k + 2 * 1 = k + 1 + 1 := by omega
    rw [e] at h3; exact h3
  · refine ⟨hh, ht, fun _ => ?_, fun h => by omega, by omega⟩
    have e2 : k + 2 * s = k + s + 2 * (s / 2) := by omega
    rw [e2] at h3; exact h3
theorem RootInv.stay {n k s : Nat} (h : RootInv n k s) (hs : 0 < s) (ht : ¬ (k + s) * (k + s) ≤ n) : RootInv n k (s / 2) := by
  obtain ⟨h1, h2, h3, h4, h5⟩ := h
  rcases h1.half hs with rfl | ⟨e, hp, hh⟩
  · exact ⟨.inl rfl, h2, fun h => absurd h (by omega), fun _ => by omega, by omega⟩
  · refine ⟨hh, h2, fun _ => ?_, fun h => by omega, by omega⟩
    rw [← e]; omega
theorem RootInv.bd {n k s : Nat} (h : RootInv n k s) : (k + s) * (k + s) ≤ 4294967296 ∧ k + s ≤ 65536 :=
  ⟨Nat.mul_le_mul (show k + s ≤ 65536 by have := h.2.2.2.2; omega) (show k + s ≤ 65536 by have := h.2.2.2.2; omega), by have := h.2.2.2.2; omega⟩
theorem root_i (n : Nat) (w : World) (hn : n ≤ 8000000) : Calls Try.prog 53 #[.int .i64 (n : Int)] w fun e w' => e = .returned (.int .i64 (isq n : Int)) ∧ w = w' := by
  have h0 : RootInv n 0 32768 := ⟨.inr ⟨15, rfl⟩, by omega, fun _ => by omega, fun h => by omega, by omega⟩
  go_enter Try.func53, Try.ntmps53
  go_wp2
  go_loop [3, 4] (fun r t => ∃ k s : Nat, RootInv n k s ∧ s ≤ 32768 ∧ r = .int .i64 k ∧ t = .int .i64 s) (fun r t => (intOf t).toNat)
  case atStart => exact ⟨0, 32768, h0, by omega, rfl, rfl⟩
  case round =>
    obtain ⟨k, s, hinv, hs2, rfl, rfl⟩ := hrel
    obtain ⟨b1, b2⟩ := hinv.bd
    have hm : ((k : Int) + s) * ((k : Int) + s) = (((k + s) * (k + s) : Nat) : Int) := by push_cast; rfl
    have hl : 0 ≤ ((k : Int) + s) * ((k : Int) + s) := by omega
    have hu : ((k : Int) + s) * ((k : Int) + s) ≤ 4294967296 := by omega
    by_cases hs : s = 0
    · subst hs
      have he : k = isq n := isq_unique hinv.2.1 (hinv.2.2.2.1 rfl)
      have HE := Lib.hid he
      clear hm he hinv
      go_wp2
      go_ret
      exact ⟨ret_int (by rw [← HE.out]), rfl⟩
    · have hs0 : 0 < s := by omega
      have hs1 : (0 : Int) < s := by omega
      have hd : ((s / 2 : Nat) : Int) = (s : Int) / 2 := by push_cast; rfl
      have HD := Lib.hid hd
      by_cases hlt : (k + s) * (k + s) ≤ n
      · have ht : ((k : Int) + s) * ((k : Int) + s) ≤ (n : Int) := by omega
        have HN := Lib.hid (hinv.up hs0 hlt)
        clear hm hlt hinv hd h0
        go_wp2
        go_round
        case rel => exact ⟨k + s, s / 2, HN.out, by omega, by go_num, by rw [HD.out]⟩
        case measure => simp [intOf]; omega
      · have ht : ¬ ((k : Int) + s) * ((k : Int) + s) ≤ (n : Int) := by omega
        have HN := Lib.hid (hinv.stay hs0 hlt)
        clear hm hlt hinv hd h0
        go_wp2
        go_round
        case rel => exact ⟨k, s / 2, HN.out, by omega, rfl, by rw [HD.out]⟩
        case measure => simp [intOf]; omega
theorem root_c (n : Int) (w : World) (h1 : 0 ≤ n) (h2 : n ≤ 8000000) : Calls Try.prog 53 #[.int .i64 n] w fun e w' => e = .returned (.int .i64 (isq n.toNat : Int)) ∧ w = w' := by
  obtain ⟨m, rfl⟩ := Int.eq_ofNat_of_zero_le h1
  exact root_i m w (by omega)
theorem rootOf_s (n : Nat) (w : World) (hn : n ≤ 8000000) : Calls Try.prog 52 #[.int .i64 (n : Int)] w fun e w' => e = .returned (.int .i64 (isq n : Int)) ∧ w = w' := by
  have hb : ∀ r : Nat, r * r ≤ n → r ≤ 2829 := fun r h => by
    rcases Nat.lt_or_ge 2829 r with hlt | hge
    · have := Nat.mul_le_mul (show 2830 ≤ r from hlt) (show 2830 ≤ r from hlt); omega
    · exact hge
  have HB := Lib.hid hb
  clear hb
  go_enter Try.func52, Try.ntmps52
  go_wp2
  go_loop [3] (fun r => ∃ k : Nat, k * k ≤ n ∧ k ≤ 2829 ∧ r = .int .i64 k) (fun r => 3000 - (intOf r).toNat)
  case atStart => exact ⟨0, by omega, by omega, rfl⟩
  case round =>
    obtain ⟨k, hk, hk2, rfl⟩ := hrel
    have hm : ((k : Int) + 1) * ((k : Int) + 1) = (((k + 1) * (k + 1) : Nat) : Int) := by push_cast; rfl
    have hm2 : (k + 1) * (k + 1) ≤ 2830 * 2830 := Nat.mul_le_mul (by omega) (by omega)
    have hl : 0 ≤ ((k : Int) + 1) * ((k : Int) + 1) := by omega
    have hu : ((k : Int) + 1) * ((k : Int) + 1) ≤ 8008900 := by omega
    by_cases hlt : (k + 1) * (k + 1) ≤ n
    · have ht : ((k : Int) + 1) * ((k : Int) + 1) ≤ (n : Int) := by omega
      have HL := Lib.hid hlt
      clear hm hlt hm2
      go_wp2
      go_round
      case rel => exact ⟨k + 1, HL.out, HB.out _ HL.out, by go_num⟩
      case measure => simp [intOf]; omega
    · have ht : ¬ ((k : Int) + 1) * ((k : Int) + 1) ≤ (n : Int) := by omega
      have he : k = isq n := isq_unique hk (by omega)
      have HE := Lib.hid he
      clear hm hlt hm2 he
      go_wp2
      go_ret
      exact ⟨ret_int (by rw [← HE.out]), rfl⟩
theorem rootOf_c (n : Int) (w : World) (h1 : 0 ≤ n) (h2 : n ≤ 8000000) : Calls Try.prog 52 #[.int .i64 n] w fun e w' => e = .returned (.int .i64 (isq n.toNat : Int)) ∧ w = w' := by
  obtain ⟨m, rfl⟩ := Int.eq_ofNat_of_zero_le h1
  exact rootOf_s m w (by omega)
/-- The root of a number in 0..1000000; -1 for others. -/
def rootV (n : Int) : Int := if inB n 0 1000000 = true then (isq n.toNat : Int) else -1
theorem RootOf_i (n : Int) (w : World) : Calls Try.prog 23 #[.int .i64 n] w fun e w' => e = .returned (.int .i64 (rootV n)) ∧ w = w' := by
  cases h : inB n 0 1000000
  · go_enter Try.func23, Try.ntmps23
    go_wp2_with (go_at_call 48; refine (in_c _ _ _ _).mono ?_; rintro e w' ⟨rfl, rfl⟩)
    go_ret
    exact ⟨by simp [rootV, h], rfl⟩
  · obtain ⟨h1, h2⟩ := inB_true.1 h
    go_enter Try.func23, Try.ntmps23
    go_wp2_with (first | (go_at_call 48; refine (in_c _ _ _ _).mono ?_; rintro e w' ⟨rfl, rfl⟩) | (go_at_call 53; refine (root_c _ _ (by omega) (by omega)).mono ?_; rintro e w' ⟨rfl, rfl⟩))
    go_ret
    exact ⟨by simp [rootV, h], rfl⟩
theorem RootOf_s (n : Int) (w : World) : Calls Try.prog 22 #[.int .i64 n] w fun e w' => e = .returned (.int .i64 (rootV n)) ∧ w = w' := by
  cases h : inB n 0 1000000
  · go_enter Try.func22, Try.ntmps22
    go_wp2_with (go_at_call 46; refine (inRange_c _ _ _ _).mono ?_; rintro e w' ⟨rfl, rfl⟩)
    go_ret
    exact ⟨by simp [rootV, h], rfl⟩
  · obtain ⟨h1, h2⟩ := inB_true.1 h
    go_enter Try.func22, Try.ntmps22
    go_wp2_with (first | (go_at_call 46; refine (inRange_c _ _ _ _).mono ?_; rintro e w' ⟨rfl, rfl⟩) | (go_at_call 52; refine (rootOf_c _ _ (by omega) (by omega)).mono ?_; rintro e w' ⟨rfl, rfl⟩))
    go_ret
    exact ⟨by simp [rootV, h], rfl⟩
end Go.Proofs.Ytibmdlnhchgjcaa
