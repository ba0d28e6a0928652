/-
  The walks of the laws on places that are drawn.
-/
import Derived.Test.YtjigoidcmlebhaaDrawL
import Derived.Test.YtjigoidcmlebhaaDash
namespace Go.Proofs.Ytjigoidcmlebhaa
open Go.RowKit
set_option linter.unusedSimpArgs false
set_option linter.unusedVariables false

theorem sum_c (zs : List Int) (A : Option Addr) (n cap : Nat) (w : World) (h : Ints w A zs) (hn : zs.length = n) (hp : Pat zs) :
    Calls Try.prog 18 #[.slice A n cap] w fun e w' => e = .returned (.int .i64 (pre zs zs.length)) ∧ w = w' := by
  subst hn
  obtain ⟨p1, p2, p3⟩ := hp
  have HP := Lib.hid (show Pat zs from ⟨p1, p2, p3⟩)
  obtain ⟨b, off, rfl, hb, hc⟩ := h p1
  have HC := Lib.hid hc
  clear hc h p3
  go_enter Try.func18, Try.ntmps18
  go_wp2
  go_loop [3, 4] (fun s i => ∃ k : Nat, k ≤ zs.length ∧ i = .int .i64 k ∧ s = .int .i64 (pre zs k)) (fun _ i => zs.length - (intOf i).toNat)
  case atStart => exact ⟨0, Nat.zero_le _, rfl, rfl⟩
  case round =>
    obtain ⟨k, hk, rfl, rfl⟩ := hrel
    have hbd := HP.out.bd k
    have hst := HP.out.step k
    by_cases hlt : k < zs.length
    · have hs : seg zs k = nth zs k := by unfold seg; rw [Nat.mod_eq_of_lt hlt]
      have HS := Lib.hid hs
      have hsg := HP.out.seg k
      rw [hs] at hsg
      have hck := HC.out k hlt
      clear hs
      go_wp2
      go_round
      case rel => exact ⟨k + 1, by omega, by go_num, by show Value.int .i64 _ = Value.int .i64 _; congr 1; show pre zs k + nth zs k = pre zs k + seg zs k; rw [HS.out]⟩
      case measure => simp [intOf]; omega
    · have he : k = zs.length := by omega
      go_wp2
      go_ret
      exact ⟨ret_int (by first | rfl | rw [he]), rfl⟩
theorem isD_no {zs : List Int} (h : patB zs = false) (a : Int) : isD zs a = false := by simp [isD, h]
theorem isD_in {zs : List Int} (h : patB zs = true) {a : Int} (h0 : 0 ≤ a) (h1 : a ≤ 400) : isD zs a = drB zs a := by simp [isD, h, inB_mk h0 h1]
theorem isD_zero {zs : List Int} (h : patB zs = true) : isD zs 0 = true := by
  have hp := patB_pat h
  rw [isD_in h (by omega) (by omega)]
  exact drB_first hp (by omega) (by have := (hp.2.2 0 hp.1).1; omega)
theorem isD_period {zs : List Int} (h : patB zs = true) {a : Int} (h0 : 0 ≤ a) (h1 : a + 2 * pre zs zs.length ≤ 400) : isD zs (a + 2 * pre zs zs.length) = isD zs a := by
  have hp := patB_pat h
  have hb := hp.bd zs.length
  rw [isD_in h (by omega) (by omega), isD_in h (by omega) (by omega)]
  exact drB_period hp h0
theorem isD_half {zs : List Int} (h : patB zs = true) {a : Int} (h0 : 0 ≤ a) (h1 : a + pre zs zs.length ≤ 400) : (isD zs (a + pre zs zs.length) == isD zs a) = (((zs.length : Int) % 2) == 0) := by
  have hp := patB_pat h
  have hb := hp.bd zs.length
  rw [isD_in h (by omega) (by omega), isD_in h (by omega) (by omega), Bool.eq_iff_iff, beq_iff_eq, beq_iff_eq, drB_half hp h0]
  omega
set_option maxHeartbeats 1000000 in
theorem walk_FnIsDrawn (w : World) (a0 : Option Addr) (len0 cap0 : Nat) (z0 : List Int) (w0 : IsRow .u8 w a0 len0 cap0 z0) :
    Calls Try.prog 5 #[.slice a0 len0 cap0] w fun e w' => e = .returned (.bool true) ∧ Below w.heap.size w w' := by
  have HC := Lib.hid w0.code
  clear w0
  by_cases hl : 1048576 < len0
  · have hl2 : (1048576 : Int) < (len0 : Int) := by omega
    go_enter Try.func5, Try.ntmps5
    go_wp2
    go_ret
    exact ⟨rfl, Below.refl _ _⟩
  have hl2 : ¬ (1048576 : Int) < (len0 : Int) := by omega
  go_enter Try.func5, Try.ntmps5
  go_wp2_with fail
  refine (DrawIsDrawn_c _ _ _ _ HC.out).mono ?_
  rintro e w1 ⟨zs, A1, cap1, v, hl1, hc1, hc2, hbd, hv1, hv2, rfl, hi1, hb1⟩
  have HI := Lib.hid hi1
  have HB := Lib.hid hb1
  clear hi1 hb1 hbd
  unfold maxLen at hc2
  cases hp : patB zs
  · have hn0 := isD_no hp 0
    go_wp2_with (first | (go_at_call 15; refine (IsDrawn_i zs _ _ _ _ _ HI.out rfl (by omega)).mono ?_; rintro e wz ⟨rfl, rfl⟩) | (go_at_call 13; refine (IsDrawn_s zs _ _ _ _ _ HI.out rfl (by omega)).mono ?_; rintro e wz ⟨rfl, rfl⟩))
    all_goals
      go_ret
      exact ⟨ret_b (by simp), HB.out⟩
  have HP := Lib.hid (patB_pat hp)
  have hz0 := isD_zero hp
  have hT := HP.out.bd zs.length
  have hlen := HP.out.2.1
  by_cases h3 : v < 0
  · go_wp2_with (first | (go_at_call 15; refine (IsDrawn_i zs _ _ _ _ _ HI.out rfl (by omega)).mono ?_; rintro e wz ⟨rfl, rfl⟩) | (go_at_call 13; refine (IsDrawn_s zs _ _ _ _ _ HI.out rfl (by omega)).mono ?_; rintro e wz ⟨rfl, rfl⟩) | (go_at_call 18; refine (sum_c zs _ _ _ _ HI.out rfl HP.out).mono ?_; rintro e wz ⟨rfl, rfl⟩))
    all_goals
      go_ret
      exact ⟨ret_b (by first | (simp; done) | (simp [*]; done)), HB.out⟩
  by_cases h4 : 400 < v + 2 * pre zs zs.length
  · go_wp2_with (first | (go_at_call 15; refine (IsDrawn_i zs _ _ _ _ _ HI.out rfl (by omega)).mono ?_; rintro e wz ⟨rfl, rfl⟩) | (go_at_call 13; refine (IsDrawn_s zs _ _ _ _ _ HI.out rfl (by omega)).mono ?_; rintro e wz ⟨rfl, rfl⟩) | (go_at_call 18; refine (sum_c zs _ _ _ _ HI.out rfl HP.out).mono ?_; rintro e wz ⟨rfl, rfl⟩))
    all_goals
      go_ret
      exact ⟨ret_b (by first | (simp; done) | (simp [*]; done)), HB.out⟩
  have he := isD_period hp (a := v) (by omega) (by omega)
  go_wp2_with (first | (go_at_call 15; refine (IsDrawn_i zs _ _ _ _ _ HI.out rfl (by omega)).mono ?_; rintro e wz ⟨rfl, rfl⟩) | (go_at_call 13; refine (IsDrawn_s zs _ _ _ _ _ HI.out rfl (by omega)).mono ?_; rintro e wz ⟨rfl, rfl⟩) | (go_at_call 18; refine (sum_c zs _ _ _ _ HI.out rfl HP.out).mono ?_; rintro e wz ⟨rfl, rfl⟩))
  all_goals
    go_ret
    exact ⟨ret_b (by first | (simp; done) | (simp [he]; done)), HB.out⟩

set_option maxHeartbeats 1000000 in
theorem walk_FnIsDrawnOdd (w : World) (a0 : Option Addr) (len0 cap0 : Nat) (z0 : List Int) (w0 : IsRow .u8 w a0 len0 cap0 z0) :
    Calls Try.prog 6 #[.slice a0 len0 cap0] w fun e w' => e = .returned (.bool true) ∧ Below w.heap.size w w' := by
  have HC := Lib.hid w0.code
  clear w0
  by_cases hl : 1048576 < len0
  · have hl2 : (1048576 : Int) < (len0 : Int) := by omega
    go_enter Try.func6, Try.ntmps6
    go_wp2
    go_ret
    exact ⟨rfl, Below.refl _ _⟩
  have hl2 : ¬ (1048576 : Int) < (len0 : Int) := by omega
  go_enter Try.func6, Try.ntmps6
  go_wp2_with fail
  refine (DrawIsDrawn_c _ _ _ _ HC.out).mono ?_
  rintro e w1 ⟨zs, A1, cap1, v, hl1, hc1, hc2, hbd, hv1, hv2, rfl, hi1, hb1⟩
  have HI := Lib.hid hi1
  have HB := Lib.hid hb1
  clear hi1 hb1 hbd
  unfold maxLen at hc2
  cases hp : patB zs
  · have hn0 := isD_no hp 0
    go_wp2_with (first | (go_at_call 15; refine (IsDrawn_i zs _ _ _ _ _ HI.out rfl (by omega)).mono ?_; rintro e wz ⟨rfl, rfl⟩) | (go_at_call 13; refine (IsDrawn_s zs _ _ _ _ _ HI.out rfl (by omega)).mono ?_; rintro e wz ⟨rfl, rfl⟩))
    all_goals
      go_ret
      exact ⟨ret_b (by simp), HB.out⟩
  have HP := Lib.hid (patB_pat hp)
  have hz0 := isD_zero hp
  have hT := HP.out.bd zs.length
  have hlen := HP.out.2.1
  by_cases h3 : v < 0
  · go_wp2_with (first | (go_at_call 15; refine (IsDrawn_i zs _ _ _ _ _ HI.out rfl (by omega)).mono ?_; rintro e wz ⟨rfl, rfl⟩) | (go_at_call 13; refine (IsDrawn_s zs _ _ _ _ _ HI.out rfl (by omega)).mono ?_; rintro e wz ⟨rfl, rfl⟩) | (go_at_call 18; refine (sum_c zs _ _ _ _ HI.out rfl HP.out).mono ?_; rintro e wz ⟨rfl, rfl⟩))
    all_goals
      go_ret
      exact ⟨ret_b (by first | (simp; done) | (simp [*]; done)), HB.out⟩
  by_cases h4 : 400 < v + pre zs zs.length
  · go_wp2_with (first | (go_at_call 15; refine (IsDrawn_i zs _ _ _ _ _ HI.out rfl (by omega)).mono ?_; rintro e wz ⟨rfl, rfl⟩) | (go_at_call 13; refine (IsDrawn_s zs _ _ _ _ _ HI.out rfl (by omega)).mono ?_; rintro e wz ⟨rfl, rfl⟩) | (go_at_call 18; refine (sum_c zs _ _ _ _ HI.out rfl HP.out).mono ?_; rintro e wz ⟨rfl, rfl⟩))
    all_goals
      go_ret
      exact ⟨ret_b (by first | (simp; done) | (simp [*]; done)), HB.out⟩
  have he := Lib.hid (isD_half hp (a := v) (by omega) (by omega))
  go_wp2_with (first | (go_at_call 15; refine (IsDrawn_i zs _ _ _ _ _ HI.out rfl (by omega)).mono ?_; rintro e wz ⟨rfl, rfl⟩) | (go_at_call 13; refine (IsDrawn_s zs _ _ _ _ _ HI.out rfl (by omega)).mono ?_; rintro e wz ⟨rfl, rfl⟩) | (go_at_call 18; refine (sum_c zs _ _ _ _ HI.out rfl HP.out).mono ?_; rintro e wz ⟨rfl, rfl⟩))
  all_goals
    go_ret
    exact ⟨ret_b (by first | (simp; done) | (rw [he.out]; simp; done) | (simp [he.out]; done)), HB.out⟩

set_option maxHeartbeats 1000000 in
theorem walk_FnIsDrawnFirst (w : World) (a0 : Option Addr) (len0 cap0 : Nat) (z0 : List Int) (w0 : IsRow .u8 w a0 len0 cap0 z0) :
    Calls Try.prog 4 #[.slice a0 len0 cap0] w fun e w' => e = .returned (.bool true) ∧ Below w.heap.size w w' := by
  have HC := Lib.hid w0.code
  clear w0
  by_cases hl : 1048576 < len0
  · have hl2 : (1048576 : Int) < (len0 : Int) := by omega
    go_enter Try.func4, Try.ntmps4
    go_wp2
    go_ret
    exact ⟨rfl, Below.refl _ _⟩
  have hl2 : ¬ (1048576 : Int) < (len0 : Int) := by omega
  go_enter Try.func4, Try.ntmps4
  go_wp2_with fail
  refine (DrawIsDrawn_c _ _ _ _ HC.out).mono ?_
  rintro e w1 ⟨zs, A1, cap1, v, hl1, hc1, hc2, hbd, hv1, hv2, rfl, hi1, hb1⟩
  have HI := Lib.hid hi1
  have HB := Lib.hid hb1
  clear hi1 hb1 hbd
  unfold maxLen at hc2
  cases hp : patB zs
  · have hn0 := isD_no hp 0
    go_wp2_with (first | (go_at_call 15; refine (IsDrawn_i zs _ _ _ _ _ HI.out rfl (by omega)).mono ?_; rintro e wz ⟨rfl, rfl⟩) | (go_at_call 13; refine (IsDrawn_s zs _ _ _ _ _ HI.out rfl (by omega)).mono ?_; rintro e wz ⟨rfl, rfl⟩))
    all_goals
      go_ret
      exact ⟨ret_b (by simp), HB.out⟩
  have HP := Lib.hid (patB_pat hp)
  have hz0 := isD_zero hp
  have hT := HP.out.bd zs.length
  have hlen := HP.out.2.1
  have hz := HP.out.2.2 0 HP.out.1
  have hlp := HP.out.1
  have hlpi : (0 : Int) < (zs.length : Int) := by omega
  have HX := Lib.hid (show ∀ i : Int, 0 ≤ i → i < nth zs 0 → isD zs i = true from fun i i0 i1 => by rw [isD_in hp i0 (by omega)]; exact drB_first HP.out i0 i1)
  have hY : isD zs (nth zs 0) = false := by rw [isD_in hp (by omega) (by omega)]; exact drB_second HP.out
  obtain ⟨bb, off, rfl, hb, hc⟩ := HI.out hlp
  have hck := hc 0 hlp
  have hck2 : w1.cell? ⟨bb, off, none⟩ = some (.int .i64 (nth zs 0)) := by simpa using hck
  clear hc
  go_wp2_with (first | (go_at_call 15; refine (IsDrawn_i zs _ _ _ _ _ HI.out rfl (by omega)).mono ?_; rintro e wz ⟨rfl, rfl⟩) | (go_at_call 13; refine (IsDrawn_s zs _ _ _ _ _ HI.out rfl (by omega)).mono ?_; rintro e wz ⟨rfl, rfl⟩))
  go_loop [6] (fun i => ∃ k : Nat, (k : Int) ≤ nth zs 0 ∧ i = .int .i64 k) (fun i => (nth zs 0).toNat - (intOf i).toNat)
  case atStart => exact ⟨0, by omega, rfl⟩
  case round =>
    obtain ⟨k, hk, rfl⟩ := hrel
    by_cases hlt : (k : Int) < nth zs 0
    · have hx := HX.out k (by omega) hlt
      go_wp2_with (first | (go_at_call 15; refine (IsDrawn_i zs _ _ _ _ _ HI.out rfl (by omega)).mono ?_; rintro e wz ⟨rfl, rfl⟩) | (go_at_call 13; refine (IsDrawn_s zs _ _ _ _ _ HI.out rfl (by omega)).mono ?_; rintro e wz ⟨rfl, rfl⟩))
      go_round
      case rel => exact ⟨k + 1, by omega, by go_num⟩
      case measure => simp [intOf]; omega
    · go_wp2_with (first | (go_at_call 15; refine (IsDrawn_i zs _ _ _ _ _ HI.out rfl (by omega)).mono ?_; rintro e wz ⟨rfl, rfl⟩) | (go_at_call 13; refine (IsDrawn_s zs _ _ _ _ _ HI.out rfl (by omega)).mono ?_; rintro e wz ⟨rfl, rfl⟩))
      go_ret
      exact ⟨ret_b (by simp [hY]), HB.out⟩

end Go.Proofs.Ytjigoidcmlebhaa
