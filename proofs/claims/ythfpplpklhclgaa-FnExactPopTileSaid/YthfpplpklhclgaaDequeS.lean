/-
  Which queues the reference calls valid. (Conditions: the bounds of each theorem.)
-/
import Derived.Test.YthfpplpklhclgaaDequeI
namespace Go.Proofs.Ythfpplpklhclgaa
open Go.RowKit
set_option linter.unusedSimpArgs false
set_option linter.unusedVariables false

set_option maxHeartbeats 2000000 in
theorem filled_c (zs : List Int) (A : Option Addr) (n cap : Nat) (a b : Int) (w : World) (h : Ints w A zs) (hn : zs.length = n) (hl : zs.length = 16) (a0 : 0 ≤ a) (a1 : a ≤ 500) (b0 : a ≤ b) (b1 : b ≤ 1000) :
    Calls Try.prog 35 #[.agg #[.slice A n cap, .int .i64 a, .int .i64 b]] w fun e w' => e = .returned (.bool (fillB a (cntN a b) zs 16)) ∧ w.alloc (.cells #[.slice A n cap, .int .i64 a, .int .i64 b] 27) = w' := by
  subst hn
  have HI := Lib.hid h
  have hlen : ∀ i : Nat, i < 16 → i < zs.length := fun i hi => by omega
  have HLen := Lib.hid hlen
  have hcn1 : (cntN a b : Int) ≤ b - a := by unfold cntN; omega
  have hcn2 : b - a ≤ (cntN a b : Int) := by unfold cntN; omega
  clear h hlen
  go_enter Try.func35, Try.ntmps35
  go_wp2
  go_loop [3] (fun i => ∃ m : Nat, m ≤ 16 ∧ i = .int .i64 m ∧ fillB a (cntN a b) zs m = true) (fun i => 16 - (intOf i).toNat)
  case atStart => exact ⟨0, by omega, rfl, rfl⟩
  case round =>
    obtain ⟨m, hm16, rfl, hall⟩ := hrel
    have HAll := Lib.hid hall
    clear hall
    by_cases hml : m < 16
    · obtain ⟨bb, off, rfl, hbb, hcc⟩ := HI.out (by omega)
      have hsrc := hcc m (HLen.out m hml)
      clear hcc
      have hm0 : (0 : Int) ≤ (m : Int) := by omega
      have hm1 : (m : Int) < 16 := by omega
      go_wp2
      go_loop [4, 5] (fun u i => ∃ k : Nat, k ≤ cntN a b ∧ i = .int .i64 (a + (k : Int)) ∧ u = .bool (usedB a k m)) (fun _ i => (b - intOf i).toNat)
      case atStart => exact ⟨0, Nat.zero_le _, by simp, rfl⟩
      case round =>
        obtain ⟨k, hk, rfl, rfl⟩ := hrel
        by_cases hlt : k < cntN a b
        · obtain ⟨q, hq, hq1, hq2⟩ := ring_q k a0
          have HU := Lib.hid (usedB_succ a k m)
          have HQ := Lib.hid hq
          clear hq
          cases hu : usedB a k m <;> by_cases hqm : q = m
          all_goals
            have hqi : ((q : Int) == (m : Int)) = decide (q = m) := by rw [Bool.eq_iff_iff, beq_iff_eq, decide_eq_true_eq]; omega
            have HQM := Lib.hid hqm
            first
              | (have hqd : decide (q = m) = true := by rw [decide_eq_true_eq]; exact hqm)
              | (have hqd : decide (q = m) = false := by rw [decide_eq_false_iff_not]; exact hqm)
            rw [hqd] at hqi
            clear hqm hqd
            go_wp2
            go_round
            case rel => exact ⟨k + 1, by omega, by go_num, by rw [HU.out, hu, ← HQ.out]; simp [HQM.out]⟩
            case measure => simp [intOf]; omega
        · have he : k = cntN a b := by omega
          subst he
          cases hs : (usedB a (cntN a b) m == decide (0 ≤ nth zs m))
          · have HNo := Lib.hid (fillB_no hml hs)
            cases hu : usedB a (cntN a b) m <;> by_cases hv : 0 ≤ nth zs m
            all_goals first
              | (exfalso; simp [hu, hv] at hs; done)
              | (go_wp2
                 go_ret
                 exact ⟨ret_b HNo.out.symm, rfl⟩)
          · have HYes := Lib.hid (show fillB a (cntN a b) zs (m + 1) = true by simp only [fillB, HAll.out, hs, Bool.and_self])
            cases hu : usedB a (cntN a b) m <;> by_cases hv : 0 ≤ nth zs m
            all_goals first
              | (exfalso; simp [hu, hv] at hs; done)
              | (go_wp2
                 go_round
                 case rel => exact ⟨m + 1, by omega, by go_num, HYes.out⟩
                 case measure => simp [intOf]; omega)
    · have he : m = 16 := by omega
      subst he
      go_wp2
      go_ret
      exact ⟨ret_b HAll.out.symm, rfl⟩
set_option maxHeartbeats 1000000 in
theorem validDeque_s (zs : List Int) (A : Option Addr) (n cap : Nat) (a b : Int) (w : World) (h : Ints w A zs) (hn : zs.length = n) (hm : zs.length ≤ 1000000000000) :
    Calls Try.prog 27 #[.agg #[.slice A n cap, .int .i64 a, .int .i64 b]] w fun e w' => e = .returned (.bool (devB zs a b)) ∧ Below w.heap.size w w' := by
  subst hn
  have HI := Lib.hid h
  clear h
  have HV := Lib.hid (devB_spec zs a b)
  by_cases hl : zs.length = 16
  case neg =>
    have hq : ¬ ((zs.length : Int) = 16) := by omega
    have HE := Lib.hid (devB_len (a := a) (b := b) hl)
    clear hl
    go_enter Try.func27, Try.ntmps27
    go_wp2
    go_ret
    exact ⟨ret_b HE.out.symm, by go_grown⟩
  cases h1 : allInB zs (-1) 99
  · have HE := Lib.hid (show devB zs a b = false by rw [HV.out, h1]; simp)
    go_enter Try.func27, Try.ntmps27
    go_wp2_with (first | (go_at_call 34; refine (allIn_c zs _ _ _ _ _ _ (HI.out.below (by go_grown)) (by omega) (by omega)).mono ?_; rintro e w' ⟨rfl, rfl⟩) | (go_at_call 31; refine (inRange_c _ _ _ _).mono ?_; rintro e w' ⟨rfl, rfl⟩))
    go_ret
    exact ⟨ret_b HE.out.symm, by go_grown⟩
  cases h2 : inB a 0 500
  · have HE := Lib.hid (devB_top (zs := zs) (b := b) h2)
    go_enter Try.func27, Try.ntmps27
    go_wp2_with (first | (go_at_call 34; refine (allIn_c zs _ _ _ _ _ _ (HI.out.below (by go_grown)) (by omega) (by omega)).mono ?_; rintro e w' ⟨rfl, rfl⟩) | (go_at_call 31; refine (inRange_c _ _ _ _).mono ?_; rintro e w' ⟨rfl, rfl⟩))
    go_ret
    exact ⟨ret_b HE.out.symm, by go_grown⟩
  obtain ⟨a0, a1⟩ := inB_true.1 h2
  cases h3 : inB b a (a + 16)
  · have HE := Lib.hid (show devB zs a b = false by rw [HV.out, h3]; simp)
    go_enter Try.func27, Try.ntmps27
    go_wp2_with (first | (go_at_call 34; refine (allIn_c zs _ _ _ _ _ _ (HI.out.below (by go_grown)) (by omega) (by omega)).mono ?_; rintro e w' ⟨rfl, rfl⟩) | (go_at_call 31; refine (inRange_c _ _ _ _).mono ?_; rintro e w' ⟨rfl, rfl⟩))
    go_ret
    exact ⟨ret_b HE.out.symm, by go_grown⟩
  obtain ⟨b0, b1⟩ := inB_true.1 h3
  by_cases h4 : b ≤ 500
  · have HE := Lib.hid (show devB zs a b = fillB a (cntN a b) zs 16 by rw [HV.out, h1, h2, h3]; simp [hl, h4])
    go_enter Try.func27, Try.ntmps27
    go_wp2_with (first | (go_at_call 34; refine (allIn_c zs _ _ _ _ _ _ (HI.out.below (by go_grown)) (by omega) (by omega)).mono ?_; rintro e w' ⟨rfl, rfl⟩) | (go_at_call 31; refine (inRange_c _ _ _ _).mono ?_; rintro e w' ⟨rfl, rfl⟩) | (go_at_call 35; refine (filled_c zs _ _ _ _ _ _ (HI.out.below (by go_grown)) (by omega) hl a0 a1 b0 (by omega)).mono ?_; rintro e w' ⟨rfl, rfl⟩))
    go_ret
    exact ⟨ret_b HE.out.symm, by go_grown⟩
  · have HE := Lib.hid (show devB zs a b = false by rw [HV.out]; simp [h4])
    go_enter Try.func27, Try.ntmps27
    go_wp2_with (first | (go_at_call 34; refine (allIn_c zs _ _ _ _ _ _ (HI.out.below (by go_grown)) (by omega) (by omega)).mono ?_; rintro e w' ⟨rfl, rfl⟩) | (go_at_call 31; refine (inRange_c _ _ _ _).mono ?_; rintro e w' ⟨rfl, rfl⟩))
    go_ret
    exact ⟨ret_b HE.out.symm, by go_grown⟩
theorem ValidDeque_s (zs : List Int) (A : Option Addr) (n cap : Nat) (a b : Int) (w : World) (h : Ints w A zs) (hn : zs.length = n) (hm : zs.length ≤ 1000000000000) :
    Calls Try.prog 9 #[.agg #[.slice A n cap, .int .i64 a, .int .i64 b]] w fun e w' => e = .returned (.bool (devB zs a b)) ∧ Below w.heap.size w w' := by
  subst hn
  have HI := Lib.hid h
  clear h
  go_enter Try.func9, Try.ntmps9
  go_wp2_with fail
  refine (validDeque_s zs _ _ _ _ _ _ (HI.out.below (by go_grown)) rfl hm).mono ?_
  rintro e w1 ⟨rfl, hb⟩
  have HB := Lib.hid (show Below w.heap.size w w1 from below_then (by go_grown) hb)
  clear hb
  go_wp2
  go_ret
  exact ⟨rfl, HB.out⟩
end Go.Proofs.Ythfpplpklhclgaa
