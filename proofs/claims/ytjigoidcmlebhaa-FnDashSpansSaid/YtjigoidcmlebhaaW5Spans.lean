/-
  The walk of FnDashSpans: it returns true for every code.
-/
import Derived.Test.YtjigoidcmlebhaaW5Apart
namespace Go.Proofs.Ytjigoidcmlebhaa
open Go.RowKit
set_option linter.unusedSimpArgs false
set_option linter.unusedVariables false

def hitB (l : List (Int × Int)) (a : Int) : Bool := l.any fun s => decide (s.1 ≤ a) && decide (a < s.2)
theorem hit_take (l : List (Int × Int)) (a : Int) {k : Nat} (hk : k < l.length) : hitB (l.take (k + 1)) a = (hitB (l.take k) a || (decide ((pth l k).1 ≤ a) && decide (a < (pth l k).2))) := by
  unfold hitB
  rw [List.take_succ_eq_append_getElem hk, List.any_append]
  unfold pth; rw [List.getD_eq_getElem?_getD, List.getElem?_eq_getElem hk]; simp
theorem hit_runs {zs : List Int} {b t : Int} (h : dashB zs b t = true) (hbt : b + t ≤ 400) : ∀ a : Nat, (a : Int) < t → hitB (spansV zs b t) (a : Int) = isD zs (b + (a : Int)) := by
  intro a ha
  obtain ⟨hp, b2, b3, t2, t3⟩ := dashB_true h
  have e : spansV zs b t = runs (dr zs b) t.toNat := by simp [spansV, h]
  have hc := (runs_ok (dr zs b) t.toNat).cov a (by omega)
  rw [e, isD_in hp (by omega) (by omega), Bool.eq_iff_iff]
  show _ ↔ dr zs b a = true
  rw [hc]; unfold hitB
  simp [List.any_eq_true]
set_option maxHeartbeats 4000000 in
theorem walk_FnDashSpans (w : World) (a0 : Option Addr) (len0 cap0 : Nat) (z0 : List Int) (w0 : IsRow .u8 w a0 len0 cap0 z0) :
    Calls Try.prog 10 #[.slice a0 len0 cap0] w fun e w' => e = .returned (.bool true) ∧ Below w.heap.size w w' := by
  have HC := Lib.hid w0.code
  clear w0
  by_cases hl : 1048576 < len0
  · have hl2 : (1048576 : Int) < (len0 : Int) := by omega
    go_enter Try.func10, Try.ntmps10
    go_wp2
    go_ret
    exact ⟨rfl, Below.refl _ _⟩
  have hl2 : ¬ (1048576 : Int) < (len0 : Int) := by omega
  go_enter Try.func10, Try.ntmps10
  go_wp2_with fail
  refine (DrawDashSpans_c _ _ _ _ HC.out).mono ?_
  rintro e w1 ⟨zs, A1, cap1, b, t, hl1, hc1, hc2, hbd, b0, b1, t0, t1, rfl, hi1, hb1⟩
  have HM := Lib.hid hi1
  have HB := Lib.hid hb1
  clear hi1 hb1 hbd
  unfold maxLen at hc2
  have hlv := spansV_le4 zs b t
  have HD := Lib.hid (spansV_bd zs b t)
  have HP := Lib.hid (spansV_ap zs b t)
  obtain ⟨l, hl⟩ : ∃ l, l = spansV zs b t := ⟨_, rfl⟩
  rw [← hl] at hlv HD HP
  have HL := Lib.hid hl
  clear hl
  have hlv1 : (l.length : Int) ≤ 400 := by omega
  go_wp2_with fail
  refine (DashSpans_i zs _ _ _ _ _ _ HM.out rfl (by omega)).mono ?_
  rw [← HL.out]
  rintro e w2 ⟨A2, cap2, rfl, hc2, ho2, hb2⟩
  have HM_ := Lib.hid (show Ints w2 A1 zs from HM.out.below hb2)
  clear HM
  have HM := HM_
  clear HM_
  have HB_ := Lib.hid (below_then HB.out hb2)
  clear HB
  have HB := HB_
  clear HB_
  have hs2 := hb2.size
  have HO := Lib.hid (show Ints w2 A2 (flat l) from ho2.ints)
  clear ho2 hb2
  go_wp2_with fail
  refine (DashSpans_s zs _ _ _ _ _ _ HM.out rfl (by omega)).mono ?_
  rw [← HL.out]
  rintro e w3 ⟨A3, cap3, rfl, hc3, ho3, hb3⟩
  have HM_ := Lib.hid (show Ints w3 A1 zs from HM.out.below hb3)
  clear HM
  have HM := HM_
  clear HM_
  have HO_ := Lib.hid (show Ints w3 A2 (flat l) from HO.out.below hb3)
  clear HO
  have HO := HO_
  clear HO_
  have HB_ := Lib.hid (below_then HB.out hb3)
  clear HB
  have HB := HB_
  clear HB_
  have hs3 := hb3.size
  have HQ := Lib.hid (show Ints w3 A3 (flat l) from ho3.ints)
  clear ho3 hb3
  go_wp2_with fail
  refine (equalSpans_c l _ _ _ _ _ _ _ HO.out HQ.out rfl rfl (by omega)).mono ?_
  rintro e w4 ⟨rfl, hb4⟩
  have HM_ := Lib.hid (show Ints w4 A1 zs from HM.out.below hb4)
  clear HM
  have HM := HM_
  clear HM_
  have HO_ := Lib.hid (show Ints w4 A2 (flat l) from HO.out.below hb4)
  clear HO
  have HO := HO_
  clear HO_
  have HQ_ := Lib.hid (show Ints w4 A3 (flat l) from HQ.out.below hb4)
  clear HQ
  have HQ := HQ_
  clear HQ_
  have HB_ := Lib.hid (below_then HB.out hb4)
  clear HB
  have HB := HB_
  clear HB_
  have hs4 := hb4.size
  clear hb4
  by_cases hz : l.length = 0
  · have hq : ((l.length : Int) == 0) = true := by rw [beq_iff_eq]; omega
    clear hz
    go_wp2_with fail
    refine (DashSpans_s zs _ _ _ _ _ _ HM.out rfl (by omega)).mono ?_
    rw [← HL.out]
    rintro e w5 ⟨A5, cap5, rfl, hc5, ho5, hb5⟩
    have HM_ := Lib.hid (show Ints w5 A1 zs from HM.out.below hb5)
    clear HM
    have HM := HM_
    clear HM_
    have HO_ := Lib.hid (show Ints w5 A2 (flat l) from HO.out.below hb5)
    clear HO
    have HO := HO_
    clear HO_
    have HQ_ := Lib.hid (show Ints w5 A3 (flat l) from HQ.out.below hb5)
    clear HQ
    have HQ := HQ_
    clear HQ_
    have HB_ := Lib.hid (below_then HB.out hb5)
    clear HB
    have HB := HB_
    clear HB_
    have hs5 := hb5.size
    have HR := Lib.hid (show Ints w5 A5 (flat l) from ho5.ints)
    clear ho5 hb5
    go_wp2_with fail
    refine (equalSpans_c l _ _ _ _ _ _ _ HO.out HR.out rfl rfl (by omega)).mono ?_
    rintro e w6 ⟨rfl, hb6⟩
    have HM_ := Lib.hid (show Ints w6 A1 zs from HM.out.below hb6)
    clear HM
    have HM := HM_
    clear HM_
    have HO_ := Lib.hid (show Ints w6 A2 (flat l) from HO.out.below hb6)
    clear HO
    have HO := HO_
    clear HO_
    have HQ_ := Lib.hid (show Ints w6 A3 (flat l) from HQ.out.below hb6)
    clear HQ
    have HQ := HQ_
    clear HQ_
    have HR_ := Lib.hid (show Ints w6 A5 (flat l) from HR.out.below hb6)
    clear HR
    have HR := HR_
    clear HR_
    have HB_ := Lib.hid (below_then HB.out hb6)
    clear HB
    have HB := HB_
    clear HB_
    have hs6 := hb6.size
    clear hb6
    go_wp2
    go_ret
    exact ⟨rfl, HB.out⟩
  have hq : ((l.length : Int) == 0) = false := by rw [beq_eq_false_iff_ne]; omega
  by_cases c2 : 400 < b + t
  · skip
    go_wp2_with fail
    refine (DashSpans_s zs _ _ _ _ _ _ HM.out rfl (by omega)).mono ?_
    rw [← HL.out]
    rintro e w5 ⟨A5, cap5, rfl, hc5, ho5, hb5⟩
    have HM_ := Lib.hid (show Ints w5 A1 zs from HM.out.below hb5)
    clear HM
    have HM := HM_
    clear HM_
    have HO_ := Lib.hid (show Ints w5 A2 (flat l) from HO.out.below hb5)
    clear HO
    have HO := HO_
    clear HO_
    have HQ_ := Lib.hid (show Ints w5 A3 (flat l) from HQ.out.below hb5)
    clear HQ
    have HQ := HQ_
    clear HQ_
    have HB_ := Lib.hid (below_then HB.out hb5)
    clear HB
    have HB := HB_
    clear HB_
    have hs5 := hb5.size
    have HR := Lib.hid (show Ints w5 A5 (flat l) from ho5.ints)
    clear ho5 hb5
    go_wp2_with fail
    refine (equalSpans_c l _ _ _ _ _ _ _ HO.out HR.out rfl rfl (by omega)).mono ?_
    rintro e w6 ⟨rfl, hb6⟩
    have HM_ := Lib.hid (show Ints w6 A1 zs from HM.out.below hb6)
    clear HM
    have HM := HM_
    clear HM_
    have HO_ := Lib.hid (show Ints w6 A2 (flat l) from HO.out.below hb6)
    clear HO
    have HO := HO_
    clear HO_
    have HQ_ := Lib.hid (show Ints w6 A3 (flat l) from HQ.out.below hb6)
    clear HQ
    have HQ := HQ_
    clear HQ_
    have HR_ := Lib.hid (show Ints w6 A5 (flat l) from HR.out.below hb6)
    clear HR
    have HR := HR_
    clear HR_
    have HB_ := Lib.hid (below_then HB.out hb6)
    clear HB
    have HB := HB_
    clear HB_
    have hs6 := hb6.size
    clear hb6
    go_wp2
    go_ret
    exact ⟨rfl, HB.out⟩
  have hv : dashB zs b t = true := by
    cases e : dashB zs b t
    · have h0 := HL.out; rw [show spansV zs b t = [] by simp [spansV, e]] at h0; rw [h0] at hz; simp at hz
    · rfl
  obtain ⟨hp, b2, b3, t2, t3⟩ := dashB_true hv
  have HH := Lib.hid (show ∀ a : Nat, (a : Int) < t → hitB l (a : Int) = isD zs (b + (a : Int)) by rw [HL.out]; exact hit_runs hv (by omega))
  clear hz hv hp
  go_wp2
  go_loopw [7] (fun i wr => ∃ a : Nat, (a : Int) ≤ t ∧ i = .int .i64 a ∧ Below w4.heap.size w4 wr) (fun i _ => t.toNat - (intOf i).toNat)
  case atStart => exact ⟨0, by omega, rfl, Below.refl _ _⟩
  case round =>
    obtain ⟨a, ha, rfl, hbel⟩ := hrel
    have HBel := Lib.hid hbel
    clear hbel
    by_cases hlt : (a : Int) < t
    · go_wp2
      go_loopw [8, 9] (fun s i wr => ∃ k : Nat, k ≤ l.length ∧ i = .int .i64 k ∧ s = .bool (hitB (l.take k) (a : Int)) ∧ Below w4.heap.size w4 wr) (fun _ i _ => l.length - (intOf i).toNat)
      case atStart => exact ⟨0, by omega, rfl, rfl, HBel.out⟩
      case round =>
        obtain ⟨k, hk, rfl, rfl, hbq⟩ := hrel
        have HBq := Lib.hid hbq
        clear hbq
        by_cases hkl : k < l.length
        · obtain ⟨b1, o1, rfl, q1, c1⟩ := HO.out (by rw [flat_length]; omega)
          obtain ⟨s1, s2⟩ := pair_cells (w := wr) (fun i hi => (HBq.out.cell (p := ⟨b1, o1 + i, none⟩) q1).trans (c1 i hi)) hkl
          have HT := Lib.hid (hit_take l (a : Int) hkl)
          clear c1
          cases hs : hitB (l.take k) (a : Int) <;> by_cases x1 : (pth l k).1 ≤ (a : Int) <;> by_cases x2 : (a : Int) < (pth l k).2
          all_goals
            go_wp2
            go_roundw
            case rel => exact ⟨k + 1, by omega, by go_num, by rw [HT.out, hs]; simp [x1, x2], HBq.out⟩
            case measure => simp [intOf]; omega
        · have he : l.take k = l := List.take_of_length_le (by omega)
          rw [he, HH.out a hlt]
          have HMq := Lib.hid (HM.out.below HBq.out)
          clear he
          go_wp2_with (first | (go_at_call 15; refine (IsDrawn_i zs _ _ _ _ _ HMq.out rfl (by omega)).mono ?_; rintro e wz ⟨rfl, rfl⟩))
          go_roundw
          case rel => exact ⟨a + 1, by omega, by go_num, HBq.out⟩
          case measure => simp [intOf]; omega
    · go_wp2
      go_ret
      exact ⟨rfl, below_then HB.out HBel.out⟩

end Go.Proofs.Ytjigoidcmlebhaa
