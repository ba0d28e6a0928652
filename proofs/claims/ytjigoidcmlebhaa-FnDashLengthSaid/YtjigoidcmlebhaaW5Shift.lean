/-
  The walk of FnDashSpansShift: it returns true for every code.
-/
import Derived.Test.YtjigoidcmlebhaaW5Apart
namespace Go.Proofs.Ytjigoidcmlebhaa
open Go.RowKit
set_option linter.unusedSimpArgs false
set_option linter.unusedVariables false

theorem cnt_one (f : Nat → Bool) (n : Nat) (hn : 0 < n) : cnt f n = (if f 0 = true then 1 else 0) + cnt (fun i => f (1 + i)) (n - 1) := by
  have := cnt_split f 1 (n - 1)
  rw [show 1 + (n - 1) = n by omega] at this
  rw [this]; simp [cnt]
theorem lenV_no {zs : List Int} {b t : Int} (h : dashB zs b t = false) : lenV zs b t = -1 := by simp [lenV, h]
theorem lenV_yes {zs : List Int} {b t : Int} (h : patB zs = true) (h1 : 0 ≤ b) (h2 : b ≤ 400) (h3 : 0 ≤ t) (h4 : t ≤ 400) : lenV zs b t = cnt (dr zs b) t.toNat := by
  simp [lenV, dashB, h, inB_mk h1 h2, inB_mk h3 h4]
theorem lenV_shift {zs : List Int} {b t : Int} (h : patB zs = true) (h1 : 0 ≤ b) (h2 : b < 400) (h3 : 1 ≤ t) (h4 : t ≤ 400) :
    lenV zs b t = lenV zs (b + 1) (t - 1) + (if isD zs b = true then 1 else 0) := by
  rw [lenV_yes h h1 (by omega) (by omega) h4, lenV_yes h (by omega) (by omega) (by omega) (by omega), cnt_one _ _ (by omega), isD_in h h1 (by omega)]
  have e1 : (t - 1).toNat = t.toNat - 1 := by omega
  have e2 : (fun i => dr zs b (1 + i)) = dr zs (b + 1) := by
    funext i; unfold dr; congr 1; omega
  have e3 : dr zs b 0 = drB zs b := by unfold dr; congr 1; omega
  rw [e1, e2, e3]; omega
theorem lenV_bd (zs : List Int) (b t : Int) : -1 ≤ lenV zs b t ∧ lenV zs b t ≤ 400 := by
  unfold lenV; split
  · rename_i h
    have := cnt_bd (dr zs b) t.toNat
    have := dashB_true h
    omega
  · omega
theorem lenV_half {zs : List Int} {b t u : Int} (h : patB zs = true) (h1 : 0 ≤ b) (h2 : b + u ≤ 400) (h3 : 0 ≤ u) (h4 : u ≤ t) (h5 : t ≤ 400) :
    lenV zs b u + lenV zs (b + u) (t - u) = lenV zs b t := by
  rw [lenV_yes h h1 (by omega) h3 (by omega), lenV_yes h (by omega) h2 (by omega) (by omega), lenV_yes h h1 (by omega) (by omega) h5]
  have := cnt_split (dr zs b) u.toNat (t - u).toNat
  rw [show u.toNat + (t - u).toNat = t.toNat by omega] at this
  have e2 : (fun i => dr zs b (u.toNat + i)) = dr zs (b + u) := by
    funext i; unfold dr; congr 1; omega
  rw [this, e2]
set_option maxHeartbeats 4000000 in
theorem walk_FnDashSpansShift (w : World) (a0 : Option Addr) (len0 cap0 : Nat) (z0 : List Int) (w0 : IsRow .u8 w a0 len0 cap0 z0) :
    Calls Try.prog 11 #[.slice a0 len0 cap0] w fun e w' => e = .returned (.bool true) ∧ Below w.heap.size w w' := by
  have HC := Lib.hid w0.code
  clear w0
  by_cases hl : 1048576 < len0
  · have hl2 : (1048576 : Int) < (len0 : Int) := by omega
    go_enter Try.func11, Try.ntmps11
    go_wp2
    go_ret
    exact ⟨rfl, Below.refl _ _⟩
  have hl2 : ¬ (1048576 : Int) < (len0 : Int) := by omega
  go_enter Try.func11, Try.ntmps11
  go_wp2_with fail
  refine (DrawDashSpans_c _ _ _ _ HC.out).mono ?_
  rintro e w1 ⟨zs, A1, cap1, b, t, hl1, hc1, hc2, hbd, b0, b1, t0, t1, rfl, hi1, hb1⟩
  have HM := Lib.hid hi1
  have HB := Lib.hid hb1
  clear hi1 hb1 hbd
  unfold maxLen at hc2
  have hlv := spansV_le4 zs b t
  have HD := Lib.hid (spansV_bd zs b t)
  have HP := Lib.hid (spansV_ap zs b t)
  obtain ⟨l, hl⟩ : ∃ l, l = spansV zs b t := ⟨_, rfl⟩
  rw [← hl] at hlv HD HP
  have HL := Lib.hid hl
  clear hl
  have hlv1 : (l.length : Int) ≤ 400 := by omega
  go_wp2_with fail
  refine (DashSpans_i zs _ _ _ _ _ _ HM.out rfl (by omega)).mono ?_
  rw [← HL.out]
  rintro e w2 ⟨A2, cap2, rfl, hc2, ho2, hb2⟩
  have HM_ := Lib.hid (show Ints w2 A1 zs from HM.out.below hb2)
  clear HM
  have HM := HM_
  clear HM_
  have HB_ := Lib.hid (below_then HB.out hb2)
  clear HB
  have HB := HB_
  clear HB_
  have hs2 := hb2.size
  have HO := Lib.hid (show Ints w2 A2 (flat l) from ho2.ints)
  clear ho2 hb2
  go_wp2_with fail
  refine (DashSpans_s zs _ _ _ _ _ _ HM.out rfl (by omega)).mono ?_
  rw [← HL.out]
  rintro e w3 ⟨A3, cap3, rfl, hc3, ho3, hb3⟩
  have HM_ := Lib.hid (show Ints w3 A1 zs from HM.out.below hb3)
  clear HM
  have HM := HM_
  clear HM_
  have HO_ := Lib.hid (show Ints w3 A2 (flat l) from HO.out.below hb3)
  clear HO
  have HO := HO_
  clear HO_
  have HB_ := Lib.hid (below_then HB.out hb3)
  clear HB
  have HB := HB_
  clear HB_
  have hs3 := hb3.size
  have HQ := Lib.hid (show Ints w3 A3 (flat l) from ho3.ints)
  clear ho3 hb3
  go_wp2_with fail
  refine (equalSpans_c l _ _ _ _ _ _ _ HO.out HQ.out rfl rfl (by omega)).mono ?_
  rintro e w4 ⟨rfl, hb4⟩
  have HM_ := Lib.hid (show Ints w4 A1 zs from HM.out.below hb4)
  clear HM
  have HM := HM_
  clear HM_
  have HO_ := Lib.hid (show Ints w4 A2 (flat l) from HO.out.below hb4)
  clear HO
  have HO := HO_
  clear HO_
  have HQ_ := Lib.hid (show Ints w4 A3 (flat l) from HQ.out.below hb4)
  clear HQ
  have HQ := HQ_
  clear HQ_
  have HB_ := Lib.hid (below_then HB.out hb4)
  clear HB
  have HB := HB_
  clear HB_
  have hs4 := hb4.size
  clear hb4
  by_cases c1 : t < 1
  · skip
    go_wp2_with fail
    refine (DashSpans_s zs _ _ _ _ _ _ HM.out rfl (by omega)).mono ?_
    rw [← HL.out]
    rintro e w5 ⟨A5, cap5, rfl, hc5, ho5, hb5⟩
    have HM_ := Lib.hid (show Ints w5 A1 zs from HM.out.below hb5)
    clear HM
    have HM := HM_
    clear HM_
    have HO_ := Lib.hid (show Ints w5 A2 (flat l) from HO.out.below hb5)
    clear HO
    have HO := HO_
    clear HO_
    have HQ_ := Lib.hid (show Ints w5 A3 (flat l) from HQ.out.below hb5)
    clear HQ
    have HQ := HQ_
    clear HQ_
    have HB_ := Lib.hid (below_then HB.out hb5)
    clear HB
    have HB := HB_
    clear HB_
    have hs5 := hb5.size
    have HR := Lib.hid (show Ints w5 A5 (flat l) from ho5.ints)
    clear ho5 hb5
    go_wp2_with fail
    refine (equalSpans_c l _ _ _ _ _ _ _ HO.out HR.out rfl rfl (by omega)).mono ?_
    rintro e w6 ⟨rfl, hb6⟩
    have HM_ := Lib.hid (show Ints w6 A1 zs from HM.out.below hb6)
    clear HM
    have HM := HM_
    clear HM_
    have HO_ := Lib.hid (show Ints w6 A2 (flat l) from HO.out.below hb6)
    clear HO
    have HO := HO_
    clear HO_
    have HQ_ := Lib.hid (show Ints w6 A3 (flat l) from HQ.out.below hb6)
    clear HQ
    have HQ := HQ_
    clear HQ_
    have HR_ := Lib.hid (show Ints w6 A5 (flat l) from HR.out.below hb6)
    clear HR
    have HR := HR_
    clear HR_
    have HB_ := Lib.hid (below_then HB.out hb6)
    clear HB
    have HB := HB_
    clear HB_
    have hs6 := hb6.size
    clear hb6
    go_wp2
    go_ret
    exact ⟨rfl, HB.out⟩
  by_cases c2 : b < 0
  · skip
    go_wp2_with fail
    refine (DashSpans_s zs _ _ _ _ _ _ HM.out rfl (by omega)).mono ?_
    rw [← HL.out]
    rintro e w5 ⟨A5, cap5, rfl, hc5, ho5, hb5⟩
    have HM_ := Lib.hid (show Ints w5 A1 zs from HM.out.below hb5)
    clear HM
    have HM := HM_
    clear HM_
    have HO_ := Lib.hid (show Ints w5 A2 (flat l) from HO.out.below hb5)
    clear HO
    have HO := HO_
    clear HO_
    have HQ_ := Lib.hid (show Ints w5 A3 (flat l) from HQ.out.below hb5)
    clear HQ
    have HQ := HQ_
    clear HQ_
    have HB_ := Lib.hid (below_then HB.out hb5)
    clear HB
    have HB := HB_
    clear HB_
    have hs5 := hb5.size
    have HR := Lib.hid (show Ints w5 A5 (flat l) from ho5.ints)
    clear ho5 hb5
    go_wp2_with fail
    refine (equalSpans_c l _ _ _ _ _ _ _ HO.out HR.out rfl rfl (by omega)).mono ?_
    rintro e w6 ⟨rfl, hb6⟩
    have HM_ := Lib.hid (show Ints w6 A1 zs from HM.out.below hb6)
    clear HM
    have HM := HM_
    clear HM_
    have HO_ := Lib.hid (show Ints w6 A2 (flat l) from HO.out.below hb6)
    clear HO
    have HO := HO_
    clear HO_
    have HQ_ := Lib.hid (show Ints w6 A3 (flat l) from HQ.out.below hb6)
    clear HQ
    have HQ := HQ_
    clear HQ_
    have HR_ := Lib.hid (show Ints w6 A5 (flat l) from HR.out.below hb6)
    clear HR
    have HR := HR_
    clear HR_
    have HB_ := Lib.hid (below_then HB.out hb6)
    clear HB
    have HB := HB_
    clear HB_
    have hs6 := hb6.size
    clear hb6
    go_wp2
    go_ret
    exact ⟨rfl, HB.out⟩
  by_cases c3 : 400 ≤ b
  · skip
    go_wp2_with fail
    refine (DashSpans_s zs _ _ _ _ _ _ HM.out rfl (by omega)).mono ?_
    rw [← HL.out]
    rintro e w5 ⟨A5, cap5, rfl, hc5, ho5, hb5⟩
    have HM_ := Lib.hid (show Ints w5 A1 zs from HM.out.below hb5)
    clear HM
    have HM := HM_
    clear HM_
    have HO_ := Lib.hid (show Ints w5 A2 (flat l) from HO.out.below hb5)
    clear HO
    have HO := HO_
    clear HO_
    have HQ_ := Lib.hid (show Ints w5 A3 (flat l) from HQ.out.below hb5)
    clear HQ
    have HQ := HQ_
    clear HQ_
    have HB_ := Lib.hid (below_then HB.out hb5)
    clear HB
    have HB := HB_
    clear HB_
    have hs5 := hb5.size
    have HR := Lib.hid (show Ints w5 A5 (flat l) from ho5.ints)
    clear ho5 hb5
    go_wp2_with fail
    refine (equalSpans_c l _ _ _ _ _ _ _ HO.out HR.out rfl rfl (by omega)).mono ?_
    rintro e w6 ⟨rfl, hb6⟩
    have HM_ := Lib.hid (show Ints w6 A1 zs from HM.out.below hb6)
    clear HM
    have HM := HM_
    clear HM_
    have HO_ := Lib.hid (show Ints w6 A2 (flat l) from HO.out.below hb6)
    clear HO
    have HO := HO_
    clear HO_
    have HQ_ := Lib.hid (show Ints w6 A3 (flat l) from HQ.out.below hb6)
    clear HQ
    have HQ := HQ_
    clear HQ_
    have HR_ := Lib.hid (show Ints w6 A5 (flat l) from HR.out.below hb6)
    clear HR
    have HR := HR_
    clear HR_
    have HB_ := Lib.hid (below_then HB.out hb6)
    clear HB
    have HB := HB_
    clear HB_
    have hs6 := hb6.size
    clear hb6
    go_wp2
    go_ret
    exact ⟨rfl, HB.out⟩
  have g1 := lenV_bd zs b t
  have g2 := lenV_bd zs (b + 1) (t - 1)
  go_wp2_with (first | (go_at_call 15; refine (IsDrawn_i zs _ _ _ _ _ HM.out rfl (by omega)).mono ?_; rintro e wz ⟨rfl, rfl⟩) | fail)
  refine (DashLength_i zs _ _ _ _ _ _ HM.out rfl (by omega)).mono ?_
  rintro e w5 ⟨rfl, hb5⟩
  have HM_ := Lib.hid (show Ints w5 A1 zs from HM.out.below hb5)
  clear HM
  have HM := HM_
  clear HM_
  have HO_ := Lib.hid (show Ints w5 A2 (flat l) from HO.out.below hb5)
  clear HO
  have HO := HO_
  clear HO_
  have HQ_ := Lib.hid (show Ints w5 A3 (flat l) from HQ.out.below hb5)
  clear HQ
  have HQ := HQ_
  clear HQ_
  have HB_ := Lib.hid (below_then HB.out hb5)
  clear HB
  have HB := HB_
  clear HB_
  have hs5 := hb5.size
  clear hb5
  go_wp2_with (first | (go_at_call 15; refine (IsDrawn_i zs _ _ _ _ _ HM.out rfl (by omega)).mono ?_; rintro e wz ⟨rfl, rfl⟩) | fail)
  refine (DashLength_i zs _ _ _ _ _ _ HM.out rfl (by omega)).mono ?_
  rintro e w6 ⟨rfl, hb6⟩
  have HM_ := Lib.hid (show Ints w6 A1 zs from HM.out.below hb6)
  clear HM
  have HM := HM_
  clear HM_
  have HO_ := Lib.hid (show Ints w6 A2 (flat l) from HO.out.below hb6)
  clear HO
  have HO := HO_
  clear HO_
  have HQ_ := Lib.hid (show Ints w6 A3 (flat l) from HQ.out.below hb6)
  clear HQ
  have HQ := HQ_
  clear HQ_
  have HB_ := Lib.hid (below_then HB.out hb6)
  clear HB
  have HB := HB_
  clear HB_
  have hs6 := hb6.size
  clear hb6
  cases hp : patB zs
  · have hn : lenV zs b t = -1 := lenV_no (by simp [dashB, hp])
    have hd := isD_no hp b
    go_wp2_with (first | (go_at_call 15; refine (IsDrawn_i zs _ _ _ _ _ HM.out rfl (by omega)).mono ?_; rintro e wz ⟨rfl, rfl⟩))
    go_ret
    exact ⟨rfl, HB.out⟩
  by_cases ht : 400 < t
  · have hn : lenV zs b t = -1 := lenV_no (by simp [dashB, inB_hi (n := t) (lo := 0) (hi := 400) (by omega)])
    cases hd : isD zs b
    all_goals
      go_wp2_with (first | (go_at_call 15; refine (IsDrawn_i zs _ _ _ _ _ HM.out rfl (by omega)).mono ?_; rintro e wz ⟨rfl, rfl⟩))
      go_ret
      exact ⟨rfl, HB.out⟩
  have hs := lenV_shift hp (b := b) (t := t) (by omega) (by omega) (by omega) (by omega)
  cases hd : isD zs b
  all_goals
    simp only [hd, if_true, Bool.false_eq_true, if_false] at hs
    go_wp2_with (first | (go_at_call 15; refine (IsDrawn_i zs _ _ _ _ _ HM.out rfl (by omega)).mono ?_; rintro e wz ⟨rfl, rfl⟩))
    all_goals
      go_ret
      exact ⟨ret_b (by first | rfl | (simp; omega)), HB.out⟩

end Go.Proofs.Ytjigoidcmlebhaa
