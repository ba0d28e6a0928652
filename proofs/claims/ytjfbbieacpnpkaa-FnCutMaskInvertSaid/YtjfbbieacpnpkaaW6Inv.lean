/-
  The walk of FnInvertMask: it returns true for every code.
-/
import Derived.Test.YtjfbbieacpnpkaaDrawL
import Derived.Test.YtjfbbieacpnpkaaMaskI
import Derived.Test.YtjfbbieacpnpkaaMaskS
import Derived.Deep.QuietTactic
import Derived.BigQuiet
namespace Go.Proofs.Ytjfbbieacpnpkaa
open Go.RowKit
set_option linter.unusedSimpArgs false
set_option linter.unusedVariables false

theorem invV_len {zs : List Int} (h : (invV zs).length ≠ 0) : maskB zs = true ∧ invV zs = invM zs ∧ 0 < zs.length := by
  cases hv : maskB zs
  · simp [invV, hv] at h
  · have e : invV zs = invM zs := by simp [invV, hv]
    refine ⟨rfl, e, ?_⟩
    rw [e, invM_length] at h; omega
theorem invV_back {zs : List Int} (h : maskB zs = true) : invV (invM zs) = zs := by
  obtain ⟨h1, h2⟩ := maskB_true.1 h
  have hm : maskB (invM zs) = true := maskB_true.2 ⟨by rw [invM_length]; exact h1, fun i hi => by
    rw [invM_length] at hi
    have := h2 i hi
    rw [nth_invM hi]; omega⟩
  rw [show invV (invM zs) = invM (invM zs) by simp [invV, hm]]
  refine nth_ext (by rw [invM_length, invM_length]) fun i hi => ?_
  rw [invM_length, invM_length] at hi
  rw [nth_invM (by rw [invM_length]; exact hi), nth_invM hi]; omega
theorem invV_le (zs : List Int) : (invV zs).length ≤ zs.length := by
  unfold invV; split
  · rw [invM_length]; exact Nat.le_refl _
  · simp
theorem cutV_le (xs ys : List Int) : (cutV xs ys).length ≤ xs.length := by
  unfold cutV; split
  · rw [cutM_length]; exact Nat.le_refl _
  · simp
set_option maxHeartbeats 4000000 in
theorem walk_FnInvertMask (w : World) (a0 : Option Addr) (len0 cap0 : Nat) (z0 : List Int) (w0 : IsRow .u8 w a0 len0 cap0 z0) :
    Calls Try.prog 6 #[.slice a0 len0 cap0] w fun e w' => e = .returned (.bool true) ∧ Below w.heap.size w w' := by
  have HC := Lib.hid w0.code
  clear w0
  by_cases hl : 1048576 < len0
  · have hl2 : (1048576 : Int) < (len0 : Int) := by omega
    go_enter Try.func6, Try.ntmps6
    go_wp2
    go_ret
    exact ⟨rfl, Below.refl _ _⟩
  have hl2 : ¬ (1048576 : Int) < (len0 : Int) := by omega
  go_enter Try.func6, Try.ntmps6
  go_wp2_with fail
  refine (DrawInvertMask_c _ _ _ _ HC.out).mono ?_
  rintro e w1 ⟨zs, A1, cap1, hl1, hc1, hc2, hbd, rfl, hi1, hb1⟩
  have HM := Lib.hid hi1
  have HB := Lib.hid hb1
  have HD := Lib.hid hbd
  clear hi1 hb1 hbd
  unfold maxLen at hc2
  have hle := invV_le zs
  go_wp2_with fail
  refine (InvertMask_i zs _ _ _ _ HM.out rfl (by omega)).mono ?_
  rintro e w2 ⟨A2, cap2, rfl, hc2, ho2, hb2⟩
  have HM_ := Lib.hid (show Ints w2 A1 zs from HM.out.below hb2)
  clear HM
  have HM := HM_
  clear HM_
  have HB_ := Lib.hid (below_then HB.out hb2)
  clear HB
  have HB := HB_
  clear HB_
  have hs2 := hb2.size
  have HO := Lib.hid (show Ints w2 A2 (invV zs) from ho2.ints)
  clear ho2 hb2
  go_wp2_with fail
  refine (InvertMask_s zs _ _ _ _ HM.out rfl (by omega)).mono ?_
  rintro e w3 ⟨A3, cap3, rfl, hc3, ho3, hb3⟩
  have HM_ := Lib.hid (show Ints w3 A1 zs from HM.out.below hb3)
  clear HM
  have HM := HM_
  clear HM_
  have HO_ := Lib.hid (show Ints w3 A2 (invV zs) from HO.out.below hb3)
  clear HO
  have HO := HO_
  clear HO_
  have HB_ := Lib.hid (below_then HB.out hb3)
  clear HB
  have HB := HB_
  clear HB_
  have hs3 := hb3.size
  have HP := Lib.hid (show Ints w3 A3 (invV zs) from ho3.ints)
  clear ho3 hb3
  go_wp2_with fail
  refine (equalInts_c (invV zs) _ _ _ _ _ _ _ HO.out HP.out rfl rfl (by omega)).mono ?_
  rintro e w4 ⟨rfl, hb4, hz4⟩
  have HM_ := Lib.hid (show Ints w4 A1 zs from HM.out.below hb4)
  clear HM
  have HM := HM_
  clear HM_
  have HO_ := Lib.hid (show Ints w4 A2 (invV zs) from HO.out.below hb4)
  clear HO
  have HO := HO_
  clear HO_
  have HP_ := Lib.hid (show Ints w4 A3 (invV zs) from HP.out.below hb4)
  clear HP
  have HP := HP_
  clear HP_
  have HB_ := Lib.hid (below_then HB.out hb4)
  clear HB
  have HB := HB_
  clear HB_
  have hs4 := hb4.size
  clear hb4 hz4
  by_cases hz : (invV zs).length = 0
  · have hq : (((invV zs).length : Int) == 0) = true := by rw [beq_iff_eq]; omega
    clear hz
    go_wp2_with fail
    refine (InvertMask_s zs _ _ _ _ HM.out rfl (by omega)).mono ?_
    rintro e w5 ⟨A5, cap5, rfl, hc5, ho5, hb5⟩
    have HM_ := Lib.hid (show Ints w5 A1 zs from HM.out.below hb5)
    clear HM
    have HM := HM_
    clear HM_
    have HO_ := Lib.hid (show Ints w5 A2 (invV zs) from HO.out.below hb5)
    clear HO
    have HO := HO_
    clear HO_
    have HP_ := Lib.hid (show Ints w5 A3 (invV zs) from HP.out.below hb5)
    clear HP
    have HP := HP_
    clear HP_
    have HB_ := Lib.hid (below_then HB.out hb5)
    clear HB
    have HB := HB_
    clear HB_
    have hs5 := hb5.size
    have HQ := Lib.hid (show Ints w5 A5 (invV zs) from ho5.ints)
    clear ho5 hb5
    go_wp2_with fail
    refine (equalInts_c (invV zs) _ _ _ _ _ _ _ HO.out HQ.out rfl rfl (by omega)).mono ?_
    rintro e w6 ⟨rfl, hb6, hz6⟩
    have HM_ := Lib.hid (show Ints w6 A1 zs from HM.out.below hb6)
    clear HM
    have HM := HM_
    clear HM_
    have HO_ := Lib.hid (show Ints w6 A2 (invV zs) from HO.out.below hb6)
    clear HO
    have HO := HO_
    clear HO_
    have HP_ := Lib.hid (show Ints w6 A3 (invV zs) from HP.out.below hb6)
    clear HP
    have HP := HP_
    clear HP_
    have HQ_ := Lib.hid (show Ints w6 A5 (invV zs) from HQ.out.below hb6)
    clear HQ
    have HQ := HQ_
    clear HQ_
    have HB_ := Lib.hid (below_then HB.out hb6)
    clear HB
    have HB := HB_
    clear HB_
    have hs6 := hb6.size
    clear hb6 hz6
    go_wp2
    go_ret
    exact ⟨rfl, HB.out⟩
  have hq : (((invV zs).length : Int) == 0) = false := by rw [beq_eq_false_iff_ne]; omega
  obtain ⟨hv, hE, hpos⟩ := invV_len hz
  obtain ⟨hlen, hval⟩ := maskB_true.1 hv
  have HV := Lib.hid hval
  have HE := Lib.hid hE
  have HK := Lib.hid (invV_back hv)
  have HL := Lib.hid (show (invV zs).length = zs.length by rw [hE, invM_length])
  have hle2 : zs.length ≤ (invV zs).length := by rw [hE, invM_length]; exact Nat.le_refl _
  clear hval hE hv
  have hn1 : (zs.length : Int) ≤ 600 := by omega
  go_wp2
  go_loopw [5] (fun i wr => ∃ k : Nat, k ≤ zs.length ∧ i = .int .i64 k ∧ Below w4.heap.size w4 wr) (fun i _ => zs.length - (intOf i).toNat)
  case atStart => exact ⟨0, Nat.zero_le _, rfl, Below.refl _ _⟩
  case round =>
    obtain ⟨k, hk, rfl, hbel⟩ := hrel
    have HBel := Lib.hid hbel
    have hsr := hbel.size
    clear hbel
    by_cases hlt : k < zs.length
    · obtain ⟨b1, o1, rfl, q1, c1⟩ := HM.out (by omega)
      obtain ⟨b2, o2, rfl, q2, c2⟩ := HO.out (by omega)
      have s1 : wr.cell? ⟨b1, o1 + k, none⟩ = some (.int .i64 (nth zs k)) := (HBel.out.cell (p := ⟨b1, o1 + k, none⟩) q1).trans (c1 k hlt)
      have s2 : wr.cell? ⟨b2, o2 + k, none⟩ = some (.int .i64 (nth (invV zs) k)) := (HBel.out.cell (p := ⟨b2, o2 + k, none⟩) q2).trans (c2 k (by omega))
      obtain ⟨v1, v2⟩ := HV.out k hlt
      have hy : nth (invV zs) k = 16 - nth zs k := by rw [HE.out, nth_invM hlt]
      have e1 : IntKind.i64.wrap (nth zs k + nth (invV zs) k) = 16 := by rw [IntWalk.i64_in _ (by omega)]; omega
      have hk0 : (0 : Int) ≤ (k : Int) := by omega
      have hk1 : (k : Int) < (zs.length : Int) := by omega
      have hk2 : (k : Int) < ((invV zs).length : Int) := by omega
      have hk3 : decide ((invV zs).length ≤ k) = false := by simp; omega
      have E1 := e1
      clear c1 c2 hy
      go_wp2
      go_quiet (fail)
      go_wp2
      go_roundw
      case rel => exact ⟨k + 1, by omega, by go_num, below_drewN HBel.out _⟩
      case measure => simp [intOf]; omega
    · have HM2 := Lib.hid (HM.out.below HBel.out)
      have HO2 := Lib.hid (HO.out.below HBel.out)
      have HB2 := Lib.hid (below_then HB.out HBel.out)
      go_wp2_with fail
      refine (InvertMask_i (invV zs) _ _ _ _ HO2.out rfl (by omega)).mono ?_
      rw [show invV (invV zs) = zs by rw [HE.out]; exact HK.out]
      rintro e w5 ⟨A5, cap5, rfl, hc5, ho5, hb5⟩
      have HM3 := Lib.hid (HM2.out.below hb5)
      have HB3 := Lib.hid (below_then HB2.out hb5)
      have HN := Lib.hid ho5.ints
      clear ho5 hb5
      go_wp2_with fail
      refine (equalInts_c zs _ _ _ _ _ _ _ HN.out HM3.out rfl rfl (by omega)).mono ?_
      rintro e w6 ⟨rfl, hb6, hz6⟩
      have HB4 := Lib.hid (below_then HB3.out hb6)
      clear hb6 hz6
      go_wp2
      go_ret
      exact ⟨rfl, HB4.out⟩

end Go.Proofs.Ytjfbbieacpnpkaa
