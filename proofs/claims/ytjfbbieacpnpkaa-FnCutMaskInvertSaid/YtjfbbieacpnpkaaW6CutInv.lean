/-
  The walk of FnCutMaskInvert: it returns true for every code.
-/
import Derived.Test.YtjfbbieacpnpkaaW6Inv
import Derived.Test.YtjfbbieacpnpkaaCutI
namespace Go.Proofs.Ytjfbbieacpnpkaa
open Go.RowKit
set_option linter.unusedSimpArgs false
set_option linter.unusedVariables false

theorem rnd_cut {x : Int} (h0 : 0 ≤ x) (h1 : x ≤ 16) : 0 ≤ rnd (x * (16 - x)) 16 ∧ rnd (x * (16 - x)) 16 ≤ 4 := by
  have : x = 0 ∨ x = 1 ∨ x = 2 ∨ x = 3 ∨ x = 4 ∨ x = 5 ∨ x = 6 ∨ x = 7 ∨ x = 8 ∨ x = 9 ∨ x = 10 ∨ x = 11 ∨ x = 12 ∨ x = 13 ∨ x = 14 ∨ x = 15 ∨ x = 16 := by omega
  rcases this with rfl | rfl | rfl | rfl | rfl | rfl | rfl | rfl | rfl | rfl | rfl | rfl | rfl | rfl | rfl | rfl | rfl <;> decide
theorem cut_inv_bd (zs : List Int) : ∀ i, i < (cutV zs (invV zs)).length → 0 ≤ nth (cutV zs (invV zs)) i ∧ nth (cutV zs (invV zs)) i ≤ 4 := by
  intro i hi
  by_cases hv : (maskB zs && maskB (invV zs) && decide (zs.length = (invV zs).length)) = true
  · have e : cutV zs (invV zs) = cutM zs (invV zs) := by unfold cutV; rw [if_pos hv]
    rw [e] at hi ⊢
    rw [cutM_length] at hi
    simp only [Bool.and_eq_true] at hv
    have e2 : invV zs = invM zs := by unfold invV; rw [if_pos hv.1.1]
    obtain ⟨_, h2⟩ := maskB_true.1 hv.1.1
    have := h2 i hi
    rw [nth_cutM hi, e2, nth_invM hi]
    exact rnd_cut this.1 this.2
  · have e : cutV zs (invV zs) = [] := by unfold cutV; rw [if_neg hv]
    rw [e] at hi; simp at hi
set_option maxHeartbeats 4000000 in
theorem walk_FnCutMaskInvert (w : World) (a0 : Option Addr) (len0 cap0 : Nat) (z0 : List Int) (w0 : IsRow .u8 w a0 len0 cap0 z0) :
    Calls Try.prog 8 #[.slice a0 len0 cap0] w fun e w' => e = .returned (.bool true) ∧ Below w.heap.size w w' := by
  have HC := Lib.hid w0.code
  clear w0
  by_cases hl : 1048576 < len0
  · have hl2 : (1048576 : Int) < (len0 : Int) := by omega
    go_enter Try.func8, Try.ntmps8
    go_wp2
    go_ret
    exact ⟨rfl, Below.refl _ _⟩
  have hl2 : ¬ (1048576 : Int) < (len0 : Int) := by omega
  go_enter Try.func8, Try.ntmps8
  go_wp2_with fail
  refine (DrawInvertMask_c _ _ _ _ HC.out).mono ?_
  rintro e w1 ⟨zs, A1, cap1, hl1, hc1, hc2, hbd, rfl, hi1, hb1⟩
  have HM := Lib.hid hi1
  have HB := Lib.hid hb1
  have HD := Lib.hid hbd
  clear hi1 hb1 hbd
  unfold maxLen at hc2
  have hle := invV_le zs
  go_wp2_with fail
  refine (InvertMask_i zs _ _ _ _ HM.out rfl (by omega)).mono ?_
  rintro e w2 ⟨A2, cap2, rfl, hc2, ho2, hb2⟩
  have HM_ := Lib.hid (show Ints w2 A1 zs from HM.out.below hb2)
  clear HM
  have HM := HM_
  clear HM_
  have HB_ := Lib.hid (below_then HB.out hb2)
  clear HB
  have HB := HB_
  clear HB_
  have hs2 := hb2.size
  have HO := Lib.hid (show Ints w2 A2 (invV zs) from ho2.ints)
  clear ho2 hb2
  go_wp2_with fail
  refine (InvertMask_s zs _ _ _ _ HM.out rfl (by omega)).mono ?_
  rintro e w3 ⟨A3, cap3, rfl, hc3, ho3, hb3⟩
  have HM_ := Lib.hid (show Ints w3 A1 zs from HM.out.below hb3)
  clear HM
  have HM := HM_
  clear HM_
  have HO_ := Lib.hid (show Ints w3 A2 (invV zs) from HO.out.below hb3)
  clear HO
  have HO := HO_
  clear HO_
  have HB_ := Lib.hid (below_then HB.out hb3)
  clear HB
  have HB := HB_
  clear HB_
  have hs3 := hb3.size
  have HP := Lib.hid (show Ints w3 A3 (invV zs) from ho3.ints)
  clear ho3 hb3
  go_wp2_with fail
  refine (equalInts_c (invV zs) _ _ _ _ _ _ _ HO.out HP.out rfl rfl (by omega)).mono ?_
  rintro e w4 ⟨rfl, hb4, hz4⟩
  have HM_ := Lib.hid (show Ints w4 A1 zs from HM.out.below hb4)
  clear HM
  have HM := HM_
  clear HM_
  have HO_ := Lib.hid (show Ints w4 A2 (invV zs) from HO.out.below hb4)
  clear HO
  have HO := HO_
  clear HO_
  have HP_ := Lib.hid (show Ints w4 A3 (invV zs) from HP.out.below hb4)
  clear HP
  have HP := HP_
  clear HP_
  have HB_ := Lib.hid (below_then HB.out hb4)
  clear HB
  have HB := HB_
  clear HB_
  have hs4 := hb4.size
  clear hb4 hz4
  have hcl := cutV_le zs (invV zs)
  have HC4 := Lib.hid (cut_inv_bd zs)
  obtain ⟨cs, hcs⟩ : ∃ cs, cs = cutV zs (invV zs) := ⟨_, rfl⟩
  rw [← hcs] at hcl HC4
  have HCS := Lib.hid hcs
  clear hcs
  go_wp2_with fail
  refine (CutMask_i zs (invV zs) _ _ _ _ _ _ _ HM.out HO.out rfl rfl (by omega) (by omega)).mono ?_
  rw [← HCS.out]
  rintro e w5 ⟨A5, cap5, rfl, hc5, ho5, hb5⟩
  have HM_ := Lib.hid (show Ints w5 A1 zs from HM.out.below hb5)
  clear HM
  have HM := HM_
  clear HM_
  have HO_ := Lib.hid (show Ints w5 A2 (invV zs) from HO.out.below hb5)
  clear HO
  have HO := HO_
  clear HO_
  have HP_ := Lib.hid (show Ints w5 A3 (invV zs) from HP.out.below hb5)
  clear HP
  have HP := HP_
  clear HP_
  have HB_ := Lib.hid (below_then HB.out hb5)
  clear HB
  have HB := HB_
  clear HB_
  have hs5 := hb5.size
  have HX := Lib.hid (show Ints w5 A5 cs from ho5.ints)
  clear ho5 hb5
  have hn1 : (cs.length : Int) ≤ 600 := by omega
  go_wp2
  go_loopw [6] (fun i wr => ∃ k : Nat, k ≤ cs.length ∧ i = .int .i64 k ∧ Below w5.heap.size w5 wr) (fun i _ => cs.length - (intOf i).toNat)
  case atStart => exact ⟨0, Nat.zero_le _, rfl, Below.refl _ _⟩
  case round =>
    obtain ⟨k, hk, rfl, hbel⟩ := hrel
    have HBel := Lib.hid hbel
    clear hbel
    by_cases hlt : k < cs.length
    · obtain ⟨b1, o1, rfl, q1, c1⟩ := HX.out (by omega)
      have s1 : wr.cell? ⟨b1, o1 + k, none⟩ = some (.int .i64 (nth cs k)) := (HBel.out.cell (p := ⟨b1, o1 + k, none⟩) q1).trans (c1 k hlt)
      obtain ⟨v1, v2⟩ := HC4.out k hlt
      clear c1
      go_wp2
      go_roundw
      case rel => exact ⟨k + 1, by omega, by go_num, HBel.out⟩
      case measure => simp [intOf]; omega
    · have HB2 := Lib.hid (below_then HB.out HBel.out)
      go_wp2
      go_ret
      exact ⟨rfl, HB2.out⟩

end Go.Proofs.Ytjfbbieacpnpkaa
