/-
  The walk of FnCutMask: it returns true for every code.
-/
import Derived.Test.YtjfbbieacpnpkaaW6Inv
import Derived.Test.YtjfbbieacpnpkaaCutI
import Derived.Test.YtjfbbieacpnpkaaCutS
namespace Go.Proofs.Ytjfbbieacpnpkaa
open Go.RowKit
set_option linter.unusedSimpArgs false
set_option linter.unusedVariables false

theorem cutV_len {xs ys : List Int} (h : (cutV xs ys).length ≠ 0) : maskB xs = true ∧ maskB ys = true ∧ xs.length = ys.length ∧ cutV xs ys = cutM xs ys := by
  by_cases hv : (maskB xs && maskB ys && decide (xs.length = ys.length)) = true
  · have e : cutV xs ys = cutM xs ys := by unfold cutV; rw [if_pos hv]
    simp only [Bool.and_eq_true, decide_eq_true_eq] at hv
    exact ⟨hv.1.1, hv.1.2, hv.2, e⟩
  · have e : cutV xs ys = [] := by unfold cutV; rw [if_neg hv]
    rw [e] at h; simp at h
theorem rnd_min {x y : Int} (x0 : 0 ≤ x) (x1 : x ≤ 16) (y0 : 0 ≤ y) (y1 : y ≤ 16) : rnd (x * y) 16 ≤ min x y := by
  have a : rnd (x * y) 16 ≤ x := (rnd_bd (by omega) (Int.mul_nonneg x0 y0) (Int.mul_le_mul_of_nonneg_left y1 x0)).2
  have b : rnd (x * y) 16 ≤ y := (rnd_bd (by omega) (Int.mul_nonneg x0 y0) (by rw [Int.mul_comm x y]; exact Int.mul_le_mul_of_nonneg_left x1 y0)).2
  omega
theorem cutV_comm {xs ys : List Int} (h1 : maskB xs = true) (h2 : maskB ys = true) (hl : xs.length = ys.length) : cutV ys xs = cutV xs ys := by
  have e1 : cutV xs ys = cutM xs ys := by unfold cutV; simp [h1, h2, hl]
  have e2 : cutV ys xs = cutM ys xs := by unfold cutV; simp [h1, h2, hl]
  rw [e1, e2]
  refine nth_ext (by rw [cutM_length, cutM_length, hl]) fun i hi => ?_
  rw [cutM_length] at hi
  rw [nth_cutM hi, nth_cutM (by omega), Int.mul_comm]
def full (n : Nat) : List Int := List.replicate n 16
theorem full_length (n : Nat) : (full n).length = n := by simp [full]
theorem nth_full {n i : Nat} (h : i < n) : nth (full n) i = 16 := by rw [nth_getElem (by rw [full_length]; exact h)]; simp [full]
theorem full_snoc (n : Nat) : full n ++ [16] = full (n + 1) := by simp [full, List.replicate_succ']
theorem cutV_full {xs : List Int} (h : maskB xs = true) : cutV xs (full xs.length) = xs := by
  have hm : maskB (full xs.length) = true := maskB_true.2 ⟨by rw [full_length]; exact (maskB_true.1 h).1, fun i hi => by rw [full_length] at hi; rw [nth_full hi]; omega⟩
  have e1 : cutV xs (full xs.length) = cutM xs (full xs.length) := by unfold cutV; simp [h, hm, full_length]
  rw [e1]
  refine nth_ext (cutM_length _ _) fun i hi => ?_
  rw [cutM_length] at hi
  rw [nth_cutM hi, nth_full hi]
  unfold rnd; omega
set_option maxHeartbeats 4000000 in
theorem walk_FnCutMask (w : World) (a0 : Option Addr) (len0 cap0 : Nat) (z0 : List Int) (w0 : IsRow .u8 w a0 len0 cap0 z0) :
    Calls Try.prog 7 #[.slice a0 len0 cap0] w fun e w' => e = .returned (.bool true) ∧ Below w.heap.size w w' := by
  have HC := Lib.hid w0.code
  clear w0
  by_cases hl : 1048576 < len0
  · have hl2 : (1048576 : Int) < (len0 : Int) := by omega
    go_enter Try.func7, Try.ntmps7
    go_wp2
    go_ret
    exact ⟨rfl, Below.refl _ _⟩
  have hl2 : ¬ (1048576 : Int) < (len0 : Int) := by omega
  go_enter Try.func7, Try.ntmps7
  go_wp2_with fail
  refine (DrawCutMask_c _ _ _ _ HC.out).mono ?_
  rintro e w1 ⟨zs, ys, A1, A2, cap1, capy, ⟨hl1, hc1, hc2, hd1⟩, ⟨he1, hcy, he2, hd2⟩, rfl, hi1, hi2, hb1⟩
  have HM := Lib.hid hi1
  have HY := Lib.hid hi2
  have HB := Lib.hid hb1
  clear hi1 hi2 hb1 hd1 hd2
  unfold maxLen at hc2 he2
  have hle := cutV_le zs ys
  go_wp2_with fail
  refine (CutMask_i zs ys _ _ _ _ _ _ _ HM.out HY.out rfl rfl (by omega) (by omega)).mono ?_
  rintro e w2 ⟨A3, cap2, rfl, hc2, ho2, hb2⟩
  have HM_ := Lib.hid (show Ints w2 A1 zs from HM.out.below hb2)
  clear HM
  have HM := HM_
  clear HM_
  have HY_ := Lib.hid (show Ints w2 A2 ys from HY.out.below hb2)
  clear HY
  have HY := HY_
  clear HY_
  have HB_ := Lib.hid (below_then HB.out hb2)
  clear HB
  have HB := HB_
  clear HB_
  have hs2 := hb2.size
  have HO := Lib.hid (show Ints w2 A3 (cutV zs ys) from ho2.ints)
  clear ho2 hb2
  go_wp2_with fail
  refine (CutMask_s zs ys _ _ _ _ _ _ _ HM.out HY.out rfl rfl (by omega) (by omega)).mono ?_
  rintro e w3 ⟨A4, cap3, rfl, hc3, ho3, hb3⟩
  have HM_ := Lib.hid (show Ints w3 A1 zs from HM.out.below hb3)
  clear HM
  have HM := HM_
  clear HM_
  have HY_ := Lib.hid (show Ints w3 A2 ys from HY.out.below hb3)
  clear HY
  have HY := HY_
  clear HY_
  have HO_ := Lib.hid (show Ints w3 A3 (cutV zs ys) from HO.out.below hb3)
  clear HO
  have HO := HO_
  clear HO_
  have HB_ := Lib.hid (below_then HB.out hb3)
  clear HB
  have HB := HB_
  clear HB_
  have hs3 := hb3.size
  have HP := Lib.hid (show Ints w3 A4 (cutV zs ys) from ho3.ints)
  clear ho3 hb3
  go_wp2_with fail
  refine (equalInts_c (cutV zs ys) _ _ _ _ _ _ _ HO.out HP.out rfl rfl (by omega)).mono ?_
  rintro e w4 ⟨rfl, hb4, hz4⟩
  have HM_ := Lib.hid (show Ints w4 A1 zs from HM.out.below hb4)
  clear HM
  have HM := HM_
  clear HM_
  have HY_ := Lib.hid (show Ints w4 A2 ys from HY.out.below hb4)
  clear HY
  have HY := HY_
  clear HY_
  have HO_ := Lib.hid (show Ints w4 A3 (cutV zs ys) from HO.out.below hb4)
  clear HO
  have HO := HO_
  clear HO_
  have HP_ := Lib.hid (show Ints w4 A4 (cutV zs ys) from HP.out.below hb4)
  clear HP
  have HP := HP_
  clear HP_
  have HB_ := Lib.hid (below_then HB.out hb4)
  clear HB
  have HB := HB_
  clear HB_
  have hs4 := hb4.size
  clear hb4 hz4
  by_cases hz : (cutV zs ys).length = 0
  · have hq : (((cutV zs ys).length : Int) == 0) = true := by rw [beq_iff_eq]; omega
    clear hz
    go_wp2_with fail
    refine (CutMask_s zs ys _ _ _ _ _ _ _ HM.out HY.out rfl rfl (by omega) (by omega)).mono ?_
    rintro e w5 ⟨A5, cap5, rfl, hc5, ho5, hb5⟩
    have HM_ := Lib.hid (show Ints w5 A1 zs from HM.out.below hb5)
    clear HM
    have HM := HM_
    clear HM_
    have HY_ := Lib.hid (show Ints w5 A2 ys from HY.out.below hb5)
    clear HY
    have HY := HY_
    clear HY_
    have HO_ := Lib.hid (show Ints w5 A3 (cutV zs ys) from HO.out.below hb5)
    clear HO
    have HO := HO_
    clear HO_
    have HP_ := Lib.hid (show Ints w5 A4 (cutV zs ys) from HP.out.below hb5)
    clear HP
    have HP := HP_
    clear HP_
    have HB_ := Lib.hid (below_then HB.out hb5)
    clear HB
    have HB := HB_
    clear HB_
    have hs5 := hb5.size
    have HQ := Lib.hid (show Ints w5 A5 (cutV zs ys) from ho5.ints)
    clear ho5 hb5
    go_wp2_with fail
    refine (equalInts_c (cutV zs ys) _ _ _ _ _ _ _ HO.out HQ.out rfl rfl (by omega)).mono ?_
    rintro e w6 ⟨rfl, hb6, hz6⟩
    have HM_ := Lib.hid (show Ints w6 A1 zs from HM.out.below hb6)
    clear HM
    have HM := HM_
    clear HM_
    have HY_ := Lib.hid (show Ints w6 A2 ys from HY.out.below hb6)
    clear HY
    have HY := HY_
    clear HY_
    have HO_ := Lib.hid (show Ints w6 A3 (cutV zs ys) from HO.out.below hb6)
    clear HO
    have HO := HO_
    clear HO_
    have HP_ := Lib.hid (show Ints w6 A4 (cutV zs ys) from HP.out.below hb6)
    clear HP
    have HP := HP_
    clear HP_
    have HQ_ := Lib.hid (show Ints w6 A5 (cutV zs ys) from HQ.out.below hb6)
    clear HQ
    have HQ := HQ_
    clear HQ_
    have HB_ := Lib.hid (below_then HB.out hb6)
    clear HB
    have HB := HB_
    clear HB_
    have hs6 := hb6.size
    clear hb6 hz6
    go_wp2
    go_ret
    exact ⟨rfl, HB.out⟩
  have hq : (((cutV zs ys).length : Int) == 0) = false := by rw [beq_eq_false_iff_ne]; omega
  obtain ⟨hv, hu, hlen, hE⟩ := cutV_len hz
  obtain ⟨_, hval⟩ := maskB_true.1 hv
  obtain ⟨_, hval2⟩ := maskB_true.1 hu
  have HV := Lib.hid hval
  have HU := Lib.hid hval2
  have HE := Lib.hid hE
  have HK := Lib.hid (cutV_comm hv hu hlen)
  have HF := Lib.hid (cutV_full hv)
  have hle2 : zs.length ≤ (cutV zs ys).length := by rw [hE, cutM_length]; exact Nat.le_refl _
  have hle3 : zs.length ≤ ys.length := by omega
  have hle4 : ys.length ≤ zs.length := by omega
  clear hval hval2 hE hv hu hlen hz
  have hn1 : (zs.length : Int) ≤ 600 := by omega
  obtain ⟨i0, hi, hz0, hz1, hz2⟩ := info_parts int_info
  have HS := Lib.hid (OwnV.start w4 w4.heap.size (Nat.le_refl _))
  go_wp2
  go_loopw [6, 7] (fun v i wr => ∃ k : Nat, k ≤ zs.length ∧ i = .int .i64 k ∧ OwnV w4.heap.size wr v (full k) ∧ Below w4.heap.size w4 wr) (fun _ i _ => zs.length - (intOf i).toNat)
  case atStart => exact ⟨0, Nat.zero_le _, rfl, HS.out, by go_grown⟩
  case round =>
    obtain ⟨k, hk, rfl, ho, hbel⟩ := hrel
    obtain ⟨g, capf, rfl, hcf1, hcf2, hg, hrow⟩ := ho.form
    have HOw := Lib.hid ho
    have HRw := Lib.hid hrow
    have HBel := Lib.hid hbel
    have hsr := hbel.size
    have hfl := full_length k
    unfold maxLen at hcf2
    clear ho hrow hbel
    by_cases hlt : k < zs.length
    · obtain ⟨b1, o1, rfl, q1, c1⟩ := HM.out (by omega)
      obtain ⟨b2, o2, rfl, q2, c2⟩ := HY.out (by omega)
      obtain ⟨b3, o3, rfl, q3, c3⟩ := HO.out (by omega)
      have C1 := Lib.hid (c1 k hlt)
      have C2 := Lib.hid (c2 k (by omega))
      have C3 := Lib.hid (c3 k (by omega))
      obtain ⟨v1, v2⟩ := HV.out k hlt
      obtain ⟨u1, u2⟩ := HU.out k (by omega)
      have hy : nth (cutV zs ys) k ≤ min (nth zs k) (nth ys k) := by rw [HE.out, nth_cutM hlt]; exact rnd_min v1 v2 u1 u2
      clear c1 c2 c3
      have HFL := Lib.hid hfl
      have hfl1 : (full k).length ≤ 600 := by omega
      clear hfl
      go_wp2_with (at_builtin; refine wpList_append_own _ rfl _ _ 29 rfl w4.heap.size 3 i0 (.int .i64 0) 1 8 Try.underlying29 hi hz0 hz1 hz2 rfl (by decide) _ _ _ rfl (HOw.out.alloc _).1 ⟨wr.heap.size, 0, none⟩ 1 1 [.int .i64 16] rfl rfl (cell_one_new _ _ _) (by simp [Value.oneCell']) (by unfold maxLen; omega) (by omega) (by simp; omega) ?_; intro v' w9 hown' hgrow hnil; have HO4 := Lib.hid hown'; have HG4 := Lib.hid hgrow; have HN := Lib.hid hnil; clear hown' hgrow hnil)
      have HB9 := Lib.hid (show Below w4.heap.size w4 w9 from (HBel.out.alloc (by omega) _).grown HG4.out (by simp; omega) (fun j hj => (HOw.out.1.lt j hj).1))
      have s1 : w9.cell? ⟨b1, o1 + k, none⟩ = some (.int .i64 (nth zs k)) := (HB9.out.cell (p := ⟨b1, o1 + k, none⟩) q1).trans C1.out
      have s2 : w9.cell? ⟨b2, o2 + k, none⟩ = some (.int .i64 (nth ys k)) := (HB9.out.cell (p := ⟨b2, o2 + k, none⟩) q2).trans C2.out
      have s3 : w9.cell? ⟨b3, o3 + k, none⟩ = some (.int .i64 (nth (cutV zs ys) k)) := (HB9.out.cell (p := ⟨b3, o3 + k, none⟩) q3).trans C3.out
      have hk0 : (0 : Int) ≤ (k : Int) := by omega
      have hk1 : (k : Int) < (zs.length : Int) := by omega
      have hk2 : (k : Int) < ((cutV zs ys).length : Int) := by omega
      have hk4 : (k : Int) < (ys.length : Int) := by omega
      have hk3 : decide ((cutV zs ys).length ≤ k) = false := by simp; omega
      have hmm : decide (min (nth zs k) (nth ys k) < nth (cutV zs ys) k) = false := by simp only [decide_eq_false_iff_not]; omega
      go_wp2
      go_quiet (fail)
      go_wp2
      go_roundw
      case rel => exact ⟨k + 1, by omega, by go_num, by rw [← full_snoc]; exact OwnV.snoc (v := .slice (some ⟨g, 0, none⟩) (full k).length capf) (by simp) HO4.out HN.out, below_drewN HB9.out _⟩
      case measure => simp [intOf]; omega
    · have he : k = zs.length := by omega
      have HM2 := Lib.hid (HM.out.below HBel.out)
      have HY2 := Lib.hid (HY.out.below HBel.out)
      have HO2 := Lib.hid (HO.out.below HBel.out)
      have HF2 := Lib.hid (show Ints wr (some ⟨g, 0, none⟩) (full k) from (HRw.out.intsG (Nat.zero_le _)).ints)
      have HB2 := Lib.hid (below_then HB.out HBel.out)
      have HFk := Lib.hid (show cutV zs (full k) = zs by rw [he]; exact HF.out)
      have HFL := Lib.hid hfl
      have hfl1 : (full k).length ≤ 600 := by omega
      clear he hfl
      go_wp2_with fail
      refine (CutMask_i ys zs _ _ _ _ _ _ _ HY2.out HM2.out rfl rfl (by omega) (by omega)).mono ?_
      rw [HK.out]
      rintro e w5 ⟨A5, cap5, rfl, hc5, ho5, hb5⟩
      have HM3 := Lib.hid (HM2.out.below hb5)
      have HO3 := Lib.hid (HO2.out.below hb5)
      have HF3 := Lib.hid (HF2.out.below hb5)
      have HB3 := Lib.hid (below_then HB2.out hb5)
      have HQ := Lib.hid ho5.ints
      clear ho5 hb5
      go_wp2_with fail
      refine (equalInts_c (cutV zs ys) _ _ _ _ _ _ _ HQ.out HO3.out rfl rfl (by omega)).mono ?_
      rintro e w6 ⟨rfl, hb6, hz6⟩
      have HM4 := Lib.hid (HM3.out.below hb6)
      have HF4 := Lib.hid (HF3.out.below hb6)
      have HB4 := Lib.hid (below_then HB3.out hb6)
      clear hb6 hz6
      go_wp2_with fail
      refine (CutMask_i zs (full k) _ _ _ _ _ _ _ HM4.out HF4.out rfl rfl (by omega) (by omega)).mono ?_
      rw [HFk.out]
      rintro e w7 ⟨A7, cap7, rfl, hc7, ho7, hb7⟩
      have HM5 := Lib.hid (HM4.out.below hb7)
      have HB5 := Lib.hid (below_then HB4.out hb7)
      have HW := Lib.hid ho7.ints
      clear ho7 hb7
      go_wp2_with fail
      refine (equalInts_c zs _ _ _ _ _ _ _ HW.out HM5.out rfl rfl (by omega)).mono ?_
      rintro e w8 ⟨rfl, hb8, hz8⟩
      have HB6 := Lib.hid (below_then HB5.out hb8)
      clear hb8 hz8
      go_wp2
      go_ret
      exact ⟨rfl, HB6.out⟩

end Go.Proofs.Ytjfbbieacpnpkaa
