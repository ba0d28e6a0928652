/-
  The walk of FnExactCutMask: it returns true for every two lists.
-/
import Derived.Test.YtjfbbieacpnpkaaCutI
import Derived.Test.YtjfbbieacpnpkaaCutS
namespace Go.Proofs.Ytjfbbieacpnpkaa
open Go.RowKit
set_option linter.unusedSimpArgs false
set_option linter.unusedVariables false

theorem cutV_le (xs ys : List Int) : (cutV xs ys).length ≤ xs.length := by
  unfold cutV; split
  · rw [cutM_length]; exact Nat.le_refl _
  · exact Nat.zero_le _
set_option maxHeartbeats 4000000 in
theorem walk_FnExactCutMask (w : World) (a0 : Option Addr) (len0 cap0 : Nat) (z0 : List Int) (w0 : IsRow .i64 w a0 len0 cap0 z0) (a1 : Option Addr) (len1 cap1 : Nat) (z1 : List Int) (w1 : IsRow .i64 w a1 len1 cap1 z1) :
    Calls Try.prog 5 #[.slice a0 len0 cap0, .slice a1 len1 cap1] w fun e w' => e = .returned (.bool true) ∧ Below w.heap.size w w' := by
  obtain ⟨hi0, hl0, -, -, -⟩ := w0.ints
  obtain ⟨hi1, hl1, -, -, -⟩ := w1.ints
  generalize hzx : z0.take len0 = xs at *
  generalize hzy : z1.take len1 = ys at *
  clear hzx hzy w0 w1
  subst hl0
  subst hl1
  have HX := Lib.hid hi0
  have HY := Lib.hid hi1
  clear hi0 hi1
  by_cases hbig : 1048576 < xs.length
  · have hb2 : (1048576 : Int) < (xs.length : Int) := by omega
    go_enter Try.func5, Try.ntmps5
    go_wp2
    go_ret
    exact ⟨rfl, Below.refl _ _⟩
  have hb2 : (xs.length : Int) ≤ 1048576 := by omega
  by_cases hbig2 : 1048576 < ys.length
  · have hb3 : (1048576 : Int) < (ys.length : Int) := by omega
    go_enter Try.func5, Try.ntmps5
    go_wp2
    go_ret
    exact ⟨rfl, Below.refl _ _⟩
  have hb3 : (ys.length : Int) ≤ 1048576 := by omega
  have hlx : xs.length ≤ 1000000000000 := by omega
  have hly : ys.length ≤ 1000000000000 := by omega
  have hlv : (cutV xs ys).length ≤ 1000000000000 := by have := cutV_le xs ys; omega
  have hlv2 : ((cutV xs ys).length : Int) ≤ 1048576 := by have := cutV_le xs ys; omega
  go_enter Try.func5, Try.ntmps5
  go_wp2_with fail
  refine (toIntS_c xs _ _ _ _ HX.out rfl hlx).mono ?_
  rintro e w1 ⟨Aa, ca, rfl, hca, ho, hb⟩
  have HB := Lib.hid hb
  have Oa := Lib.hid ho
  have hs1 := hb.size
  clear ho hb hca
  go_wp2_with fail
  refine (toIntS_c ys _ _ _ _ (HY.out.below HB.out) rfl hly).mono ?_
  rintro e w2 ⟨Ab, cb, rfl, hcb, ho, hb⟩
  have HB_ := Lib.hid (below_then HB.out hb)
  clear HB
  have HB := HB_
  clear HB_
  have Oa_ := Lib.hid (Oa.out.below hb)
  clear Oa
  have Oa := Oa_
  clear Oa_
  have Ob := Lib.hid ho
  have hs2 := hb.size
  clear ho hb hcb
  go_wp2_with fail
  refine (CutMask_s xs ys _ _ _ _ _ _ _ Oa.out.ints Ob.out.ints rfl rfl hlx hly).mono ?_
  rintro e w3 ⟨Ac, cc, rfl, hcc, ho, hb⟩
  have HB_ := Lib.hid (below_then HB.out hb)
  clear HB
  have HB := HB_
  clear HB_
  have Oa_ := Lib.hid (Oa.out.below hb)
  clear Oa
  have Oa := Oa_
  clear Oa_
  have Ob_ := Lib.hid (Ob.out.below hb)
  clear Ob
  have Ob := Ob_
  clear Ob_
  have Oc := Lib.hid ho
  have hs3 := hb.size
  clear ho hb hcc
  go_wp2_with fail
  refine (toIntS_c xs _ _ _ _ (HX.out.below HB.out) rfl hlx).mono ?_
  rintro e w4 ⟨Ap, cp, rfl, hcp, ho, hb⟩
  have HB_ := Lib.hid (below_then HB.out hb)
  clear HB
  have HB := HB_
  clear HB_
  have Oa_ := Lib.hid (Oa.out.below hb)
  clear Oa
  have Oa := Oa_
  clear Oa_
  have Ob_ := Lib.hid (Ob.out.below hb)
  clear Ob
  have Ob := Ob_
  clear Ob_
  have Oc_ := Lib.hid (Oc.out.below hb)
  clear Oc
  have Oc := Oc_
  clear Oc_
  have Op := Lib.hid ho
  have hs4 := hb.size
  clear ho hb hcp
  go_wp2_with fail
  refine (toIntS_c ys _ _ _ _ (HY.out.below HB.out) rfl hly).mono ?_
  rintro e w5 ⟨Aq, cq, rfl, hcq, ho, hb⟩
  have HB_ := Lib.hid (below_then HB.out hb)
  clear HB
  have HB := HB_
  clear HB_
  have Oa_ := Lib.hid (Oa.out.below hb)
  clear Oa
  have Oa := Oa_
  clear Oa_
  have Ob_ := Lib.hid (Ob.out.below hb)
  clear Ob
  have Ob := Ob_
  clear Ob_
  have Oc_ := Lib.hid (Oc.out.below hb)
  clear Oc
  have Oc := Oc_
  clear Oc_
  have Op_ := Lib.hid (Op.out.below hb)
  clear Op
  have Op := Op_
  clear Op_
  have Oq := Lib.hid ho
  have hs5 := hb.size
  clear ho hb hcq
  go_wp2_with fail
  refine (CutMask_i xs ys _ _ _ _ _ _ _ Op.out.ints Oq.out.ints rfl rfl hlx hly).mono ?_
  rintro e w6 ⟨Ag, cg, rfl, hcg, ho, hb⟩
  have HB_ := Lib.hid (below_then HB.out hb)
  clear HB
  have HB := HB_
  clear HB_
  have Oa_ := Lib.hid (Oa.out.below hb)
  clear Oa
  have Oa := Oa_
  clear Oa_
  have Ob_ := Lib.hid (Ob.out.below hb)
  clear Ob
  have Ob := Ob_
  clear Ob_
  have Oc_ := Lib.hid (Oc.out.below hb)
  clear Oc
  have Oc := Oc_
  clear Oc_
  have Op_ := Lib.hid (Op.out.below hb)
  clear Op
  have Op := Op_
  clear Op_
  have Oq_ := Lib.hid (Oq.out.below hb)
  clear Oq
  have Oq := Oq_
  clear Oq_
  have Og := Lib.hid ho
  have hs6 := hb.size
  clear ho hb hcg
  go_wp2_with fail
  refine (eqIntS_c (cutV xs ys) _ _ _ _ _ _ _ Og.out.ints Oc.out.ints rfl rfl hlv).mono ?_
  rintro e w7 ⟨rfl, hb, hz⟩
  have HB_ := Lib.hid (below_then HB.out hb)
  clear HB
  have HB := HB_
  clear HB_
  have Oa_ := Lib.hid (Oa.out.below hb)
  clear Oa
  have Oa := Oa_
  clear Oa_
  have Ob_ := Lib.hid (Ob.out.below hb)
  clear Ob
  have Ob := Ob_
  clear Ob_
  have Oc_ := Lib.hid (Oc.out.below hb)
  clear Oc
  have Oc := Oc_
  clear Oc_
  have Op_ := Lib.hid (Op.out.below hb)
  clear Op
  have Op := Op_
  clear Op_
  have Oq_ := Lib.hid (Oq.out.below hb)
  clear Oq
  have Oq := Oq_
  clear Oq_
  have Og_ := Lib.hid (Og.out.below hb)
  clear Og
  have Og := Og_
  clear Og_
  have hs7 := hb.size
  clear hb hz
  go_wp2_with fail
  refine (toIntS_c xs _ _ _ _ (HX.out.below HB.out) rfl hlx).mono ?_
  rintro e w8 ⟨Ad, cd, rfl, hcd, ho, hb⟩
  have HB_ := Lib.hid (below_then HB.out hb)
  clear HB
  have HB := HB_
  clear HB_
  have Oa_ := Lib.hid (Oa.out.below hb)
  clear Oa
  have Oa := Oa_
  clear Oa_
  have Ob_ := Lib.hid (Ob.out.below hb)
  clear Ob
  have Ob := Ob_
  clear Ob_
  have Oc_ := Lib.hid (Oc.out.below hb)
  clear Oc
  have Oc := Oc_
  clear Oc_
  have Op_ := Lib.hid (Op.out.below hb)
  clear Op
  have Op := Op_
  clear Op_
  have Oq_ := Lib.hid (Oq.out.below hb)
  clear Oq
  have Oq := Oq_
  clear Oq_
  have Og_ := Lib.hid (Og.out.below hb)
  clear Og
  have Og := Og_
  clear Og_
  have Od := Lib.hid ho
  have hs8 := hb.size
  clear ho hb hcd
  go_wp2_with fail
  refine (eqIntS_c xs _ _ _ _ _ _ _ Op.out.ints Od.out.ints rfl rfl hlx).mono ?_
  rintro e w9 ⟨rfl, hb, hz⟩
  have HB_ := Lib.hid (below_then HB.out hb)
  clear HB
  have HB := HB_
  clear HB_
  have Oa_ := Lib.hid (Oa.out.below hb)
  clear Oa
  have Oa := Oa_
  clear Oa_
  have Ob_ := Lib.hid (Ob.out.below hb)
  clear Ob
  have Ob := Ob_
  clear Ob_
  have Oc_ := Lib.hid (Oc.out.below hb)
  clear Oc
  have Oc := Oc_
  clear Oc_
  have Op_ := Lib.hid (Op.out.below hb)
  clear Op
  have Op := Op_
  clear Op_
  have Oq_ := Lib.hid (Oq.out.below hb)
  clear Oq
  have Oq := Oq_
  clear Oq_
  have Og_ := Lib.hid (Og.out.below hb)
  clear Og
  have Og := Og_
  clear Og_
  have Od_ := Lib.hid (Od.out.below hb)
  clear Od
  have Od := Od_
  clear Od_
  have hs9 := hb.size
  clear hb hz
  go_wp2_with fail
  refine (toIntS_c ys _ _ _ _ (HY.out.below HB.out) rfl hly).mono ?_
  rintro e w10 ⟨Af, cf, rfl, hcf, ho, hb⟩
  have HB_ := Lib.hid (below_then HB.out hb)
  clear HB
  have HB := HB_
  clear HB_
  have Oa_ := Lib.hid (Oa.out.below hb)
  clear Oa
  have Oa := Oa_
  clear Oa_
  have Ob_ := Lib.hid (Ob.out.below hb)
  clear Ob
  have Ob := Ob_
  clear Ob_
  have Oc_ := Lib.hid (Oc.out.below hb)
  clear Oc
  have Oc := Oc_
  clear Oc_
  have Op_ := Lib.hid (Op.out.below hb)
  clear Op
  have Op := Op_
  clear Op_
  have Oq_ := Lib.hid (Oq.out.below hb)
  clear Oq
  have Oq := Oq_
  clear Oq_
  have Og_ := Lib.hid (Og.out.below hb)
  clear Og
  have Og := Og_
  clear Og_
  have Od_ := Lib.hid (Od.out.below hb)
  clear Od
  have Od := Od_
  clear Od_
  have Of := Lib.hid ho
  have hs10 := hb.size
  clear ho hb hcf
  go_wp2_with fail
  refine (eqIntS_c ys _ _ _ _ _ _ _ Oq.out.ints Of.out.ints rfl rfl hly).mono ?_
  rintro e w11 ⟨rfl, hb, hz⟩
  have HB_ := Lib.hid (below_then HB.out hb)
  clear HB
  have HB := HB_
  clear HB_
  have Oa_ := Lib.hid (Oa.out.below hb)
  clear Oa
  have Oa := Oa_
  clear Oa_
  have Ob_ := Lib.hid (Ob.out.below hb)
  clear Ob
  have Ob := Ob_
  clear Ob_
  have Oc_ := Lib.hid (Oc.out.below hb)
  clear Oc
  have Oc := Oc_
  clear Oc_
  have Op_ := Lib.hid (Op.out.below hb)
  clear Op
  have Op := Op_
  clear Op_
  have Oq_ := Lib.hid (Oq.out.below hb)
  clear Oq
  have Oq := Oq_
  clear Oq_
  have Og_ := Lib.hid (Og.out.below hb)
  clear Og
  have Og := Og_
  clear Og_
  have Od_ := Lib.hid (Od.out.below hb)
  clear Od
  have Od := Od_
  clear Od_
  have Of_ := Lib.hid (Of.out.below hb)
  clear Of
  have Of := Of_
  clear Of_
  have hs11 := hb.size
  clear hb hz
  go_wp2_with fail
  refine (markIntS_c _ _ xs _ _ _ 1 _ Op.out rfl hlx (by omega) (by omega)).mono ?_
  rintro e w12 ⟨rfl, ho, hon, hz⟩
  have HB_ := Lib.hid (hon.below HB.out (by omega) (by omega))
  clear HB
  have HB := HB_
  clear HB_
  have Oa_ := Lib.hid (Oa.out.only hon (by omega))
  clear Oa
  have Oa := Oa_
  clear Oa_
  have Ob_ := Lib.hid (Ob.out.only hon (by omega))
  clear Ob
  have Ob := Ob_
  clear Ob_
  have Oc_ := Lib.hid (Oc.out.only hon (by omega))
  clear Oc
  have Oc := Oc_
  clear Oc_
  clear Op
  have Op := Lib.hid ho
  have Oq_ := Lib.hid (Oq.out.only hon (by omega))
  clear Oq
  have Oq := Oq_
  clear Oq_
  have Og_ := Lib.hid (Og.out.only hon (by omega))
  clear Og
  have Og := Og_
  clear Og_
  have Od_ := Lib.hid (Od.out.only hon (by omega))
  clear Od
  have Od := Od_
  clear Od_
  have Of_ := Lib.hid (Of.out.only hon (by omega))
  clear Of
  have Of := Of_
  clear Of_
  have hs12 := hon.size
  clear ho hon hz
  go_wp2_with fail
  refine (markIntS_c _ _ ys _ _ _ (1 + (xs.length : Int)) _ Oq.out rfl hly (by omega) (by omega)).mono ?_
  rintro e w13 ⟨rfl, ho, hon, hz⟩
  have HB_ := Lib.hid (hon.below HB.out (by omega) (by omega))
  clear HB
  have HB := HB_
  clear HB_
  have Oa_ := Lib.hid (Oa.out.only hon (by omega))
  clear Oa
  have Oa := Oa_
  clear Oa_
  have Ob_ := Lib.hid (Ob.out.only hon (by omega))
  clear Ob
  have Ob := Ob_
  clear Ob_
  have Oc_ := Lib.hid (Oc.out.only hon (by omega))
  clear Oc
  have Oc := Oc_
  clear Oc_
  have Op_ := Lib.hid (Op.out.only hon (by omega))
  clear Op
  have Op := Op_
  clear Op_
  clear Oq
  have Oq := Lib.hid ho
  have Og_ := Lib.hid (Og.out.only hon (by omega))
  clear Og
  have Og := Og_
  clear Og_
  have Od_ := Lib.hid (Od.out.only hon (by omega))
  clear Od
  have Od := Od_
  clear Od_
  have Of_ := Lib.hid (Of.out.only hon (by omega))
  clear Of
  have Of := Of_
  clear Of_
  have hs13 := hon.size
  clear ho hon hz
  go_wp2_with fail
  refine (eqIntS_c (cutV xs ys) _ _ _ _ _ _ _ Og.out.ints Oc.out.ints rfl rfl hlv).mono ?_
  rintro e w14 ⟨rfl, hb, hz⟩
  have HB_ := Lib.hid (below_then HB.out hb)
  clear HB
  have HB := HB_
  clear HB_
  have Oa_ := Lib.hid (Oa.out.below hb)
  clear Oa
  have Oa := Oa_
  clear Oa_
  have Ob_ := Lib.hid (Ob.out.below hb)
  clear Ob
  have Ob := Ob_
  clear Ob_
  have Oc_ := Lib.hid (Oc.out.below hb)
  clear Oc
  have Oc := Oc_
  clear Oc_
  have Op_ := Lib.hid (Op.out.below hb)
  clear Op
  have Op := Op_
  clear Op_
  have Oq_ := Lib.hid (Oq.out.below hb)
  clear Oq
  have Oq := Oq_
  clear Oq_
  have Og_ := Lib.hid (Og.out.below hb)
  clear Og
  have Og := Og_
  clear Og_
  have Od_ := Lib.hid (Od.out.below hb)
  clear Od
  have Od := Od_
  clear Od_
  have Of_ := Lib.hid (Of.out.below hb)
  clear Of
  have Of := Of_
  clear Of_
  have hs14 := hb.size
  clear hb hz
  go_wp2_with fail
  refine (markIntS_c _ _ (cutV xs ys) _ _ _ 1 _ Og.out rfl hlv (by omega) (by omega)).mono ?_
  rintro e w15 ⟨rfl, ho, hon, hz⟩
  have HB_ := Lib.hid (hon.below HB.out (by omega) (by omega))
  clear HB
  have HB := HB_
  clear HB_
  have Oa_ := Lib.hid (Oa.out.only hon (by omega))
  clear Oa
  have Oa := Oa_
  clear Oa_
  have Ob_ := Lib.hid (Ob.out.only hon (by omega))
  clear Ob
  have Ob := Ob_
  clear Ob_
  have Oc_ := Lib.hid (Oc.out.only hon (by omega))
  clear Oc
  have Oc := Oc_
  clear Oc_
  have Op_ := Lib.hid (Op.out.only hon (by omega))
  clear Op
  have Op := Op_
  clear Op_
  have Oq_ := Lib.hid (Oq.out.only hon (by omega))
  clear Oq
  have Oq := Oq_
  clear Oq_
  clear Og
  have Og := Lib.hid ho
  have Od_ := Lib.hid (Od.out.only hon (by omega))
  clear Od
  have Od := Od_
  clear Od_
  have Of_ := Lib.hid (Of.out.only hon (by omega))
  clear Of
  have Of := Of_
  clear Of_
  have hs15 := hon.size
  clear ho hon hz
  go_wp2_with fail
  refine (heldIntS_c _ _ _ 1 _ Og.out.ints hlv (by omega) (by omega)).mono ?_
  rintro e w_ ⟨rfl, rfl⟩
  go_wp2_with fail
  refine (toIntS_c xs _ _ _ _ (HX.out.below HB.out) rfl hlx).mono ?_
  rintro e w16 ⟨Ai, ci, rfl, hci, ho, hb⟩
  have HB_ := Lib.hid (below_then HB.out hb)
  clear HB
  have HB := HB_
  clear HB_
  have Oa_ := Lib.hid (Oa.out.below hb)
  clear Oa
  have Oa := Oa_
  clear Oa_
  have Ob_ := Lib.hid (Ob.out.below hb)
  clear Ob
  have Ob := Ob_
  clear Ob_
  have Oc_ := Lib.hid (Oc.out.below hb)
  clear Oc
  have Oc := Oc_
  clear Oc_
  have Op_ := Lib.hid (Op.out.below hb)
  clear Op
  have Op := Op_
  clear Op_
  have Oq_ := Lib.hid (Oq.out.below hb)
  clear Oq
  have Oq := Oq_
  clear Oq_
  have Og_ := Lib.hid (Og.out.below hb)
  clear Og
  have Og := Og_
  clear Og_
  have Od_ := Lib.hid (Od.out.below hb)
  clear Od
  have Od := Od_
  clear Od_
  have Of_ := Lib.hid (Of.out.below hb)
  clear Of
  have Of := Of_
  clear Of_
  have Oi := Lib.hid ho
  have hs16 := hb.size
  clear ho hb hci
  go_wp2_with fail
  refine (toIntS_c ys _ _ _ _ (HY.out.below HB.out) rfl hly).mono ?_
  rintro e w17 ⟨Aj, cj, rfl, hcj, ho, hb⟩
  have HB_ := Lib.hid (below_then HB.out hb)
  clear HB
  have HB := HB_
  clear HB_
  have Oa_ := Lib.hid (Oa.out.below hb)
  clear Oa
  have Oa := Oa_
  clear Oa_
  have Ob_ := Lib.hid (Ob.out.below hb)
  clear Ob
  have Ob := Ob_
  clear Ob_
  have Oc_ := Lib.hid (Oc.out.below hb)
  clear Oc
  have Oc := Oc_
  clear Oc_
  have Op_ := Lib.hid (Op.out.below hb)
  clear Op
  have Op := Op_
  clear Op_
  have Oq_ := Lib.hid (Oq.out.below hb)
  clear Oq
  have Oq := Oq_
  clear Oq_
  have Og_ := Lib.hid (Og.out.below hb)
  clear Og
  have Og := Og_
  clear Og_
  have Od_ := Lib.hid (Od.out.below hb)
  clear Od
  have Od := Od_
  clear Od_
  have Of_ := Lib.hid (Of.out.below hb)
  clear Of
  have Of := Of_
  clear Of_
  have Oi_ := Lib.hid (Oi.out.below hb)
  clear Oi
  have Oi := Oi_
  clear Oi_
  have Oj := Lib.hid ho
  have hs17 := hb.size
  clear ho hb hcj
  go_wp2_with fail
  refine (CutMask_i xs ys _ _ _ _ _ _ _ Oi.out.ints Oj.out.ints rfl rfl hlx hly).mono ?_
  rintro e w18 ⟨Ah, ch, rfl, hch, ho, hb⟩
  have HB_ := Lib.hid (below_then HB.out hb)
  clear HB
  have HB := HB_
  clear HB_
  have Oa_ := Lib.hid (Oa.out.below hb)
  clear Oa
  have Oa := Oa_
  clear Oa_
  have Ob_ := Lib.hid (Ob.out.below hb)
  clear Ob
  have Ob := Ob_
  clear Ob_
  have Oc_ := Lib.hid (Oc.out.below hb)
  clear Oc
  have Oc := Oc_
  clear Oc_
  have Op_ := Lib.hid (Op.out.below hb)
  clear Op
  have Op := Op_
  clear Op_
  have Oq_ := Lib.hid (Oq.out.below hb)
  clear Oq
  have Oq := Oq_
  clear Oq_
  have Og_ := Lib.hid (Og.out.below hb)
  clear Og
  have Og := Og_
  clear Og_
  have Od_ := Lib.hid (Od.out.below hb)
  clear Od
  have Od := Od_
  clear Od_
  have Of_ := Lib.hid (Of.out.below hb)
  clear Of
  have Of := Of_
  clear Of_
  have Oi_ := Lib.hid (Oi.out.below hb)
  clear Oi
  have Oi := Oi_
  clear Oi_
  have Oj_ := Lib.hid (Oj.out.below hb)
  clear Oj
  have Oj := Oj_
  clear Oj_
  have Oh := Lib.hid ho
  have hs18 := hb.size
  clear ho hb hch
  go_wp2_with fail
  refine (eqIntS_c (cutV xs ys) _ _ _ _ _ _ _ Oh.out.ints Oc.out.ints rfl rfl hlv).mono ?_
  rintro e w19 ⟨rfl, hb, hz⟩
  have HB_ := Lib.hid (below_then HB.out hb)
  clear HB
  have HB := HB_
  clear HB_
  have Oa_ := Lib.hid (Oa.out.below hb)
  clear Oa
  have Oa := Oa_
  clear Oa_
  have Ob_ := Lib.hid (Ob.out.below hb)
  clear Ob
  have Ob := Ob_
  clear Ob_
  have Oc_ := Lib.hid (Oc.out.below hb)
  clear Oc
  have Oc := Oc_
  clear Oc_
  have Op_ := Lib.hid (Op.out.below hb)
  clear Op
  have Op := Op_
  clear Op_
  have Oq_ := Lib.hid (Oq.out.below hb)
  clear Oq
  have Oq := Oq_
  clear Oq_
  have Og_ := Lib.hid (Og.out.below hb)
  clear Og
  have Og := Og_
  clear Og_
  have Od_ := Lib.hid (Od.out.below hb)
  clear Od
  have Od := Od_
  clear Od_
  have Of_ := Lib.hid (Of.out.below hb)
  clear Of
  have Of := Of_
  clear Of_
  have Oi_ := Lib.hid (Oi.out.below hb)
  clear Oi
  have Oi := Oi_
  clear Oi_
  have Oj_ := Lib.hid (Oj.out.below hb)
  clear Oj
  have Oj := Oj_
  clear Oj_
  have Oh_ := Lib.hid (Oh.out.below hb)
  clear Oh
  have Oh := Oh_
  clear Oh_
  have hs19 := hb.size
  clear hb hz
  go_wp2_with fail
  refine (heldIntS_c _ _ _ 1 _ Og.out.ints hlv (by omega) (by omega)).mono ?_
  rintro e w_ ⟨rfl, rfl⟩
  go_wp2
  go_ret
  exact ⟨rfl, HB.out⟩
end Go.Proofs.Ytjfbbieacpnpkaa
