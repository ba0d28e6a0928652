/-
  The walk of FnExactDashSpans: it returns true for every list and every two numbers.
-/
import Derived.Test.YtjigoidcmlebhaaDashS
import Derived.Test.YtjigoidcmlebhaaSpanK
namespace Go.Proofs.Ytjigoidcmlebhaa
open Go.RowKit
set_option linter.unusedSimpArgs false
set_option linter.unusedVariables false

theorem spansV_le (zs : List Int) (b t : Int) : (spansV zs b t).length ≤ 400 := by
  unfold spansV; split
  · rename_i h
    have := runs_len (dr zs b) t.toNat
    have := dashB_true h
    omega
  · exact Nat.zero_le _
set_option maxHeartbeats 4000000 in
theorem walk_FnExactDashSpans (w : World) (a0 : Option Addr) (len0 cap0 : Nat) (z0 : List Int) (w0 : IsRow .i64 w a0 len0 cap0 z0) (a1 : Int) (w1 : (Lit.int .i64 a1).wf = true) (a2 : Int) (w2 : (Lit.int .i64 a2).wf = true) :
    Calls Try.prog 9 #[.slice a0 len0 cap0, .int .i64 a1, .int .i64 a2] w fun e w' => e = .returned (.bool true) ∧ Below w.heap.size w w' := by
  obtain ⟨hi0, hl0, -, -, -⟩ := w0.ints
  generalize hzz : z0.take len0 = zs at *
  clear hzz w0 w1 w2
  subst hl0
  have HA := Lib.hid hi0
  clear hi0
  by_cases hbig : 1048576 < zs.length
  · have hb2 : (1048576 : Int) < (zs.length : Int) := by omega
    go_enter Try.func9, Try.ntmps9
    go_wp2
    go_ret
    exact ⟨rfl, Below.refl _ _⟩
  have hb2 : (zs.length : Int) ≤ 1048576 := by omega
  have hlm : zs.length ≤ 1000000000000 := by omega
  have hlv : (spansV zs a1 a2).length ≤ 1000000000000 := by have := spansV_le zs a1 a2; omega
  have hlv2 : ((spansV zs a1 a2).length : Int) ≤ 400 := by have := spansV_le zs a1 a2; omega
  go_enter Try.func9, Try.ntmps9
  go_wp2_with fail
  refine (toIntS_c zs _ _ _ _ HA.out rfl hlm).mono ?_
  rintro e w1 ⟨Aa, ca, rfl, hca, ho, hb⟩
  have HB := Lib.hid hb
  have Oa := Lib.hid ho
  have hs1 := hb.size
  clear ho hb hca
  go_wp2_with fail
  refine (DashSpans_s zs _ _ _ _ _ _ Oa.out.ints rfl hlm).mono ?_
  rintro e w2 ⟨Ab, cb, rfl, hcb, ho, hb⟩
  have HB_ := Lib.hid (below_then HB.out hb)
  clear HB
  have HB := HB_
  clear HB_
  have Oa_ := Lib.hid (Oa.out.below hb)
  clear Oa
  have Oa := Oa_
  clear Oa_
  have Ob := Lib.hid ho
  have hs2 := hb.size
  clear ho hb hcb
  go_wp2_with fail
  refine (toIntS_c zs _ _ _ _ (HA.out.below HB.out) rfl hlm).mono ?_
  rintro e w3 ⟨Ax, cx, rfl, hcx, ho, hb⟩
  have HB_ := Lib.hid (below_then HB.out hb)
  clear HB
  have HB := HB_
  clear HB_
  have Oa_ := Lib.hid (Oa.out.below hb)
  clear Oa
  have Oa := Oa_
  clear Oa_
  have Ob_ := Lib.hid (Ob.out.below hb)
  clear Ob
  have Ob := Ob_
  clear Ob_
  have Ox := Lib.hid ho
  have hs3 := hb.size
  clear ho hb hcx
  go_wp2_with fail
  refine (DashSpans_i zs _ _ _ _ _ _ Ox.out.ints rfl hlm).mono ?_
  rintro e w4 ⟨Ag, cg, rfl, hcg, ho, hb⟩
  have HB_ := Lib.hid (below_then HB.out hb)
  clear HB
  have HB := HB_
  clear HB_
  have Oa_ := Lib.hid (Oa.out.below hb)
  clear Oa
  have Oa := Oa_
  clear Oa_
  have Ob_ := Lib.hid (Ob.out.below hb)
  clear Ob
  have Ob := Ob_
  clear Ob_
  have Ox_ := Lib.hid (Ox.out.below hb)
  clear Ox
  have Ox := Ox_
  clear Ox_
  have Og := Lib.hid ho
  have hs4 := hb.size
  clear ho hb hcg
  go_wp2_with fail
  refine (eqSpanS_c (spansV zs a1 a2) _ _ _ _ _ _ _ Og.out.ints Ob.out.ints rfl rfl hlv).mono ?_
  rintro e w5 ⟨rfl, hb⟩
  have HB_ := Lib.hid (below_then HB.out hb)
  clear HB
  have HB := HB_
  clear HB_
  have Oa_ := Lib.hid (Oa.out.below hb)
  clear Oa
  have Oa := Oa_
  clear Oa_
  have Ob_ := Lib.hid (Ob.out.below hb)
  clear Ob
  have Ob := Ob_
  clear Ob_
  have Ox_ := Lib.hid (Ox.out.below hb)
  clear Ox
  have Ox := Ox_
  clear Ox_
  have Og_ := Lib.hid (Og.out.below hb)
  clear Og
  have Og := Og_
  clear Og_
  have hs5 := hb.size
  clear hb
  go_wp2_with fail
  refine (toIntS_c zs _ _ _ _ (HA.out.below HB.out) rfl hlm).mono ?_
  rintro e w6 ⟨Ay, cy, rfl, hcy, ho, hb⟩
  have HB_ := Lib.hid (below_then HB.out hb)
  clear HB
  have HB := HB_
  clear HB_
  have Oa_ := Lib.hid (Oa.out.below hb)
  clear Oa
  have Oa := Oa_
  clear Oa_
  have Ob_ := Lib.hid (Ob.out.below hb)
  clear Ob
  have Ob := Ob_
  clear Ob_
  have Ox_ := Lib.hid (Ox.out.below hb)
  clear Ox
  have Ox := Ox_
  clear Ox_
  have Og_ := Lib.hid (Og.out.below hb)
  clear Og
  have Og := Og_
  clear Og_
  have Oy := Lib.hid ho
  have hs6 := hb.size
  clear ho hb hcy
  go_wp2_with fail
  refine (eqIntS_c zs _ _ _ _ _ _ _ Ox.out.ints Oy.out.ints rfl rfl hlm).mono ?_
  rintro e w7 ⟨rfl, hb, hz⟩
  have HB_ := Lib.hid (below_then HB.out hb)
  clear HB
  have HB := HB_
  clear HB_
  have Oa_ := Lib.hid (Oa.out.below hb)
  clear Oa
  have Oa := Oa_
  clear Oa_
  have Ob_ := Lib.hid (Ob.out.below hb)
  clear Ob
  have Ob := Ob_
  clear Ob_
  have Ox_ := Lib.hid (Ox.out.below hb)
  clear Ox
  have Ox := Ox_
  clear Ox_
  have Og_ := Lib.hid (Og.out.below hb)
  clear Og
  have Og := Og_
  clear Og_
  have Oy_ := Lib.hid (Oy.out.below hb)
  clear Oy
  have Oy := Oy_
  clear Oy_
  have hs7 := hb.size
  clear hb hz
  go_wp2_with fail
  refine (markIntS_c _ _ zs _ _ _ 1 _ Ox.out rfl hlm (by omega) (by omega)).mono ?_
  rintro e w8 ⟨rfl, ho, hon, hz⟩
  have HB_ := Lib.hid (hon.below HB.out (by omega) (by omega))
  clear HB
  have HB := HB_
  clear HB_
  have Oa_ := Lib.hid (Oa.out.only hon (by omega))
  clear Oa
  have Oa := Oa_
  clear Oa_
  have Ob_ := Lib.hid (Ob.out.only hon (by omega))
  clear Ob
  have Ob := Ob_
  clear Ob_
  clear Ox
  have Ox := Lib.hid ho
  have Og_ := Lib.hid (Og.out.only hon (by omega))
  clear Og
  have Og := Og_
  clear Og_
  have Oy_ := Lib.hid (Oy.out.only hon (by omega))
  clear Oy
  have Oy := Oy_
  clear Oy_
  have hs8 := hon.size
  clear ho hon hz
  go_wp2_with fail
  refine (eqSpanS_c (spansV zs a1 a2) _ _ _ _ _ _ _ Og.out.ints Ob.out.ints rfl rfl hlv).mono ?_
  rintro e w9 ⟨rfl, hb⟩
  have HB_ := Lib.hid (below_then HB.out hb)
  clear HB
  have HB := HB_
  clear HB_
  have Oa_ := Lib.hid (Oa.out.below hb)
  clear Oa
  have Oa := Oa_
  clear Oa_
  have Ob_ := Lib.hid (Ob.out.below hb)
  clear Ob
  have Ob := Ob_
  clear Ob_
  have Ox_ := Lib.hid (Ox.out.below hb)
  clear Ox
  have Ox := Ox_
  clear Ox_
  have Og_ := Lib.hid (Og.out.below hb)
  clear Og
  have Og := Og_
  clear Og_
  have Oy_ := Lib.hid (Oy.out.below hb)
  clear Oy
  have Oy := Oy_
  clear Oy_
  have hs9 := hb.size
  clear hb
  go_wp2_with fail
  refine (markSpanS_c _ _ (flat (spansV zs a1 a2)) _ _ _ 1 _ Og.out (flat_length _) hlv (by omega) (by omega)).mono ?_
  rintro e w10 ⟨rfl, ho, hon, hz⟩
  have HB_ := Lib.hid (hon.below HB.out (by omega) (by omega))
  clear HB
  have HB := HB_
  clear HB_
  have Oa_ := Lib.hid (Oa.out.only hon (by omega))
  clear Oa
  have Oa := Oa_
  clear Oa_
  have Ob_ := Lib.hid (Ob.out.only hon (by omega))
  clear Ob
  have Ob := Ob_
  clear Ob_
  have Ox_ := Lib.hid (Ox.out.only hon (by omega))
  clear Ox
  have Ox := Ox_
  clear Ox_
  clear Og
  have Og := Lib.hid ho
  have Oy_ := Lib.hid (Oy.out.only hon (by omega))
  clear Oy
  have Oy := Oy_
  clear Oy_
  have hs10 := hon.size
  clear ho hon hz
  go_wp2_with fail
  refine (heldSpanS_c _ _ _ 1 _ Og.out.ints hlv (by omega) (by omega)).mono ?_
  rintro e w_ ⟨rfl, rfl⟩
  go_wp2_with fail
  refine (toIntS_c zs _ _ _ _ (HA.out.below HB.out) rfl hlm).mono ?_
  rintro e w11 ⟨Az, cz, rfl, hcz, ho, hb⟩
  have HB_ := Lib.hid (below_then HB.out hb)
  clear HB
  have HB := HB_
  clear HB_
  have Oa_ := Lib.hid (Oa.out.below hb)
  clear Oa
  have Oa := Oa_
  clear Oa_
  have Ob_ := Lib.hid (Ob.out.below hb)
  clear Ob
  have Ob := Ob_
  clear Ob_
  have Ox_ := Lib.hid (Ox.out.below hb)
  clear Ox
  have Ox := Ox_
  clear Ox_
  have Og_ := Lib.hid (Og.out.below hb)
  clear Og
  have Og := Og_
  clear Og_
  have Oy_ := Lib.hid (Oy.out.below hb)
  clear Oy
  have Oy := Oy_
  clear Oy_
  have Oz := Lib.hid ho
  have hs11 := hb.size
  clear ho hb hcz
  go_wp2_with fail
  refine (DashSpans_i zs _ _ _ _ _ _ Oz.out.ints rfl hlm).mono ?_
  rintro e w12 ⟨Ah, ch, rfl, hch, ho, hb⟩
  have HB_ := Lib.hid (below_then HB.out hb)
  clear HB
  have HB := HB_
  clear HB_
  have Oa_ := Lib.hid (Oa.out.below hb)
  clear Oa
  have Oa := Oa_
  clear Oa_
  have Ob_ := Lib.hid (Ob.out.below hb)
  clear Ob
  have Ob := Ob_
  clear Ob_
  have Ox_ := Lib.hid (Ox.out.below hb)
  clear Ox
  have Ox := Ox_
  clear Ox_
  have Og_ := Lib.hid (Og.out.below hb)
  clear Og
  have Og := Og_
  clear Og_
  have Oy_ := Lib.hid (Oy.out.below hb)
  clear Oy
  have Oy := Oy_
  clear Oy_
  have Oz_ := Lib.hid (Oz.out.below hb)
  clear Oz
  have Oz := Oz_
  clear Oz_
  have Oh := Lib.hid ho
  have hs12 := hb.size
  clear ho hb hch
  go_wp2_with fail
  refine (eqSpanS_c (spansV zs a1 a2) _ _ _ _ _ _ _ Oh.out.ints Ob.out.ints rfl rfl hlv).mono ?_
  rintro e w13 ⟨rfl, hb⟩
  have HB_ := Lib.hid (below_then HB.out hb)
  clear HB
  have HB := HB_
  clear HB_
  have Oa_ := Lib.hid (Oa.out.below hb)
  clear Oa
  have Oa := Oa_
  clear Oa_
  have Ob_ := Lib.hid (Ob.out.below hb)
  clear Ob
  have Ob := Ob_
  clear Ob_
  have Ox_ := Lib.hid (Ox.out.below hb)
  clear Ox
  have Ox := Ox_
  clear Ox_
  have Og_ := Lib.hid (Og.out.below hb)
  clear Og
  have Og := Og_
  clear Og_
  have Oy_ := Lib.hid (Oy.out.below hb)
  clear Oy
  have Oy := Oy_
  clear Oy_
  have Oz_ := Lib.hid (Oz.out.below hb)
  clear Oz
  have Oz := Oz_
  clear Oz_
  have Oh_ := Lib.hid (Oh.out.below hb)
  clear Oh
  have Oh := Oh_
  clear Oh_
  have hs13 := hb.size
  clear hb
  go_wp2_with fail
  refine (heldSpanS_c _ _ _ 1 _ Og.out.ints hlv (by omega) (by omega)).mono ?_
  rintro e w_ ⟨rfl, rfl⟩
  go_wp2
  go_ret
  exact ⟨rfl, HB.out⟩

end Go.Proofs.Ytjigoidcmlebhaa
