/-
  The walk of FnDashLength: it returns true for every code.
-/
import Derived.Test.YtjigoidcmlebhaaW5Shift
namespace Go.Proofs.Ytjigoidcmlebhaa
open Go.RowKit
set_option linter.unusedSimpArgs false
set_option linter.unusedVariables false

set_option maxHeartbeats 4000000 in
theorem walk_FnDashLength (w : World) (a0 : Option Addr) (len0 cap0 : Nat) (z0 : List Int) (w0 : IsRow .u8 w a0 len0 cap0 z0) :
    Calls Try.prog 8 #[.slice a0 len0 cap0] w fun e w' => e = .returned (.bool true) ∧ Below w.heap.size w w' := by
  have HC := Lib.hid w0.code
  clear w0
  by_cases hl : 1048576 < len0
  · have hl2 : (1048576 : Int) < (len0 : Int) := by omega
    go_enter Try.func8, Try.ntmps8
    go_wp2
    go_ret
    exact ⟨rfl, Below.refl _ _⟩
  have hl2 : ¬ (1048576 : Int) < (len0 : Int) := by omega
  go_enter Try.func8, Try.ntmps8
  go_wp2_with fail
  refine (DrawDashLength_c _ _ _ _ HC.out).mono ?_
  rintro e w1 ⟨zs, A1, cap1, b, t, hl1, hc1, hc2, hbd, b0, b1, t0, t1, rfl, hi1, hb1⟩
  have HM := Lib.hid hi1
  have HB := Lib.hid hb1
  clear hi1 hb1 hbd
  unfold maxLen at hc2
  have g1 := lenV_bd zs b t
  go_wp2_with fail
  refine (DashLength_i zs _ _ _ _ _ _ HM.out rfl (by omega)).mono ?_
  rintro e w2 ⟨rfl, hb2⟩
  have HM_ := Lib.hid (show Ints w2 A1 zs from HM.out.below hb2)
  clear HM
  have HM := HM_
  clear HM_
  have HB_ := Lib.hid (below_then HB.out hb2)
  clear HB
  have HB := HB_
  clear HB_
  have hs2 := hb2.size
  clear hb2
  by_cases hn : lenV zs b t < 0
  · go_wp2_with (first | (go_at_call 19; refine (DashLength_s zs _ _ _ _ _ _ HM.out rfl (by omega)).mono ?_; rintro e wz ⟨rfl, rfl⟩))
    go_ret
    exact ⟨ret_b (by simp), HB.out⟩
  have hv : dashB zs b t = true := by
    cases e : dashB zs b t
    · exact absurd (lenV_no e) (by omega)
    · rfl
  obtain ⟨hp, b2, b3, t2, t3⟩ := dashB_true hv
  have hlr := runs_len (dr zs b) t.toNat
  have hbd : ∀ s ∈ runs (dr zs b) t.toNat, 0 ≤ s.1 ∧ s.1 < s.2 ∧ s.2 ≤ 1000 := fun s hs => by have := (runs_ok (dr zs b) t.toNat).bd s hs; omega
  have HBd := Lib.hid hbd
  have HSum := Lib.hid (runs_ok (dr zs b) t.toNat).sum
  have HN := Lib.hid (show lenV zs b t = cnt (dr zs b) t.toNat from lenV_yes hp b2 b3 t2 t3)
  obtain ⟨l, hl⟩ : ∃ l, l = runs (dr zs b) t.toNat := ⟨_, rfl⟩
  rw [← hl] at hlr HBd HSum
  have HL := Lib.hid (show l = spansV zs b t by rw [hl]; simp [spansV, hv])
  clear hbd hl
  have hlv1 : (l.length : Int) ≤ 400 := by omega
  go_wp2_with (first | (go_at_call 19; refine (DashLength_s zs _ _ _ _ _ _ HM.out rfl (by omega)).mono ?_; rintro e wz ⟨rfl, rfl⟩) | fail)
  refine (DashSpans_i zs _ _ _ _ _ _ HM.out rfl (by omega)).mono ?_
  rw [← HL.out]
  rintro e w3 ⟨A3, cap3, rfl, hc3, ho3, hb3⟩
  have HM_ := Lib.hid (show Ints w3 A1 zs from HM.out.below hb3)
  clear HM
  have HM := HM_
  clear HM_
  have HB_ := Lib.hid (below_then HB.out hb3)
  clear HB
  have HB := HB_
  clear HB_
  have hs3 := hb3.size
  have HO := Lib.hid (show Ints w3 A3 (flat l) from ho3.ints)
  clear ho3 hb3
  go_wp2
  go_loopw [8, 9] (fun s i wr => ∃ k : Nat, k ≤ l.length ∧ i = .int .i64 k ∧ s = .int .i64 (tot (l.take k)) ∧ Below w3.heap.size w3 wr) (fun _ i _ => l.length - (intOf i).toNat)
  case atStart => exact ⟨0, Nat.zero_le _, rfl, rfl, Below.refl _ _⟩
  case round =>
    obtain ⟨k, hk, rfl, rfl, hbel⟩ := hrel
    have HBel := Lib.hid hbel
    have hsr := hbel.size
    obtain ⟨z1, z2⟩ := tot_bd HBd.out hk
    clear hbel
    by_cases hlt : k < l.length
    · obtain ⟨bb, off, rfl, hbb, hcc⟩ := HO.out (by rw [flat_length]; omega)
      obtain ⟨s1, s2⟩ := pair_cells (w := wr) (fun i hi => (HBel.out.cell (p := ⟨bb, off + i, none⟩) hbb).trans (hcc i hi)) hlt
      have hp2 := HBd.out _ (pth_mem hlt)
      have HT := Lib.hid (tot_take l hlt)
      have hk0 : (0 : Int) ≤ (k : Int) := by omega
      have hk1 : (k : Int) < (l.length : Int) := by omega
      have e1 : IntKind.i64.wrap (tot (l.take k) + (pth l k).2) = tot (l.take k) + (pth l k).2 := IntWalk.i64_in _ (by omega)
      have e2 : IntKind.i64.wrap (tot (l.take k) + (pth l k).2 - (pth l k).1) = tot (l.take k) + (pth l k).2 - (pth l k).1 := IntWalk.i64_in _ (by omega)
      clear hcc
      go_wp2
      go_quiet (fail)
      go_wp2
      go_roundw
      case rel => exact ⟨k + 1, by omega, by go_num, by show Value.int .i64 _ = Value.int .i64 _; congr 1; rw [HT.out]; omega, below_drewN HBel.out _⟩
      case measure => simp [intOf]; omega
    · have he : l.take k = l := List.take_of_length_le (by omega)
      have HE := Lib.hid (show tot (l.take k) = lenV zs b t by rw [he, HN.out, HSum.out])
      have ht := HE.out
      have HM4 := Lib.hid (HM.out.below HBel.out)
      have HB4 := Lib.hid (below_then HB.out HBel.out)
      clear he
      have hq : t.tdiv 2 = t / 2 := Int.tdiv_eq_ediv_of_nonneg t2
      have g3 := lenV_bd zs (b + t / 2) (t - t / 2)
      have g4 := lenV_bd zs b (t / 2)
      go_wp2_with fail
      refine (DashLength_i zs _ _ _ _ _ _ HM4.out rfl (by omega)).mono ?_
      rintro e w5 ⟨rfl, hb5⟩
      have HM5 := Lib.hid (HM4.out.below hb5)
      have HB5 := Lib.hid (below_then HB4.out hb5)
      clear hb5
      by_cases hr : lenV zs (b + t / 2) (t - t / 2) < 0
      · go_wp2
        go_ret
        exact ⟨rfl, HB5.out⟩
      · have hb6 : b + t / 2 ≤ 400 := by
          by_cases h : b + t / 2 ≤ 400
          · exact h
          · exact absurd (lenV_no (zs := zs) (b := b + t / 2) (t := t - t / 2) (by simp [dashB, inB_hi (n := b + t / 2) (lo := 0) (hi := 400) h])) (by omega)
        have hh := lenV_half hp (b := b) (t := t) (u := t / 2) b2 hb6 (by omega) (by omega) t3
        have hh2 : (lenV zs b (t / 2) + lenV zs (b + t / 2) (t - t / 2) == lenV zs b t) = true := by rw [beq_iff_eq]; exact hh
        go_wp2_with fail
        refine (DashLength_i zs _ _ _ _ _ _ HM5.out rfl (by omega)).mono ?_
        rintro e w6 ⟨rfl, hb6⟩
        have HB6 := Lib.hid (below_then HB5.out hb6)
        clear hb6
        go_wp2
        go_ret
        exact ⟨ret_b (by first | rfl | exact hh2 | (simp; omega)), HB6.out⟩

end Go.Proofs.Ytjigoidcmlebhaa
