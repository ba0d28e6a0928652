/-
  The walk of FnDashSpansApart: it returns true for every code.
-/
import Derived.Test.YtjigoidcmlebhaaDrawL
import Derived.Test.YtjigoidcmlebhaaDashS
import Derived.Test.YtjigoidcmlebhaaW5Is
import Derived.Deep.QuietTactic
import Derived.BigQuiet
namespace Go.Proofs.Ytjigoidcmlebhaa
open Go.RowKit
set_option linter.unusedSimpArgs false
set_option linter.unusedVariables false

theorem spansV_le4 (zs : List Int) (b t : Int) : (spansV zs b t).length ≤ 400 := by
  unfold spansV; split
  · rename_i h
    have := runs_len (dr zs b) t.toNat
    have := dashB_true h
    omega
  · exact Nat.zero_le _
theorem spansV_bd (zs : List Int) (b t : Int) : ∀ k, k < (spansV zs b t).length → 0 ≤ (pth (spansV zs b t) k).1 ∧ (pth (spansV zs b t) k).1 < (pth (spansV zs b t) k).2 ∧ (pth (spansV zs b t) k).2 ≤ t ∧ t ≤ 400 := by
  intro k hk
  by_cases h : dashB zs b t = true
  · have e : spansV zs b t = runs (dr zs b) t.toNat := by simp [spansV, h]
    rw [e] at hk ⊢
    have := (runs_ok (dr zs b) t.toNat).bd _ (pth_mem hk)
    have := dashB_true h
    omega
  · have e : spansV zs b t = [] := by simp [spansV, h]
    rw [e] at hk; simp at hk
theorem spansV_ap (zs : List Int) (b t : Int) : ∀ k, k + 1 < (spansV zs b t).length → (pth (spansV zs b t) k).2 < (pth (spansV zs b t) (k + 1)).1 := by
  intro k hk
  by_cases h : dashB zs b t = true
  · have e : spansV zs b t = runs (dr zs b) t.toNat := by simp [spansV, h]
    rw [e] at hk ⊢
    exact pairwise_pth (runs_ok (dr zs b) t.toNat).ap (by omega) hk
  · have e : spansV zs b t = [] := by simp [spansV, h]
    rw [e] at hk; simp at hk
set_option maxHeartbeats 4000000 in
theorem walk_FnDashSpansApart (w : World) (a0 : Option Addr) (len0 cap0 : Nat) (z0 : List Int) (w0 : IsRow .u8 w a0 len0 cap0 z0) :
    Calls Try.prog 12 #[.slice a0 len0 cap0] w fun e w' => e = .returned (.bool true) ∧ Below w.heap.size w w' := by
  have HC := Lib.hid w0.code
  clear w0
  by_cases hl : 1048576 < len0
  · have hl2 : (1048576 : Int) < (len0 : Int) := by omega
    go_enter Try.func12, Try.ntmps12
    go_wp2
    go_ret
    exact ⟨rfl, Below.refl _ _⟩
  have hl2 : ¬ (1048576 : Int) < (len0 : Int) := by omega
  go_enter Try.func12, Try.ntmps12
  go_wp2_with fail
  refine (DrawDashSpans_c _ _ _ _ HC.out).mono ?_
  rintro e w1 ⟨zs, A1, cap1, b, t, hl1, hc1, hc2, hbd, b0, b1, t0, t1, rfl, hi1, hb1⟩
  have HM := Lib.hid hi1
  have HB := Lib.hid hb1
  clear hi1 hb1 hbd
  unfold maxLen at hc2
  have hlv := spansV_le4 zs b t
  have HD := Lib.hid (spansV_bd zs b t)
  have HP := Lib.hid (spansV_ap zs b t)
  obtain ⟨l, hl⟩ : ∃ l, l = spansV zs b t := ⟨_, rfl⟩
  rw [← hl] at hlv HD HP
  have HL := Lib.hid hl
  clear hl
  have hlv1 : (l.length : Int) ≤ 400 := by omega
  go_wp2_with fail
  refine (DashSpans_i zs _ _ _ _ _ _ HM.out rfl (by omega)).mono ?_
  rw [← HL.out]
  rintro e w2 ⟨A2, cap2, rfl, hc2, ho2, hb2⟩
  have HM_ := Lib.hid (show Ints w2 A1 zs from HM.out.below hb2)
  clear HM
  have HM := HM_
  clear HM_
  have HB_ := Lib.hid (below_then HB.out hb2)
  clear HB
  have HB := HB_
  clear HB_
  have hs2 := hb2.size
  have HO := Lib.hid (show Ints w2 A2 (flat l) from ho2.ints)
  clear ho2 hb2
  go_wp2_with fail
  refine (DashSpans_s zs _ _ _ _ _ _ HM.out rfl (by omega)).mono ?_
  rw [← HL.out]
  rintro e w3 ⟨A3, cap3, rfl, hc3, ho3, hb3⟩
  have HM_ := Lib.hid (show Ints w3 A1 zs from HM.out.below hb3)
  clear HM
  have HM := HM_
  clear HM_
  have HO_ := Lib.hid (show Ints w3 A2 (flat l) from HO.out.below hb3)
  clear HO
  have HO := HO_
  clear HO_
  have HB_ := Lib.hid (below_then HB.out hb3)
  clear HB
  have HB := HB_
  clear HB_
  have hs3 := hb3.size
  have HQ := Lib.hid (show Ints w3 A3 (flat l) from ho3.ints)
  clear ho3 hb3
  go_wp2_with fail
  refine (equalSpans_c l _ _ _ _ _ _ _ HO.out HQ.out rfl rfl (by omega)).mono ?_
  rintro e w4 ⟨rfl, hb4⟩
  have HM_ := Lib.hid (show Ints w4 A1 zs from HM.out.below hb4)
  clear HM
  have HM := HM_
  clear HM_
  have HO_ := Lib.hid (show Ints w4 A2 (flat l) from HO.out.below hb4)
  clear HO
  have HO := HO_
  clear HO_
  have HQ_ := Lib.hid (show Ints w4 A3 (flat l) from HQ.out.below hb4)
  clear HQ
  have HQ := HQ_
  clear HQ_
  have HB_ := Lib.hid (below_then HB.out hb4)
  clear HB
  have HB := HB_
  clear HB_
  have hs4 := hb4.size
  clear hb4
  go_wp2
  go_loopw [7] (fun i wr => ∃ k : Nat, k ≤ l.length ∧ i = .int .i64 k ∧ Below w4.heap.size w4 wr) (fun i _ => l.length - (intOf i).toNat)
  case atStart => exact ⟨0, Nat.zero_le _, rfl, Below.refl _ _⟩
  case round =>
    obtain ⟨k, hk, rfl, hbel⟩ := hrel
    have HBel := Lib.hid hbel
    have hsr := hbel.size
    clear hbel
    by_cases hlt : k < l.length
    · obtain ⟨b1, o1, rfl, q1, c1⟩ := HO.out (by rw [flat_length]; omega)
      have C1 := Lib.hid c1
      clear c1
      obtain ⟨s1, s2⟩ := pair_cells (w := wr) (fun i hi => (HBel.out.cell (p := ⟨b1, o1 + i, none⟩) q1).trans (C1.out i hi)) hlt
      obtain ⟨d1, d2, d3, d4⟩ := HD.out k hlt
      have hk0 : (0 : Int) ≤ (k : Int) := by omega
      have hk1 : (k : Int) < (l.length : Int) := by omega
      have HP2 := Lib.hid (show 0 < k → (pth l (k - 1)).2 < (pth l k).1 from fun h => by have := HP.out (k - 1) (by omega); rwa [show k - 1 + 1 = k by omega] at this)
      have t1 : decide ((pth l k).2 ≤ (pth l k).1) = false := by simp; omega
      have t2 : decide (t < (pth l k).2) = false := by simp; omega
      by_cases hz : 0 < k
      · obtain ⟨s3, s4⟩ := pair_cells (w := wr) (fun i hi => (HBel.out.cell (p := ⟨b1, o1 + i, none⟩) q1).trans (C1.out i hi)) (show k - 1 < l.length by omega)
        have d5 := HP2.out hz
        have hj : IntKind.i64.wrap ((k : Int) - 1) = ((k - 1 : Nat) : Int) := by rw [IntWalk.i64_in _ (by omega)]; omega
        have hj0 : (0 : Int) ≤ ((k - 1 : Nat) : Int) := by omega
        have hj1 : ((k - 1 : Nat) : Int) < (l.length : Int) := by omega
        have hj2 : k - 1 < l.length := by omega
        have hz1 : (0 : Int) < (k : Int) := by omega
        have t3 : decide ((pth l k).1 ≤ (pth l (k - 1)).2) = false := by simp; omega
        go_wp2
        go_quiet (fail)
        go_wp2
        go_roundw
        case rel => exact ⟨k + 1, by omega, by go_num, below_drewN HBel.out _⟩
        case measure => simp [intOf]; omega
      · have hz1 : decide ((0 : Int) < (k : Int)) = false := by simp; omega
        have hz2 : decide (0 < k) = false := by simp; omega
        have HZ := Lib.hid hz
        clear hz
        go_wp2
        go_quiet (fail)
        go_wp2
        go_roundw
        case rel => exact ⟨k + 1, by omega, by go_num, below_drewN HBel.out _⟩
        case measure => simp [intOf]; omega
    · go_wp2
      go_ret
      exact ⟨rfl, below_then HB.out HBel.out⟩

end Go.Proofs.Ytjigoidcmlebhaa
