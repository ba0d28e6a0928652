/-
  The tiles of a queue. (Conditions: the bounds of each theorem.)
-/
import Derived.Test.YthfpplpklhclgaaDequeS
import Derived.Test.YthfpplpklhclgaaDequeK
import Derived.OwnWalk
import Derived.Maps.AppendAt
namespace Go.Proofs.Ythfpplpklhclgaa
open Go.RowKit
set_option linter.unusedSimpArgs false
set_option linter.unusedVariables false

theorem own_of_row {w : World} {base n : Nat} {v : Value} {zs : List Int} (h : w.ownsRow base 3 1 v n (zs.map (Value.int .i64))) : ∃ A cap, v = .slice A n cap ∧ n ≤ cap ∧ cap ≤ maxLen ∧ zs.length = n ∧ (A = none → n = 0 ∧ cap = 0) ∧ (∀ x, A = some x → ∃ g, x = ⟨g, 0, none⟩) ∧ Own base w.heap.size w A zs := by
  obtain ⟨hl, hv⟩ := h
  simp only [List.length_map, Nat.mul_one] at hl
  rcases hv with ⟨rfl, rfl⟩ | ⟨g, cap, cur, rfl, hb, hh, hnc, hcm, hsz, htk⟩
  · exact ⟨none, 0, rfl, Nat.le_refl _, by unfold maxLen; omega, hl, fun _ => ⟨rfl, rfl⟩, fun x hx => (by cases hx), fun hn => (by omega)⟩
  · refine ⟨some ⟨g, 0, none⟩, cap, rfl, hnc, hcm, hl, fun h => (by cases h), fun x hx => ⟨g, (by injection hx with hx; exact hx.symm)⟩, fun hn => ⟨g, rfl, hb, ?_, cur, hh, fun i hi => ?_⟩⟩
    · rcases Nat.lt_or_ge g w.heap.size with hlt | hge
      · exact hlt
      · rw [Array.getElem?_eq_none hge] at hh; cases hh
    · have e : (cur.toList.take (n * 1))[i]? = (zs.map (Value.int .i64))[i]? := by rw [htk]
      rw [List.getElem?_take_of_lt (by omega), List.getElem?_map, List.getElem?_eq_getElem hi] at e
      rw [← Array.getElem?_toList, e]; simp [nth_getElem hi]
theorem own_back {W w1 : World} {base size n : Nat} {t : TypeId} {v : Value} {xs : List Value} (h : W.ownsRow base t size v n xs) (hb : Below W.heap.size W w1) : w1.ownsRow base t size v n xs := by
  obtain ⟨hl, hv⟩ := h
  refine ⟨hl, ?_⟩
  rcases hv with h0 | ⟨g, cap, cur, hv, hbg, hh, rest⟩
  · exact .inl h0
  · refine .inr ⟨g, cap, cur, hv, hbg, ?_, rest⟩
    rw [hb.block g ?_]
    · exact hh
    · rcases Nat.lt_or_ge g W.heap.size with hlt | hge
      · exact hlt
      · rw [Array.getElem?_eq_none hge] at hh; cases hh
theorem Row.grownBy {w w1 : World} {g n : Nat} {R : Option Nat} {t : TypeId} {f : Nat → Value} (h : Row w g t n f) (hg : w.grownBy w1 R) (hne : ∀ k, R = some k → g ≠ k) : Row w1 g t n f := h.keep (hg.block g h.lt (fun e => hne g e.symm rfl))
/-- The tiles of a queue; none where it is no queue. -/
def tilesV (zs : List Int) (a b : Int) : List Int := if devB zs a b = true then ringZ zs a (cntN a b) else []
theorem tilesV_le (zs : List Int) (a b : Int) : (tilesV zs a b).length ≤ 16 := by
  unfold tilesV; split
  · rename_i h
    have := devB_true h
    rw [ringZ_length]; unfold cntN; omega
  · simp
set_option maxHeartbeats 2000000 in
theorem DequeTiles_i (zs : List Int) (A : Option Addr) (n cap : Nat) (a b : Int) (w : World) (h : Ints w A zs) (hn : zs.length = n) (hm : zs.length ≤ 1000000000000) :
    Calls Try.prog 14 #[.agg #[.slice A n cap, .int .i64 a, .int .i64 b]] w (Made w (tilesV zs a b)) := by
  subst hn
  have HI := Lib.hid h
  clear h
  cases hv : devB zs a b
  · have HT := Lib.hid (show tilesV zs a b = [] by simp [tilesV, hv])
    go_enter Try.func14, Try.ntmps14
    go_wp2_with fail
    refine (ValidDeque_i zs _ _ _ _ _ _ (HI.out.below (by go_grown)) rfl hm).mono ?_
    rintro e w1 ⟨rfl, hb⟩
    have HB := Lib.hid (show Below w.heap.size w w1 from below_then (by go_grown) hb)
    rw [hv]
    clear hb
    go_wp2
    go_ret
    rw [HT.out]
    exact ⟨none, 0, rfl, Nat.le_refl _, Own.nil _ _ _ _, HB.out⟩
  obtain ⟨hl, a0, a1, ab, b1, b2⟩ := devB_true hv
  have hlen : ∀ i : Nat, i < 16 → i < zs.length := fun i hi => by omega
  have HLen := Lib.hid hlen
  have hcn1 : (cntN a b : Int) ≤ b - a := by unfold cntN; omega
  have hcn2 : b - a ≤ (cntN a b : Int) := by unfold cntN; omega
  obtain ⟨i0, hi, hz0, hz1, hz2⟩ := info_parts int_info
  have HL := Lib.hid hl
  have HV := Lib.hid hv
  have hl0 : 0 < zs.length := by omega
  clear hlen hl
  go_enter Try.func14, Try.ntmps14
  go_wp2_with fail
  refine (ValidDeque_i zs _ _ _ _ _ _ (HI.out.below (by go_grown)) rfl hm).mono ?_
  rintro e w1 ⟨rfl, hb⟩
  have HB := Lib.hid (show Below w.heap.size w w1 from below_then (by go_grown) hb)
  have hx := (show Row w1 w.heap.size 27 3 (f3 (.slice A zs.length cap) (.int .i64 a) (.int .i64 b)) from Row.back (by (repeat (first | ((with_reducible refine row_box3x _ _ _ _ _ _ ?_) <;> (go_size; done)) | (with_reducible refine Row.alloc ?_ _) | (with_reducible refine Row.drew ?_)))) hb)
  obtain ⟨x0, x1, x2⟩ := cells3 hx
  have HX0 := Lib.hid hx
  have hs1 := hb.size
  (try simp only [World.size_alloc] at hs1)
  rw [hv]
  clear hb hx hv
  go_wp2
  go_loopw [3, 4] (fun v i wr => ∃ k : Nat, k ≤ cntN a b ∧ i = .int .i64 (a + (k : Int)) ∧ Row wr w.heap.size 27 3 (f3 (.slice A zs.length cap) (.int .i64 a) (.int .i64 b)) ∧ wr.ownsRow (w.heap.size + 1) 3 1 v k ((ringZ zs a k).map (Value.int .i64)) ∧ Below w.heap.size w wr) (fun _ i _ => (b - intOf i).toNat)
  case atStart => exact ⟨0, Nat.zero_le _, by simp, HX0.out, World.ownsRow_nil _ _ _ _, by have hhh := HB.out; go_grown⟩
  case round =>
    obtain ⟨k, hk, rfl, hx, ho, hbel⟩ := hrel
    obtain ⟨x0, x1, x2⟩ := cells3 hx
    have HX := Lib.hid hx
    have HO := Lib.hid ho
    have HBel := Lib.hid hbel
    have hsr := hbel.size
    have hlx := hx.lt
    clear hx ho hbel
    by_cases hlt : k < cntN a b
    · obtain ⟨q, hq, hq1, hq2⟩ := ring_q k a0
      have HQ := Lib.hid hq
      clear hq
      obtain ⟨bb, off, rfl, hbb, hcc⟩ := HI.out (by omega)
      have hsrc : wr.cell? ⟨bb, off + q, none⟩ = some (.int .i64 (nth zs q)) := (HBel.out.cell (p := ⟨bb, off + q, none⟩) hbb).trans (hcc q (HLen.out q hq1))
      have hq3 : (q : Int) < 16 := by omega
      have hq4 : (q : Int) < (zs.length : Int) := by have := HLen.out q hq1; omega
      have hq0 : (0 : Int) ≤ (q : Int) := by omega
      clear hcc
      go_wp2_with (first | (at_builtin; refine wpList_append_own _ rfl _ _ 22 rfl (w.heap.size + 1) 3 i0 (.int .i64 0) 1 8 Try.underlying22 hi hz0 hz1 hz2 rfl (by decide) _ _ _ rfl (HO.out.alloc _) ⟨wr.heap.size, 0, none⟩ 1 1 [.int .i64 (nth zs q)] rfl rfl (cell_one_new _ _ _) (by simp [Value.oneCell']) (by unfold maxLen; omega) (by omega) (by simp; omega) ?_; intro v' w9 hown' hgrow hnil; have HO4 := Lib.hid hown'; have HG4 := Lib.hid hgrow; clear hown' hgrow hnil))
      go_roundw
      case rel =>
        refine ⟨k + 1, by omega, by go_num, ?_, by rw [ringZ_succ, List.map_append, ← HQ.out]; exact HO4.out, (HBel.out.alloc (by omega) _).grown HG4.out (by simp; omega) (fun j hj => by have := (HO.out.lt j hj).1; omega)⟩
        exact (HX.out.alloc _).grownBy HG4.out (fun j hj => by have := (HO.out.lt j hj).1; omega)
      case measure => simp [intOf]; omega
    · have he : k = cntN a b := by omega
      subst he
      obtain ⟨A1, c1, rfl, hc1, hc2, hl1, hn1, hs1, ho1⟩ := own_of_row HO.out
      have HW := Lib.hid ho1
      have HN := Lib.hid hn1
      have HS := Lib.hid hs1
      have HT := Lib.hid (show tilesV zs a b = ringZ zs a (cntN a b) by simp [tilesV, HV.out])
      unfold maxLen at hc2
      clear ho1 hn1 hs1
      cases A1 with
      | none =>
        obtain ⟨hz1, hz2⟩ := HN.out rfl
        have hz3 : ((cntN a b : Nat) : Int) = 0 := by omega
        subst hz2
        have HZ := Lib.hid hz1
        have hz4 : cntN a b = 0 := hz1
        have hba : b ≤ a := by omega
        rw [hz4]
        clear hz1 hz4 hz3 hl1 hc1
        go_wp2
        go_ret
        rw [HT.out, HZ.out]
        exact ⟨none, 0, rfl, Nat.le_refl _, Own.nil _ _ _ _, HBel.out⟩
      | some x =>
        obtain ⟨g, rfl⟩ := HS.out x rfl
        have hL := Lib.hid hl1
        clear hl1
        go_wp2
        go_ret
        rw [HT.out]
        exact ⟨some ⟨g, 0, none⟩, cntN a b, (by show Ending.returned (Value.slice (some ⟨g, 0, none⟩) (cntN a b) (cntN a b)) = _; rw [hL.out]), by rw [hL.out]; exact Nat.le_refl _, HW.out.more (by omega) (Nat.le_refl _), HBel.out⟩
set_option maxHeartbeats 2000000 in
theorem DequeTiles_s (zs : List Int) (A : Option Addr) (n cap : Nat) (a b : Int) (w : World) (h : Ints w A zs) (hn : zs.length = n) (hm : zs.length ≤ 1000000000000) :
    Calls Try.prog 13 #[.agg #[.slice A n cap, .int .i64 a, .int .i64 b]] w (Made w (tilesV zs a b)) := by
  subst hn
  have HI := Lib.hid h
  clear h
  cases hv : devB zs a b
  · have HT := Lib.hid (show tilesV zs a b = [] by simp [tilesV, hv])
    go_enter Try.func13, Try.ntmps13
    go_wp2_with fail
    refine (validDeque_s zs _ _ _ _ _ _ (HI.out.below (by go_grown)) rfl hm).mono ?_
    rintro e w1 ⟨rfl, hb⟩
    have HB := Lib.hid (show Below w.heap.size w w1 from below_then (by go_grown) hb)
    rw [hv]
    clear hb
    go_wp2
    go_ret
    rw [HT.out]
    exact ⟨none, 0, rfl, Nat.le_refl _, Own.nil _ _ _ _, HB.out⟩
  obtain ⟨hl, a0, a1, ab, b1, b2⟩ := devB_true hv
  have hlen : ∀ i : Nat, i < 16 → i < zs.length := fun i hi => by omega
  have HLen := Lib.hid hlen
  have hcn1 : (cntN a b : Int) ≤ b - a := by unfold cntN; omega
  have hcn2 : b - a ≤ (cntN a b : Int) := by unfold cntN; omega
  obtain ⟨i0, hi, hz0, hz1, hz2⟩ := info_parts int_info
  have HL := Lib.hid hl
  have HV := Lib.hid hv
  have hl0 : 0 < zs.length := by omega
  clear hlen hl
  go_enter Try.func13, Try.ntmps13
  go_wp2_with fail
  refine (validDeque_s zs _ _ _ _ _ _ (HI.out.below (by go_grown)) rfl hm).mono ?_
  rintro e w1 ⟨rfl, hb⟩
  have HB := Lib.hid (show Below w.heap.size w w1 from below_then (by go_grown) hb)
  have hx := (show Row w1 w.heap.size 27 3 (f3 (.slice A zs.length cap) (.int .i64 a) (.int .i64 b)) from Row.back (by (repeat (first | ((with_reducible refine row_box3x _ _ _ _ _ _ ?_) <;> (go_size; done)) | (with_reducible refine Row.alloc ?_ _) | (with_reducible refine Row.drew ?_)))) hb)
  obtain ⟨x0, x1, x2⟩ := cells3 hx
  have HX0 := Lib.hid hx
  have hs1 := hb.size
  (try simp only [World.size_alloc] at hs1)
  have HO0 := Lib.hid (own_back (World.ownsRow_lit (base := w.heap.size + 1) (e := 3) (size := 1) (w.alloc (.cells #[.slice A zs.length cap, .int .i64 a, .int .i64 b] 27)) #[] 0 (by simp only [World.size_alloc]; omega) (by unfold maxLen; omega) rfl) hb)
  rw [hv]
  clear hb hx hv
  go_wp2
  go_loopw [3, 4] (fun v i wr => ∃ k : Nat, k ≤ cntN a b ∧ i = .int .i64 (a + (k : Int)) ∧ Row wr w.heap.size 27 3 (f3 (.slice A zs.length cap) (.int .i64 a) (.int .i64 b)) ∧ wr.ownsRow (w.heap.size + 1) 3 1 v k ((ringZ zs a k).map (Value.int .i64)) ∧ Below w.heap.size w wr) (fun _ i _ => (b - intOf i).toNat)
  case atStart => exact ⟨0, Nat.zero_le _, by simp, HX0.out, (by have h := HO0.out; simp only [World.size_alloc] at h; exact h), by have hhh := HB.out; go_grown⟩
  case round =>
    obtain ⟨k, hk, rfl, hx, ho, hbel⟩ := hrel
    obtain ⟨x0, x1, x2⟩ := cells3 hx
    have HX := Lib.hid hx
    have HO := Lib.hid ho
    have HBel := Lib.hid hbel
    have hsr := hbel.size
    have hlx := hx.lt
    clear hx ho hbel
    by_cases hlt : k < cntN a b
    · obtain ⟨q, hq, hq1, hq2⟩ := ring_q k a0
      have HQ := Lib.hid hq
      clear hq
      obtain ⟨bb, off, rfl, hbb, hcc⟩ := HI.out (by omega)
      have hsrc : wr.cell? ⟨bb, off + q, none⟩ = some (.int .i64 (nth zs q)) := (HBel.out.cell (p := ⟨bb, off + q, none⟩) hbb).trans (hcc q (HLen.out q hq1))
      have hq3 : (q : Int) < 16 := by omega
      have hq4 : (q : Int) < (zs.length : Int) := by have := HLen.out q hq1; omega
      have hq0 : (0 : Int) ≤ (q : Int) := by omega
      clear hcc
      go_wp2_with (first | (at_builtin; refine wpList_append_own _ rfl _ _ 22 rfl (w.heap.size + 1) 3 i0 (.int .i64 0) 1 8 Try.underlying22 hi hz0 hz1 hz2 rfl (by decide) _ _ _ rfl (HO.out.alloc _) ⟨wr.heap.size, 0, none⟩ 1 1 [.int .i64 (nth zs q)] rfl rfl (cell_one_new _ _ _) (by simp [Value.oneCell']) (by unfold maxLen; omega) (by omega) (by simp; omega) ?_; intro v' w9 hown' hgrow hnil; have HO4 := Lib.hid hown'; have HG4 := Lib.hid hgrow; clear hown' hgrow hnil))
      go_roundw
      case rel =>
        refine ⟨k + 1, by omega, by go_num, ?_, by rw [ringZ_succ, List.map_append, ← HQ.out]; exact HO4.out, (HBel.out.alloc (by omega) _).grown HG4.out (by simp; omega) (fun j hj => by have := (HO.out.lt j hj).1; omega)⟩
        exact (HX.out.alloc _).grownBy HG4.out (fun j hj => by have := (HO.out.lt j hj).1; omega)
      case measure => simp [intOf]; omega
    · have he : k = cntN a b := by omega
      subst he
      obtain ⟨A1, c1, rfl, hc1, hc2, hl1, hn1, hs1, ho1⟩ := own_of_row HO.out
      have HW := Lib.hid ho1
      have HN := Lib.hid hn1
      have HS := Lib.hid hs1
      have HT := Lib.hid (show tilesV zs a b = ringZ zs a (cntN a b) by simp [tilesV, HV.out])
      unfold maxLen at hc2
      clear ho1 hn1 hs1
      go_wp2
      go_ret
      rw [HT.out]
      exact ⟨A1, c1, (by show Ending.returned (Value.slice A1 (cntN a b) c1) = _; rw [hl1]), by omega, HW.out.more (by omega) (Nat.le_refl _), HBel.out⟩
end Go.Proofs.Ythfpplpklhclgaa
