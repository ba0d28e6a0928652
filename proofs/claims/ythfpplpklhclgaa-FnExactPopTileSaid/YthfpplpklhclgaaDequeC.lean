/-
  Copies of slots. (Conditions: the bounds of each theorem.)
-/
import Derived.Test.YthfpplpklhclgaaDequeT
import Derived.Lib.SliceRun
namespace Go.Proofs.Ythfpplpklhclgaa
open Go.RowKit
set_option linter.unusedSimpArgs false
set_option linter.unusedVariables false

theorem ints_news {w : World} {b off : Nat} {zs : List Int} (hc : ∀ i, i < zs.length → w.cell? ⟨b, off + i, none⟩ = some (.int .i64 (nth zs i))) (_hb : b < w.heap.size) {o : Obj} : ∀ (j : Nat) (u : Value), (zs.map (Value.int .i64))[j]? = some u → (w.alloc o).cell? ((⟨b, off, none⟩ : Addr).add j) = some u := by
  intro j u hj
  rw [List.getElem?_map] at hj
  have hjl : j < zs.length := by
    rcases Nat.lt_or_ge j zs.length with hl | hl
    · exact hl
    · rw [List.getElem?_eq_none hl] at hj; cases hj
  rw [List.getElem?_eq_getElem hjl] at hj
  simp at hj
  subst hj
  have hk := cell_keepA (hc j hjl) o
  rw [nth_getElem hjl] at hk
  rw [← hk]
  by_cases h0 : j = 0
  · subst h0; simp [Addr.add]
  · simp [Addr.add, h0]
theorem mod_q {n : Int} (h0 : 0 ≤ n) : ∃ q : Nat, q = (n % 16).toNat ∧ q < 16 ∧ Int.tmod n 16 = (q : Int) :=
  ⟨_, rfl, by omega, by rw [Int.tmod_eq_emod_of_nonneg h0]; omega⟩
set_option maxHeartbeats 1000000 in
theorem copyInts_o (zs : List Int) (b off n cap : Nat) (w : World) (hb : b < w.heap.size) (hc : ∀ i, i < zs.length → w.cell? ⟨b, off + i, none⟩ = some (.int .i64 (nth zs i))) (hn : zs.length = n) (h0 : 0 < n) (hl : n ≤ 1000) :
    Calls Try.prog 36 #[.slice (some ⟨b, off, none⟩) n cap] w (Made w zs) := by
  subst hn
  have HC := Lib.hid hc
  clear hc
  have HS := Lib.hid (show (w.alloc (.cells #[] 3)).ownsRow w.heap.size 3 1 (.slice (some ⟨w.heap.size, 0, none⟩) 0 0) 0 [] from World.ownsRow_lit w #[] 0 (Nat.le_refl _) (by unfold maxLen; omega) rfl)
  obtain ⟨i0, hi, hz0, hz1, hz2⟩ := info_parts int_info
  have hl1 : (zs.length : Int) ≤ 1000 := by omega
  go_enter Try.func36, Try.ntmps36
  go_wp2_with ((at_builtin; refine wpList_append_own _ rfl _ _ 22 rfl w.heap.size 3 i0 (.int .i64 0) 1 8 Try.underlying22 hi hz0 hz1 hz2 rfl (by decide) _ _ _ rfl HS.out ⟨b, off, none⟩ zs.length cap (zs.map (Value.int .i64)) rfl (by simp) (ints_news HC.out hb) (by simp [Value.oneCell']) (by unfold maxLen; omega) (by omega) (by simp) ?_; intro v' w9 hown' hgrow hnil; have HG := Lib.hid hgrow; obtain ⟨A1, c1, rfl, hcc1, hcm1, hl1, hn1, hs1, ho1⟩ := own_of_row (zs := zs) (by simpa using hown'); obtain ⟨g, rfl⟩ : ∃ g, A1 = some ⟨g, 0, none⟩ := (by cases A1 with | none => (exfalso; have := (hn1 rfl).1; omega) | some x => (obtain ⟨g, rfl⟩ := hs1 _ rfl; exact ⟨g, rfl⟩)); have HO := Lib.hid ho1; unfold maxLen at hcm1; clear hown' hgrow hnil hn1 hs1 ho1))
  go_ret
  refine ⟨some ⟨g, 0, none⟩, c1, rfl, by omega, HO.out, ((Below.refl _ _).alloc (Nat.le_refl _) _).grown HG.out (by simp) (fun j hj => (HS.out.lt j hj).1)⟩
set_option maxHeartbeats 1000000 in
theorem clone_o (zs : List Int) (b off n cap : Nat) (w : World) (hb : b < w.heap.size) (hc : ∀ i, i < zs.length → w.cell? ⟨b, off + i, none⟩ = some (.int .i64 (nth zs i))) (hn : zs.length = n) (h0 : 0 < n) (hl : n ≤ 1000) :
    Calls Try.prog 37 #[.slice (some ⟨b, off, none⟩) n cap] w (Made w zs) := by
  subst hn
  have HC := Lib.hid hc
  clear hc
  have HS := Lib.hid (show (w.alloc (.cells #[] 3)).ownsRow w.heap.size 3 1 (.slice (some ⟨w.heap.size, 0, none⟩) 0 0) 0 [] from World.ownsRow_lit w #[] 0 (Nat.le_refl _) (by unfold maxLen; omega) rfl)
  obtain ⟨i0, hi, hz0, hz1, hz2⟩ := info_parts int_info
  have hl1 : (zs.length : Int) ≤ 1000 := by omega
  have q22 : ∀ (w : World) (a : Option Addr) (n c n' c' : Nat), (binOp .eql 22 (.slice a n c) (.slice none n' c')).run Try.prog w = .ok (.bool a.isNone) w := fun w a n c n' c' => Lib.run_eql_slice_nil w _ _ a n c n' c' Try.underlying22
  go_enter Try.func37, Try.ntmps37
  go_wp2_with (first | (at_builtin; refine wpList_append_own _ rfl _ _ 22 rfl w.heap.size 3 i0 (.int .i64 0) 1 8 Try.underlying22 hi hz0 hz1 hz2 rfl (by decide) _ _ _ rfl HS.out ⟨b, off, none⟩ zs.length cap (zs.map (Value.int .i64)) rfl (by simp) (ints_news HC.out hb) (by simp [Value.oneCell']) (by unfold maxLen; omega) (by omega) (by simp) ?_; intro v' w9 hown' hgrow hnil; have HG := Lib.hid hgrow; obtain ⟨A1, c1, rfl, hcc1, hcm1, hl1, hn1, hs1, ho1⟩ := own_of_row (zs := zs) (by simpa using hown'); obtain ⟨g, rfl⟩ : ∃ g, A1 = some ⟨g, 0, none⟩ := (by cases A1 with | none => (exfalso; have := (hn1 rfl).1; omega) | some x => (obtain ⟨g, rfl⟩ := hs1 _ rfl; exact ⟨g, rfl⟩)); have HO := Lib.hid ho1; unfold maxLen at hcm1; clear hown' hgrow hnil hn1 hs1 ho1) | go_in)
  go_ret
  exact ⟨some ⟨g, 0, none⟩, _, (by show Ending.returned (Value.slice (some ⟨g, 0, none⟩) _ _) = _; first | rfl | rw [Nat.zero_add]), (by omega), HO.out, ((Below.refl _ _).alloc (Nat.le_refl _) _).grown HG.out (by simp) (fun j hj => (HS.out.lt j hj).1)⟩
set_option maxHeartbeats 1000000 in
theorem withSlot_c (zs : List Int) (A : Option Addr) (n cap : Nat) (m x : Int) (w : World) (h : Ints w A zs) (hn : zs.length = n) (hl : zs.length = 16) (m0 : 0 ≤ m) (m1 : m ≤ 1000) :
    Calls Try.prog 32 #[.slice A n cap, .int .i64 m, .int .i64 x] w (Made w (setZ zs m x)) := by
  subst hn
  obtain ⟨bb, off, rfl, hbb, hcc⟩ := h (by omega)
  have HCC := Lib.hid hcc
  clear hcc h
  obtain ⟨q, hq, hq1, hq2⟩ := mod_q m0
  have HQ := Lib.hid hq
  have HL := Lib.hid hl
  have hl1 : zs.length ≤ 16 := by omega
  have hl2 : 16 ≤ zs.length := by omega
  clear hq hl
  go_enter Try.func32, Try.ntmps32
  go_wp2_with fail
  refine (copyInts_o zs _ _ _ _ _ hbb HCC.out rfl (by omega) (by omega)).mono ?_
  rintro e w1 ⟨A1, c1, rfl, hc1, ho, hb⟩
  obtain ⟨g, rfl, g1, g2, hr⟩ := ho (by omega)
  have d0 := hr.cell (i := q) (by omega)
  have f0 := hr.free q
  have HR := Lib.hid hr
  have HB := Lib.hid hb
  have hq0 : (0 : Int) ≤ (q : Int) := by omega
  have hq3 : (q : Int) < 16 := by omega
  have hq4 : (q : Int) < (zs.length : Int) := by omega
  clear ho hb hr
  go_wp2
  go_ret
  refine ⟨some ⟨g, 0, none⟩, c1, (by show Ending.returned (Value.slice (some ⟨g, 0, none⟩) _ c1) = _; rw [setZ_length]), by rw [setZ_length]; exact hc1, fun _ => ⟨g, rfl, g1, by simpa [World.setCell] using g2, ?_⟩, HB.out.setCell g1 _⟩
  rw [setZ_length]
  exact (HR.out.set (i := q) (by omega) _).congr fun j hj => by rw [nth_setZ hj, ← HQ.out]; by_cases e : j = q <;> simp [e]
set_option maxHeartbeats 1000000 in
theorem copyOf_c (zs : List Int) (A : Option Addr) (n cap : Nat) (a b : Int) (w : World) (h : Ints w A zs) (hn : zs.length = n) (hl : zs.length = 16) :
    Calls Try.prog 33 #[.agg #[.slice A n cap, .int .i64 a, .int .i64 b]] w (MadeD w zs a b) := by
  subst hn
  obtain ⟨bb, off, rfl, hbb, hcc⟩ := h (by omega)
  have HCC := Lib.hid hcc
  have HL := Lib.hid hl
  have hl1 : zs.length ≤ 16 := by omega
  have hl2 : 16 ≤ zs.length := by omega
  clear hcc h hl
  go_enter Try.func33, Try.ntmps33
  go_wp2_with fail
  refine (clone_o zs _ _ _ _ _ (by simp only [World.size_alloc]; omega) (fun i hi => cell_keepA (cell_keepA (HCC.out i hi) _) _) rfl (by omega) (by omega)).mono ?_
  rintro e w1 ⟨A1, c1, rfl, hc, ho, hb⟩
  have R1 := (show Row w1 w.heap.size 27 3 (f3 (.slice (some ⟨bb, off, none⟩) zs.length cap) (.int .i64 a) (.int .i64 b)) from Row.back (by (repeat (first | ((with_reducible refine row_box3x _ _ _ _ _ _ ?_) <;> (go_size; done)) | (with_reducible refine Row.alloc ?_ _) | (with_reducible refine Row.drew ?_)))) hb)
  have R2 := (show Row w1 (w.heap.size + 1) 27 3 (f3 (.slice none 0 0) (.int .i64 0) (.int .i64 0)) from Row.back (by (repeat (first | ((with_reducible refine row_box3x _ _ _ _ _ _ ?_) <;> (go_size; done)) | (with_reducible refine Row.alloc ?_ _) | (with_reducible refine Row.drew ?_)))) hb)
  obtain ⟨a0, a1, a2⟩ := cells3 R1
  obtain ⟨b0, b1, b2⟩ := cells3 R2
  have e0 := R2.free 0
  have e1 := R2.free 1
  have e2 := R2.free 2
  have f0 := R1.free 0
  have hz := hb.size
  simp only [World.size_alloc] at hz
  have HS := Lib.hid (show Own (w.heap.size + 1 + 1) w1.heap.size w1 A1 zs from ho.more (by simp only [World.size_alloc]; omega) (Nat.le_refl _))
  have HB := Lib.hid (show Below w.heap.size w w1 from below_then (by go_grown) hb)
  clear R1 R2 hb ho
  go_wp2
  refine bodyPost_ret (by simp [results, Try.results33, go_sem, *]; try rfl) rfl ?_
  refine ⟨A1, c1, rfl, hc, ?_, by have hhh := HB.out; go_grown⟩
  refine Own.more (lo := w.heap.size + 1 + 1) (hi := w1.heap.size) ?_ (by omega) (by simp [World.setCell])
  repeat (first | (with_reducible exact HS.out) | (with_reducible refine Own.far ?_ (by simp only []; omega) _))
end Go.Proofs.Ythfpplpklhclgaa
