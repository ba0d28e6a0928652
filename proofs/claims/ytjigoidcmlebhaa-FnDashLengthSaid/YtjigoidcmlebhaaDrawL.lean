/-
  What the generators of lists of numbers yield: numbers within bounds, in a row of the call's own.
-/
import Derived.Test.YtjigoidcmlebhaaDraw
import Derived.Test.YtjigoidcmlebhaaOwn
import Derived.OwnWalk
import Derived.Maps.AppendAt
namespace Go.Proofs.Ytjigoidcmlebhaa
open Go.RowKit
set_option linter.unusedSimpArgs false
set_option linter.unusedVariables false

theorem Rd.ge {B R p : Nat} {w : World} (h : Rd B R p w) : B ≤ R := by obtain ⟨A, n, cap, f, hn, hBR, hblk, hby⟩ := h; exact hBR
theorem Row.grown {w w1 : World} {g n R : Nat} {t : TypeId} {f : Nat → Value} (h : Row w g t n f) (hg : w.grownBy w1 (some R)) (hne : g ≠ R) : Row w1 g t n f := h.keep (hg.block g h.lt (by simpa using hne))
theorem Row.alloc {w : World} {g n : Nat} {t : TypeId} {f : Nat → Value} (h : Row w g t n f) (o : Obj) : Row (w.alloc o) g t n f := h.keep (Below.heap_alloc w o g h.lt)
def Bd (zs : List Int) : Prop := ∀ x ∈ zs, -2000000 ≤ x ∧ x ≤ 2000000
/-- Block g is a row that holds zs. -/
def RowI (w : World) (g : Nat) (zs : List Int) : Prop := Row w g 3 zs.length (fun i => .int .i64 (nth zs i))
/-- The slice at A reads as zs; it lies in a block from lo on. -/
def IntsG (lo : Nat) (w : World) (A : Option Addr) (zs : List Int) : Prop := 0 < zs.length → ∃ b off, A = some ⟨b, off, none⟩ ∧ lo ≤ b ∧ b < w.heap.size ∧ ∀ i, i < zs.length → w.cell? ⟨b, off + i, none⟩ = some (.int .i64 (nth zs i))
theorem IntsG.ints {lo : Nat} {w : World} {A : Option Addr} {zs : List Int} (h : IntsG lo w A zs) : Ints w A zs := fun hn => by
  obtain ⟨b, off, e, h1, h2, hc⟩ := h hn; exact ⟨b, off, e, h2, hc⟩
theorem IntsG.nil (lo : Nat) (w : World) (A : Option Addr) : IntsG lo w A [] := fun h => absurd h (by simp)
theorem IntsG.grown {lo R : Nat} {w w1 : World} {A : Option Addr} {zs : List Int} (h : IntsG lo w A zs) (hg : w.grownBy w1 (some R)) (hR : R < lo) : IntsG lo w1 A zs := fun hn => by
  obtain ⟨b, off, e, h1, h2, hc⟩ := h hn
  exact ⟨b, off, e, h1, Nat.lt_of_lt_of_le h2 hg.size, fun i hi => ((gcell hg).1 b _ h2 (by omega)).trans (hc i hi)⟩
theorem IntsG.alloc {lo : Nat} {w : World} {A : Option Addr} {zs : List Int} (h : IntsG lo w A zs) (o : Obj) : IntsG lo (w.alloc o) A zs := fun hn => by
  obtain ⟨b, off, e, h1, h2, hc⟩ := h hn
  exact ⟨b, off, e, h1, by simp; omega, fun i hi => cell_keepA (hc i hi) o⟩
theorem IntsG.block {lo : Nat} {w w1 : World} {A : Option Addr} {zs : List Int} (h : IntsG lo w A zs) (hs : w.heap.size ≤ w1.heap.size) (hk : ∀ b, lo ≤ b → b < w.heap.size → (∃ off, A = some ⟨b, off, none⟩) → w1.heap[b]? = w.heap[b]?) : IntsG lo w1 A zs := fun hn => by
  obtain ⟨b, off, e, h1, h2, hc⟩ := h hn
  exact ⟨b, off, e, h1, by omega, fun i hi => (World.cell?_of_block (w := w) (a := ⟨b, off + i, none⟩) (hk b h1 h2 ⟨off, e⟩)).trans (hc i hi)⟩
theorem RowI.intsG {w : World} {g lo : Nat} {zs : List Int} (h : RowI w g zs) (hl : lo ≤ g) : IntsG lo w (some ⟨g, 0, none⟩) zs := fun _ => ⟨g, 0, rfl, hl, h.lt, fun i hi => by rw [Nat.zero_add]; exact Row.cell h hi⟩
/-- What a generator of lists leaves. -/
def DrawnL (B R p k m : Nat) (w : World) (e : Ending) (w' : World) : Prop := ∃ (zs : List Int) (A : Option Addr) (cap p' : Nat), p ≤ p' ∧ p' ≤ p + k ∧ zs.length ≤ m ∧ zs.length ≤ cap ∧ cap ≤ maxLen ∧ Bd zs ∧ e = .returned (.slice A zs.length cap) ∧ IntsG w.heap.size w' A zs ∧ Rd B R p' w' ∧ w.grownBy w' (some R)
/-- A slice value of the call's own that is not nil. -/
def OwnV (base : Nat) (w : World) (v : Value) (zs : List Int) : Prop := w.ownsRow base 3 1 v zs.length (zs.map (Value.int .i64)) ∧ v ≠ .slice none 0 0
section
variable {base : Nat} {w w1 : World} {v : Value} {zs : List Int}
theorem OwnV.form (h : OwnV base w v zs) : ∃ g cap, v = .slice (some ⟨g, 0, none⟩) zs.length cap ∧ zs.length ≤ cap ∧ cap ≤ maxLen ∧ base ≤ g ∧ RowI w g zs := by
  obtain ⟨⟨hl, hv⟩, hne⟩ := h
  rcases hv with ⟨rfl, _⟩ | ⟨g, cap, cur, rfl, hb, hh, hnc, hcm, hsz, htk⟩
  · exact absurd rfl hne
  · refine ⟨g, cap, rfl, hnc, hcm, hb, cur, hh, fun i hi => ?_⟩
    have e : (cur.toList.take (zs.length * 1))[i]? = (zs.map (Value.int .i64))[i]? := by rw [htk]
    rw [List.getElem?_take_of_lt (by omega), List.getElem?_map, List.getElem?_eq_getElem hi] at e
    rw [← Array.getElem?_toList, e]; simp [nth_getElem hi]
theorem OwnV.alloc (h : OwnV base w v zs) (o : Obj) : OwnV base (w.alloc o) v zs := ⟨h.1.alloc o, h.2⟩
theorem OwnV.grown {R : Nat} (h : OwnV base w v zs) (hg : w.grownBy w1 (some R)) (hR : R < base) : OwnV base w1 v zs :=
  ⟨h.1.kept hg (.inr fun e => by have := (h.1.lt R e).1; omega), h.2⟩
theorem OwnV.snoc {w' : World} {v' : Value} {x : Int} (hne : v ≠ .slice none 0 0) (h : w'.ownsRow base 3 1 v' (zs.length + 1) (zs.map (Value.int .i64) ++ [.int .i64 x])) (hi : v' = .slice none 0 0 ↔ v = .slice none 0 0 ∧ 1 = 0) : OwnV base w' v' (zs ++ [x]) :=
  ⟨by simpa using h, fun e => hne (hi.1 e).1⟩
theorem OwnV.start (w : World) (base : Nat) (hb : base ≤ w.heap.size) : OwnV base (w.alloc (.cells #[] 3)) (.slice (some ⟨w.heap.size, 0, none⟩) 0 0) [] :=
  ⟨World.ownsRow_lit w #[] 0 hb (by unfold maxLen; omega) rfl, by simp⟩
theorem grown_own {w W : World} {R : Nat} (h : w.grownBy W (some R)) (hg : W.grownBy w1 v.ownBlock) (hb : ∀ k, v.ownBlock = some k → w.heap.size ≤ k) : w.grownBy w1 (some R) :=
  ⟨hg.os.trans h.os, hg.tape.trans h.tape, hg.output.trans h.output, Nat.le_trans h.size hg.size, fun k hk hne => (hg.block k (Nat.lt_of_lt_of_le hk h.size) (fun e => by have := hb k e.symm; omega)).trans (h.block k hk hne)⟩
theorem Rd.own {B R p : Nat} {W : World} (h : Rd B R p W) (hg : W.grownBy w1 v.ownBlock) (hb : ∀ k, v.ownBlock = some k → R < k) (hBR : B ≤ R) : Rd B R p w1 :=
  h.keep fun i hi hor => hg.block i hi (fun e => by have := hb i e.symm; omega)
end
theorem row_news {w : World} {g : Nat} {zs : List Int} (h : RowI w g zs) (o : Obj) : ∀ (j : Nat) (u : Value), (zs.map (Value.int .i64))[j]? = some u → (w.alloc o).cell? ((⟨g, 0, none⟩ : Addr).add j) = some u := by
  intro j u hj
  rw [List.getElem?_map] at hj
  have hjl : j < zs.length := by
    rcases Nat.lt_or_ge j zs.length with hl | hl
    · exact hl
    · rw [List.getElem?_eq_none hl] at hj; cases hj
  rw [List.getElem?_eq_getElem hjl] at hj
  simp at hj
  subst hj
  have hc := cell_keepA (Row.cell h hjl) o
  rw [nth_getElem hjl] at hc
  rw [← hc]
  by_cases h0 : j = 0
  · subst h0; simp [Addr.add]
  · simp [Addr.add, h0]
theorem bd_snoc {zs : List Int} {x : Int} (h : Bd zs) (hx : -2000000 ≤ x ∧ x ≤ 2000000) : Bd (zs ++ [x]) := fun y hy => by
  rcases List.mem_append.1 hy with hy | hy
  · exact h y hy
  · simp only [List.mem_singleton] at hy; subst hy; exact hx
def CopyP (w : World) (zs : List Int) (e : Ending) (w' : World) : Prop := ∃ v, e = .returned v ∧ OwnV w.heap.size w' v zs ∧ Below w.heap.size w w'
set_option maxHeartbeats 1000000 in
theorem copyInts_c (zs : List Int) (g cap : Nat) (w : World) (h : RowI w g zs) (hl : zs.length ≤ 1000) :
    Calls Try.prog 52 #[.slice (some ⟨g, 0, none⟩) zs.length cap] w (CopyP w zs) := by
  have HR := Lib.hid h
  clear h
  have HS := Lib.hid (OwnV.start w w.heap.size (Nat.le_refl _))
  obtain ⟨i0, hi, hz0, hz1, hz2⟩ := info_parts int_info
  have hl1 : (zs.length : Int) ≤ 1000 := by omega
  go_enter Try.func52, Try.ntmps52
  go_wp2_with ((at_builtin; refine wpList_append_own _ rfl _ _ 22 rfl w.heap.size 3 i0 (.int .i64 0) 1 8 Try.underlying22 hi hz0 hz1 hz2 rfl (by decide) _ _ _ rfl HS.out.1 ⟨g, 0, none⟩ zs.length cap (zs.map (Value.int .i64)) rfl (by simp) (row_news HR.out _) (by simp [Value.oneCell']) (by simp only [List.length_nil]; unfold maxLen; omega) (by simp only [List.length_nil]; omega) (by simp) ?_); intro v' w1 hown' hgrow hnil; have HO := Lib.hid hown'; have HG := Lib.hid hgrow; have HN := Lib.hid hnil; clear hown' hgrow hnil)
  go_ret
  refine ⟨_, rfl, ⟨by simpa using HO.out, fun e => HS.out.2 (HN.out.1 e).1⟩, ((Below.refl _ _).alloc (Nat.le_refl _) _).grown HG.out (by simp) (fun j hj => (HS.out.1.lt j hj).1)⟩
set_option maxHeartbeats 2000000 in
theorem spoil_c (B R p : Nat) (zs : List Int) (g cap : Nat) (N : Int) (w : World) (h : Rd B R p w) (hp : p ≤ 990000) (hrow : RowI w g zs) (m : Nat) (hm : zs.length + 1 ≤ m) (hl : zs.length ≤ 500) (hb : Bd zs) (hN : -2000000 ≤ N ∧ N ≤ 2000000) :
    Calls Try.prog 49 #[.pointer (some ⟨R, 0, none⟩), .slice (some ⟨g, 0, none⟩) zs.length cap, .int .i64 N] w (DrawnL B R p 3 m w) := by
  have HR := Lib.hid h
  have hRl := h.lt
  have hBR := h.ge
  have HRow := Lib.hid hrow
  have HBd := Lib.hid hb
  clear h hrow hb
  obtain ⟨i0, hi, hz0, hz1, hz2⟩ := info_parts int_info
  go_enter Try.func49, Try.ntmps49
  go_wp2_with fail
  refine (copyInts_c zs g cap _ HRow.out (by omega)).mono ?_
  rintro e w1 ⟨v, rfl, ho, hb1⟩
  obtain ⟨g1, cap1, rfl, hc1, hc2, hg1, hr1⟩ := ho.form
  have HO := Lib.hid ho
  have HI := Lib.hid hr1
  have HR1 := Lib.hid (HR.out.below hb1)
  have HG1 := Lib.hid (show w.grownBy w1 (some R) from grown_then_below (grown_refl _ _) hb1)
  have hs1 := hb1.size
  clear ho hr1 hb1
  unfold maxLen at hc2
  have hl1 : (zs.length : Int) ≤ 500 := by omega
  go_wp2_with fail
  refine (pick_c B R p _ _ HR1.out (by omega) (by omega)).mono ?_
  rintro e w2 ⟨v2, p2, hp2, hq2, ⟨ha2, hb2⟩, rfl, hr2, hg2⟩
  have HO2 := Lib.hid (HO.out.grown hg2 hRl)
  have HI2 := Lib.hid (show RowI w2 g1 zs from Row.grown HI.out hg2 (by omega))
  have HG2 := Lib.hid (show w.grownBy w2 (some R) from grown_trans HG1.out hg2)
  have HR2 := Lib.hid hr2
  have hs2 := hg2.size
  clear hr2 hg2
  by_cases e0 : v2 = 0
  · subst e0
    go_wp2_with ((at_builtin; refine wpList_append_own _ rfl _ _ 22 rfl w.heap.size 3 i0 (.int .i64 0) 1 8 Try.underlying22 hi hz0 hz1 hz2 rfl (by decide) _ _ _ rfl (HO2.out.alloc _).1 ⟨w2.heap.size, 0, none⟩ 1 1 [.int .i64 N] rfl rfl (cell_one_new _ _ _) (by simp [Value.oneCell']) (by unfold maxLen; omega) (by omega) (by simp; omega) ?_); intro v' w3 hown' hgrow hnil; have HO3 := Lib.hid hown'; have HG3 := Lib.hid hgrow; have HN := Lib.hid hnil; clear hown' hgrow hnil)
    go_ret
    have HS := OwnV.snoc (v := .slice (some ⟨g1, 0, none⟩) zs.length cap1) (by simp) HO3.out HN.out
    obtain ⟨g3, cap3, rfl, k1, k2, k3, k4⟩ := HS.form
    refine ⟨zs ++ [N], some ⟨g3, 0, none⟩, cap3, p2, by omega, by omega, by simp; omega, k1, k2, bd_snoc HBd.out hN, rfl, k4.intsG k3, ?_, ?_⟩
    · exact (HR2.out.alloc _).own HG3.out (fun k hk => by have := (HO2.out.1.lt k hk).1; omega) hBR
    · exact grown_own (grown_alloc HG2.out _) HG3.out (fun k hk => (HO2.out.1.lt k hk).1)
  by_cases hz : zs.length = 0
  · have hz2 : zs = [] := List.length_eq_zero_iff.1 hz
    subst hz2
    by_cases e1 : v2 = 1
    · subst e1
      go_wp2
      go_ret
      exact ⟨[], _, _, p2, by omega, by omega, by simp, hc1, by unfold maxLen; omega, HBd.out, rfl, IntsG.nil _ _ _, HR2.out, HG2.out⟩
    by_cases e2 : v2 = 2
    · subst e2
      go_wp2
      go_ret
      exact ⟨[], _, _, p2, by omega, by omega, by simp, hc1, by unfold maxLen; omega, HBd.out, rfl, IntsG.nil _ _ _, HR2.out, HG2.out⟩
    go_wp2
    go_ret
    exact ⟨[], _, _, p2, by omega, by omega, by simp, hc1, by unfold maxLen; omega, HBd.out, rfl, IntsG.nil _ _ _, HR2.out, HG2.out⟩
  have hz1 : 0 < zs.length := by omega
  have hz2 : (0 : Int) < (zs.length : Int) := by omega
  by_cases e1 : v2 = 1
  · subst e1
    have HT := Lib.hid (show IntsG w.heap.size w2 (some ⟨g1, 0 + 1, none⟩) zs.tail from fun hn => ⟨g1, 0 + 1, rfl, hg1, HI2.out.lt, fun i hi => by
      rw [List.length_tail] at hi
      have hc := Row.cell HI2.out (show i + 1 < zs.length by omega)
      rw [show 0 + 1 + i = i + 1 by omega, hc]
      unfold nth; simp [List.getD_eq_getElem?_getD, List.getElem?_tail]⟩)
    have hbt : Bd zs.tail := fun x hx => HBd.out x (List.mem_of_mem_tail hx)
    have HBt := Lib.hid hbt
    clear hbt
    have k1 : 1 ≤ zs.length := by omega
    have k2 : 1 ≤ cap1 := by omega
    by_cases hcap : cap1 = 1
    · have hz3 : zs.tail = [] := List.length_eq_zero_iff.1 (by rw [List.length_tail]; omega)
      have hz4 : zs.length = 1 := by omega
      have Z3 := Lib.hid hz3
      have Z4 := Lib.hid hz4
      subst hcap
      clear hz3 hz4
      go_wp2
      go_ret
      exact ⟨[], some ⟨g1, 0, none⟩, 0, p2, by omega, by omega, by simp, Nat.le_refl _, by unfold maxLen; omega, (fun x hx => absurd hx (by simp)), rfl, IntsG.nil _ _ _, HR2.out, HG2.out⟩
    · have hcap2 : 1 < cap1 := by omega
      go_wp2
      go_ret
      exact ⟨zs.tail, some ⟨g1, 0 + 1, none⟩, cap1 - 1, p2, by omega, by omega, by rw [List.length_tail]; omega, by rw [List.length_tail]; omega, by unfold maxLen; omega, HBt.out, by rw [List.length_tail]; rfl, HT.out, HR2.out, HG2.out⟩
  by_cases e2 : v2 = 2
  · subst e2
    go_wp2_with fail
    refine (pick_c B R p2 _ _ HR2.out (by omega) (by omega)).mono ?_
    rintro e w3 ⟨v3, p3, hp3, hq3, ⟨ha3, hb3⟩, rfl, hr3, hg3⟩
    have HI3 := Lib.hid (show RowI w3 g1 zs from Row.grown HI2.out hg3 (by omega))
    have HG3 := Lib.hid (show w.grownBy w3 (some R) from grown_trans HG2.out hg3)
    have HR3 := Lib.hid hr3
    have hs3 := hg3.size
    clear hr3 hg3
    go_wp2_with fail
    refine (one_c B R p3 [-1, N, 0, 1] _ _ _ _ (HR3.out.alloc _) (by omega) (Ints.lit _ _ _ _ _ (by go_size) rfl) (by omega) rfl (by simp) (by simp)).mono ?_
    rintro e w4 ⟨v4, p4, hp4, hq4, hv4, rfl, hr4, hg4⟩
    simp only [List.mem_cons, List.not_mem_nil, or_false] at hv4
    have HI4 := Lib.hid (show RowI w4 g1 zs from Row.grown (Row.alloc HI3.out _) hg4 (by omega))
    have HG4 := Lib.hid (show w.grownBy w4 (some R) from grown_trans (grown_alloc HG3.out _) hg4)
    have HR4 := Lib.hid hr4
    have hs4 := hg4.size
    have HV4 := Lib.hid hv4
    clear hr4 hg4 hv4
    obtain ⟨k, rfl⟩ := Int.eq_ofNat_of_zero_le ha3
    have hk : k < zs.length := by omega
    have hk2 : (k : Int) < (zs.length : Int) := by omega
    have hk0 : (0 : Int) ≤ (k : Int) := by omega
    have hcell := Row.cell HI4.out hk
    have hfr := Row.free HI4.out k
    go_wp2
    go_ret
    have hset : RowI (w4.setCell ⟨g1, k, none⟩ (.int .i64 v4)) g1 (zs.set k v4) := by
      unfold RowI
      rw [List.length_set]
      refine (Row.set HI4.out hk _).congr fun j hj => ?_
      unfold nth
      by_cases hjk : j = k
      · subst hjk; simp [hj, List.getD_eq_getElem?_getD]
      · rw [if_neg hjk]; simp [List.getD_eq_getElem?_getD, List.getElem?_set_ne (Ne.symm hjk)]
    refine ⟨zs.set k v4, some ⟨g1, 0, none⟩, cap1, p4, by omega, by omega, by rw [List.length_set]; omega, by rw [List.length_set]; exact hc1, by unfold maxLen; omega, fun x hx => ?_, by rw [List.length_set]; rfl, hset.intsG hg1, HR4.out.setCell (by simp only []; omega) (by simp only []; omega) _, grown_set HG4.out (by simp only []; omega) _⟩
    rcases List.mem_or_eq_of_mem_set hx with hx | hx
    · exact HBd.out x hx
    · have := HV4.out; omega
  · go_wp2
    go_ret
    exact ⟨zs, _, _, p2, by omega, by omega, by omega, hc1, by unfold maxLen; omega, HBd.out, rfl, HI2.out.intsG hg1, HR2.out, HG2.out⟩
set_option maxHeartbeats 1000000 in
theorem anyDash_c (B R p : Nat) (w : World) (h : Rd B R p w) (hp : p ≤ 900000) :
    Calls Try.prog 37 #[.pointer (some ⟨R, 0, none⟩)] w (DrawnL B R p 200 200 w) := by
  have HR := Lib.hid h
  have hRl := h.lt
  have hBR := h.ge
  clear h
  have HS := Lib.hid (OwnV.start w w.heap.size (Nat.le_refl _))
  obtain ⟨i0, hi, hz0, hz1, hz2⟩ := info_parts int_info
  go_enter Try.func37, Try.ntmps37
  go_wp2_with fail
  refine (one_c B R p [2, 1, 3, 4, 0, 5] _ _ _ _ ((HR.out.alloc _).alloc _) (by omega) (Ints.lit _ _ _ _ _ (by go_size) rfl) (by omega) rfl (by simp) (by simp)).mono ?_
  rintro e w1 ⟨v1, p1, hp1, hq1, hv1, rfl, hr1, hg1⟩
  simp only [List.mem_cons, List.not_mem_nil, or_false] at hv1
  have HO1 := Lib.hid ((HS.out.alloc _).grown hg1 hRl)
  have HR1 := Lib.hid hr1
  have HG1 := Lib.hid (show w.grownBy w1 (some R) from grown_trans (grown_alloc (grown_alloc (grown_refl _ _) _) _) hg1)
  have hs1 := hg1.size
  simp only [World.size_alloc] at hs1
  clear hr1 hg1
  obtain ⟨n1, rfl⟩ : ∃ n : Nat, v1 = (n : Int) := ⟨v1.toNat, by omega⟩
  have hn1 : n1 ≤ 5 := by omega
  clear hv1
  go_wp2
  go_loopw [3, 4] (fun v n wr => ∃ (m : Nat) (zs : List Int) (p2 : Nat), n = .int .i64 m ∧ m ≤ 5 ∧ zs.length + m ≤ 5 ∧ p ≤ p2 ∧ p2 + m ≤ p + 1 + 5 ∧ Bd zs ∧ OwnV w.heap.size wr v zs ∧ Rd B R p2 wr ∧ w.grownBy wr (some R)) (fun _ n _ => (intOf n).toNat)
  case atStart => exact ⟨n1, [], p1, rfl, by omega, by simp; omega, by omega, by omega, (fun x hx => absurd hx (by simp)), HO1.out, HR1.out, HG1.out⟩
  case round =>
    obtain ⟨m, zs, p2, rfl, hm, hlm, hp2, hq2, hbd, ho2, hr2, hg2⟩ := hrel
    obtain ⟨g, cap, rfl, hc1, hc2, hg, hrow⟩ := ho2.form
    have HO2 := Lib.hid ho2
    have HR2 := Lib.hid hr2
    have HG2 := Lib.hid hg2
    have HBd := Lib.hid hbd
    have HI := Lib.hid hrow
    have hs2 := hg2.size
    clear ho2 hr2 hg2 hbd hrow
    unfold maxLen at hc2
    by_cases hm0 : m = 0
    · subst hm0
      go_wp2_with fail
      refine (spoil_c B R p2 zs g cap 51 _ HR2.out (by omega) HI.out 200 (by omega) (by omega) HBd.out (by omega)).mono ?_
      rintro e w3 ⟨zs', A, cap', p3, hp3, hq3, hl3, hc3, hc4, hb3, rfl, hi3, hr3, hg3⟩
      have H3 := Lib.hid hi3
      have HB3 := Lib.hid hb3
      have HR3 := Lib.hid hr3
      have HG3 := Lib.hid (show w.grownBy w3 (some R) from grown_trans HG2.out hg3)
      clear hi3 hb3 hr3 hg3
      go_wp2
      go_ret
      exact ⟨zs', A, cap', p3, by omega, by omega, hl3, hc3, hc4, HB3.out, rfl, (fun hn => by obtain ⟨b', o', e', k1, k2, k3⟩ := H3.out hn; exact ⟨b', o', e', by omega, k2, k3⟩), HR3.out, HG3.out⟩
    obtain ⟨m', rfl⟩ : ∃ m', m = m' + 1 := ⟨m - 1, by omega⟩
    go_wp2_with fail
    refine (pick_c B R p2 _ _ HR2.out (by omega) (by omega)).mono ?_
    rintro e w3 ⟨v3, p3, hp3, hq3, hv3, rfl, hr3, hg3⟩
    have HO3 := Lib.hid (HO2.out.grown hg3 hRl)
    have HG3 := Lib.hid (show w.grownBy w3 (some R) from grown_trans HG2.out hg3)
    have HR3 := Lib.hid hr3
    have hs3 := hg3.size
    (try simp only [World.size_alloc] at hs3)
    have HV3 := Lib.hid hv3
    have hx : -2000000 ≤ (1 + v3) ∧ (1 + v3) ≤ 2000000 := by omega
    clear hr3 hg3 hv3
    go_wp2_with ((at_builtin; refine wpList_append_own _ rfl _ _ 22 rfl w.heap.size 3 i0 (.int .i64 0) 1 8 Try.underlying22 hi hz0 hz1 hz2 rfl (by decide) _ _ _ rfl (HO3.out.alloc _).1 ⟨w3.heap.size, 0, none⟩ 1 1 [.int .i64 (1 + v3)] rfl rfl (cell_one_new _ _ _) (by simp [Value.oneCell']) (by unfold maxLen; omega) (by omega) (by simp; omega) ?_); intro v' w4 hown' hgrow hnil; have HO4 := Lib.hid hown'; have HG4 := Lib.hid hgrow; have HN := Lib.hid hnil; clear hown' hgrow hnil)
    go_roundw
    case rel =>
      refine ⟨m', zs ++ [(1 + v3)], p3, ?_, by omega, by simp; omega, by omega, by omega, bd_snoc HBd.out hx, OwnV.snoc (v := .slice (some ⟨g, 0, none⟩) zs.length cap) (by simp) HO4.out HN.out, (HR3.out.alloc _).own HG4.out (fun k hk => by have := (HO3.out.1.lt k hk).1; omega) hBR, grown_own (grown_alloc HG3.out _) HG4.out (fun k hk => (HO3.out.1.lt k hk).1)⟩
      first | rfl | (show Value.int .i64 _ = Value.int .i64 _; congr 1; omega) | go_num
    case measure => first | (simp [intOf]; done) | (simp [intOf]; omega)
def GotL (w : World) (e : Ending) (w' : World) : Prop := ∃ (zs : List Int) (A : Option Addr) (cap : Nat), zs.length ≤ 600 ∧ zs.length ≤ cap ∧ cap ≤ maxLen ∧ Bd zs ∧ e = .returned (.slice A zs.length cap) ∧ Ints w' A zs ∧ Below w.heap.size w w'
def GotLI (w : World) (e : Ending) (w' : World) : Prop := ∃ (zs : List Int) (A : Option Addr) (cap : Nat) (t : Int), zs.length ≤ 600 ∧ zs.length ≤ cap ∧ cap ≤ maxLen ∧ Bd zs ∧ -2000000 ≤ t ∧ t ≤ 2000000 ∧ e = .returned (.tuple #[.slice A zs.length cap, .int .i64 t]) ∧ Ints w' A zs ∧ Below w.heap.size w w'
def GotLII (w : World) (e : Ending) (w' : World) : Prop := ∃ (zs : List Int) (A : Option Addr) (cap : Nat) (t u : Int), zs.length ≤ 600 ∧ zs.length ≤ cap ∧ cap ≤ maxLen ∧ Bd zs ∧ -2000000 ≤ t ∧ t ≤ 2000000 ∧ -2000000 ≤ u ∧ u ≤ 2000000 ∧ e = .returned (.tuple #[.slice A zs.length cap, .int .i64 t, .int .i64 u]) ∧ Ints w' A zs ∧ Below w.heap.size w w'
def GotLL (w : World) (e : Ending) (w' : World) : Prop := ∃ (zs ys : List Int) (A A' : Option Addr) (cap cap' : Nat), (zs.length ≤ 600 ∧ zs.length ≤ cap ∧ cap ≤ maxLen ∧ Bd zs) ∧ (ys.length ≤ 600 ∧ ys.length ≤ cap' ∧ cap' ≤ maxLen ∧ Bd ys) ∧ e = .returned (.tuple #[.slice A zs.length cap, .slice A' ys.length cap']) ∧ Ints w' A zs ∧ Ints w' A' ys ∧ Below w.heap.size w w'
set_option maxHeartbeats 1000000 in
theorem DrawIsDrawn_c (A : Option Addr) (n cap : Nat) (w : World) (h : Code w.heap.size w A n cap) :
    Calls Try.prog 17 #[.slice A n cap] w (GotLI w) := by
  have HC := Lib.hid h
  clear h
  go_enter Try.func17, Try.ntmps17
  go_wp2_with fail
  refine (newReader_c w.heap.size _ _ _ _ HC.out (Nat.le_refl _)).mono ?_
  rintro e w0 ⟨rfl, hr, hb, hz⟩
  have HR0 := Lib.hid hr
  have HB0 := Lib.hid hb
  have hs0 : w.heap.size < w0.heap.size := by omega
  clear hr hb hz
  go_wp2_with fail
  refine (anyDash_c w.heap.size w.heap.size 0 _ HR0.out (by omega)).mono ?_
  rintro e w1 ⟨zs, A1, cap1, p1, hp1, hq1, hl1, hc1, hc2, hbd1, rfl, hi1, hr1, hg1⟩
  have HI1 := Lib.hid hi1
  have HD1 := Lib.hid hbd1
  have HR1 := Lib.hid hr1
  have HB1 := Lib.hid (below_grown HB0.out hg1 (by omega) (Nat.le_refl _))
  have hs1 := hg1.size
  clear hi1 hbd1 hr1 hg1
  go_wp2_with fail
  refine (one_c w.heap.size w.heap.size p1 [0, 5, 9, 30, 77, 400, 401, -1] _ _ _ _ (HR1.out.alloc _) (by omega) (Ints.lit _ _ _ _ _ (by go_size) rfl) (by omega) rfl (by simp) (by simp)).mono ?_
  rintro e w2 ⟨v2, p2, hp2, hq2, hv2, rfl, hr2, hg2⟩
  simp only [List.mem_cons, List.not_mem_nil, or_false] at hv2
  have HI2 := Lib.hid ((HI1.out.alloc _).grown hg2 (by omega))
  have HR2 := Lib.hid hr2
  have HB2 := Lib.hid (below_grown (HB1.out.alloc (by omega) _) hg2 (by go_size) (Nat.le_refl _))
  have hs2 := hg2.size
  (try simp only [World.size_alloc] at hs2)
  clear hr2 hg2
  have HV2 := Lib.hid hv2
  clear hv2
  go_wp2
  go_ret2
  exact ⟨zs, A1, cap1, v2, by omega, hc1, hc2, HD1.out, by have := HV2.out; omega, by have := HV2.out; omega, rfl, HI2.out.ints, HB2.out⟩
set_option maxHeartbeats 1000000 in
theorem DrawDashSpans_c (A : Option Addr) (n cap : Nat) (w : World) (h : Code w.heap.size w A n cap) :
    Calls Try.prog 28 #[.slice A n cap] w (GotLII w) := by
  have HC := Lib.hid h
  clear h
  go_enter Try.func28, Try.ntmps28
  go_wp2_with fail
  refine (newReader_c w.heap.size _ _ _ _ HC.out (Nat.le_refl _)).mono ?_
  rintro e w0 ⟨rfl, hr, hb, hz⟩
  have HR0 := Lib.hid hr
  have HB0 := Lib.hid hb
  have hs0 : w.heap.size < w0.heap.size := by omega
  clear hr hb hz
  go_wp2_with fail
  refine (anyDash_c w.heap.size w.heap.size 0 _ HR0.out (by omega)).mono ?_
  rintro e w1 ⟨zs, A1, cap1, p1, hp1, hq1, hl1, hc1, hc2, hbd1, rfl, hi1, hr1, hg1⟩
  have HI1 := Lib.hid hi1
  have HD1 := Lib.hid hbd1
  have HR1 := Lib.hid hr1
  have HB1 := Lib.hid (below_grown HB0.out hg1 (by omega) (Nat.le_refl _))
  have hs1 := hg1.size
  clear hi1 hbd1 hr1 hg1
  go_wp2_with fail
  refine (anyLength_c w.heap.size w.heap.size p1 _ HR1.out (by omega)).mono ?_
  rintro e w2 ⟨v2, p2, hp2, hq2, hv2, rfl, hr2, hg2⟩
  skip
  have HI2 := Lib.hid (HI1.out.grown hg2 (by omega))
  have HR2 := Lib.hid hr2
  have HB2 := Lib.hid (below_grown HB1.out hg2 (by go_size) (Nat.le_refl _))
  have hs2 := hg2.size
  (try simp only [World.size_alloc] at hs2)
  clear hr2 hg2
  go_wp2_with fail
  refine (anyLength_c w.heap.size w.heap.size p2 _ HR2.out (by omega)).mono ?_
  rintro e w3 ⟨v3, p3, hp3, hq3, hv3, rfl, hr3, hg3⟩
  skip
  have HI3 := Lib.hid (HI2.out.grown hg3 (by omega))
  have HR3 := Lib.hid hr3
  have HB3 := Lib.hid (below_grown HB2.out hg3 (by go_size) (Nat.le_refl _))
  have hs3 := hg3.size
  (try simp only [World.size_alloc] at hs3)
  clear hr3 hg3
  go_wp2
  go_ret3
  exact ⟨zs, A1, cap1, v2, v3, by omega, hc1, hc2, HD1.out, hv2.1, hv2.2, hv3.1, hv3.2, rfl, HI3.out.ints, HB3.out⟩
theorem DrawDashLength_c (A : Option Addr) (n cap : Nat) (w : World) (h : Code w.heap.size w A n cap) :
    Calls Try.prog 21 #[.slice A n cap] w (GotLII w) := by
  have HC := Lib.hid h
  clear h
  go_enter Try.func21, Try.ntmps21
  go_wp2_with fail
  refine (DrawDashSpans_c _ _ _ _ HC.out).mono ?_
  rintro e w1 ⟨zs, A1, cap1, t, u, h1, h2, h3, h4, h5, h6, h7, h8, rfl, h9, h10⟩
  have H4 := Lib.hid h4
  have H9 := Lib.hid h9
  have H10 := Lib.hid h10
  clear h4 h9 h10
  go_wp2
  go_ret3
  exact ⟨zs, A1, cap1, t, u, h1, h2, h3, H4.out, h5, h6, h7, h8, rfl, H9.out, H10.out⟩
end Go.Proofs.Ytjigoidcmlebhaa
