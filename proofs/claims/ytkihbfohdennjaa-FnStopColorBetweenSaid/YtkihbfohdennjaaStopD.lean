/-
  What the generators of stops yield: valid stops.
-/
import Derived.Test.YtkihbfohdennjaaDrawC
import Derived.Test.YtkihbfohdennjaaStopK
import Derived.OwnWalk
import Derived.Maps.AppendAt
import Derived.Laws.OwnMore
namespace Go.Proofs.Ytkihbfohdennjaa
open Go.RowKit
set_option linter.unusedSimpArgs false
set_option linter.unusedVariables false

/-- A slice of n stops of the call's own that is not nil. -/
def OwnP (base : Nat) (w : World) (v : Value) (zs : List Int) (n : Nat) : Prop := w.ownsRow base 40 5 v n (zs.map (Value.int .i64)) ∧ v ≠ .slice none 0 0
def IntsH (lo : Nat) (w : World) (A : Option Addr) (zs : List Int) : Prop := 0 < zs.length → ∃ b off, A = some ⟨b, off, none⟩ ∧ lo ≤ b ∧ b < w.heap.size ∧ ∀ i, i < zs.length → w.cell? ⟨b, off + i, none⟩ = some (.int .i64 (nth zs i))
theorem IntsH.ints {lo : Nat} {w : World} {A : Option Addr} {zs : List Int} (h : IntsH lo w A zs) : Ints w A zs := fun hn => by
  obtain ⟨b, off, e, h1, h2, hc⟩ := h hn; exact ⟨b, off, e, h2, hc⟩
theorem IntsH.grown {lo R : Nat} {w w1 : World} {A : Option Addr} {zs : List Int} (h : IntsH lo w A zs) (hg : w.grownBy w1 (some R)) (hR : R < lo) : IntsH lo w1 A zs := fun hn => by
  obtain ⟨b, off, e, h1, h2, hc⟩ := h hn
  exact ⟨b, off, e, h1, Nat.lt_of_lt_of_le h2 hg.size, fun i hi => ((gcell hg).1 b _ h2 (by omega)).trans (hc i hi)⟩
theorem IntsH.alloc {lo : Nat} {w : World} {A : Option Addr} {zs : List Int} (h : IntsH lo w A zs) (o : Obj) : IntsH lo (w.alloc o) A zs := fun hn => by
  obtain ⟨b, off, e, h1, h2, hc⟩ := h hn
  exact ⟨b, off, e, h1, by simp; omega, fun i hi => cell_keepA (hc i hi) o⟩
section
variable {base n : Nat} {w w1 : World} {v : Value} {zs : List Int}
theorem OwnP.form (h : OwnP base w v zs n) : ∃ g cap, v = .slice (some ⟨g, 0, none⟩) n cap ∧ n ≤ cap ∧ cap ≤ maxLen ∧ base ≤ g ∧ zs.length = 5 * n ∧ Row w g 40 zs.length (fun i => .int .i64 (nth zs i)) := by
  obtain ⟨⟨hl, hv⟩, hne⟩ := h
  simp only [List.length_map] at hl
  rcases hv with ⟨rfl, _⟩ | ⟨g, cap, cur, rfl, hb, hh, hnc, hcm, hsz, htk⟩
  · exact absurd rfl hne
  · refine ⟨g, cap, rfl, hnc, hcm, hb, by omega, cur, hh, fun i hi => ?_⟩
    have e : (cur.toList.take (n * 5))[i]? = (zs.map (Value.int .i64))[i]? := by rw [htk]
    rw [List.getElem?_take_of_lt (by omega), List.getElem?_map, List.getElem?_eq_getElem hi] at e
    rw [← Array.getElem?_toList, e]; simp [nth_getElem hi]
theorem OwnP.alloc (h : OwnP base w v zs n) (o : Obj) : OwnP base (w.alloc o) v zs n := ⟨h.1.alloc o, h.2⟩
theorem OwnP.grown {R : Nat} (h : OwnP base w v zs n) (hg : w.grownBy w1 (some R)) (hR : R < base) : OwnP base w1 v zs n :=
  ⟨h.1.kept hg (.inr fun e => by have := (h.1.lt R e).1; omega), h.2⟩
theorem OwnP.snoc {w' : World} {v' : Value} {x0 x1 x2 x3 x4 : Int} (hne : v ≠ .slice none 0 0) (h : w'.ownsRow base 40 5 v' (n + 1) (zs.map (Value.int .i64) ++ [.int .i64 x0, .int .i64 x1, .int .i64 x2, .int .i64 x3, .int .i64 x4])) (hi : v' = .slice none 0 0 ↔ v = .slice none 0 0 ∧ 1 = 0) : OwnP base w' v' (zs ++ [x0, x1, x2, x3, x4]) (n + 1) :=
  ⟨by simpa using h, fun e => hne (hi.1 e).1⟩
theorem OwnP.start (w : World) (base : Nat) (hb : base ≤ w.heap.size) : OwnP base (w.alloc (.cells #[] 40)) (.slice (some ⟨w.heap.size, 0, none⟩) 0 0) [] 0 :=
  ⟨World.ownsRow_lit w #[] 0 hb (by unfold maxLen; omega) rfl, by simp⟩
theorem grown_own {w W : World} {R : Nat} (h : w.grownBy W (some R)) (hg : W.grownBy w1 v.ownBlock) (hb : ∀ k, v.ownBlock = some k → w.heap.size ≤ k) : w.grownBy w1 (some R) :=
  ⟨hg.os.trans h.os, hg.tape.trans h.tape, hg.output.trans h.output, Nat.le_trans h.size hg.size, fun k hk hne => (hg.block k (Nat.lt_of_lt_of_le hk h.size) (fun e => by have := hb k e.symm; omega)).trans (h.block k hk hne)⟩
theorem Rd.own {B R p : Nat} {W : World} (h : Rd B R p W) (hg : W.grownBy w1 v.ownBlock) (hb : ∀ k, v.ownBlock = some k → R < k) (hBR : B ≤ R) : Rd B R p w1 :=
  h.keep fun i hi hor => hg.block i hi (fun e => by have := hb i e.symm; omega)
end
theorem row_ints {w : World} {g lo : Nat} {t : TypeId} {zs : List Int} (h : Row w g t zs.length (fun i => .int .i64 (nth zs i))) (hl : lo ≤ g) : IntsH lo w (some ⟨g, 0, none⟩) zs := fun _ => ⟨g, 0, rfl, hl, h.lt, fun i hi => by rw [Nat.zero_add]; exact Row.cell h hi⟩
theorem cell_five_new (w : World) (a b c d e : Value) (t : TypeId) : ∀ (j : Nat) (u : Value), [a, b, c, d, e][j]? = some u → (w.alloc (.cells #[a, b, c, d, e] t)).cell? ((⟨w.heap.size, 0, none⟩ : Addr).add j) = some u := by
  intro j u hj
  match j, hj with
  | 0, hj => simp at hj; subst hj; simp [Addr.add]
  | 1, hj => simp at hj; subst hj; simp [Addr.add]
  | 2, hj => simp at hj; subst hj; simp [Addr.add]
  | 3, hj => simp at hj; subst hj; simp [Addr.add]
  | 4, hj => simp at hj; subst hj; simp [Addr.add]
def RandS (B R p k : Nat) (w : World) (e : Ending) (w' : World) : Prop := ∃ (v : Value) (zs : List Int) (n p' : Nat), p ≤ p' ∧ p' ≤ p + k ∧ 1 ≤ n ∧ n ≤ 4 ∧ e = .returned v ∧ OwnP w.heap.size w' v zs n ∧ Rd B R p' w' ∧ w.grownBy w' (some R)
def DrawnS (B R p k : Nat) (w : World) (e : Ending) (w' : World) : Prop := ∃ (zs : List Int) (A : Option Addr) (cap n p' : Nat), p ≤ p' ∧ p' ≤ p + k ∧ n ≤ 5 ∧ zs.length = 5 * n ∧ n ≤ cap ∧ cap ≤ maxLen ∧ e = .returned (.slice A n cap) ∧ IntsH w.heap.size w' A zs ∧ Rd B R p' w' ∧ w.grownBy w' (some R)
set_option maxHeartbeats 4000000 in
theorem randomStops_c (B R p : Nat) (w : World) (h : Rd B R p w) (hp : p ≤ 900000) :
    Calls Try.prog 36 #[.pointer (some ⟨R, 0, none⟩)] w (RandS B R p 100 w) := by
  have HR := Lib.hid h
  have hRl := h.lt
  have hBR := h.ge
  clear h
  have HS := Lib.hid (OwnP.start w w.heap.size (Nat.le_refl _))
  obtain ⟨i0, hi, hz0, hz1, hz2⟩ := info_parts stop_info
  go_enter Try.func36, Try.ntmps36
  go_wp2_with fail
  refine (pick_c B R p _ _ (HR.out.alloc _) (by omega) (by omega)).mono ?_
  rintro e w1 ⟨v1, p1, hp1, hq1, ⟨ha1, hb1⟩, rfl, hr1, hg1⟩
  have HO1 := Lib.hid (HS.out.grown hg1 hRl)
  have HR1 := Lib.hid hr1
  have HG1 := Lib.hid (show w.grownBy w1 (some R) from grown_trans (grown_alloc (grown_refl _ _) _) hg1)
  have hs1 := hg1.size
  simp only [World.size_alloc] at hs1
  clear hr1 hg1
  go_wp2_with fail
  refine (one_c B R p1 [2, 1, 3, 1, 4] _ _ _ _ (HR1.out.alloc _) (by omega) (Ints.lit _ _ _ _ _ (by go_size) rfl) (by omega) rfl (by simp) (by simp)).mono ?_
  rintro e w2 ⟨v2, p2, hp2, hq2, hv2, rfl, hr2, hg2⟩
  simp only [List.mem_cons, List.not_mem_nil, or_false] at hv2
  have HO2 := Lib.hid ((HO1.out.alloc _).grown hg2 hRl)
  have HR2 := Lib.hid hr2
  have HG2 := Lib.hid (show w.grownBy w2 (some R) from grown_trans (grown_alloc HG1.out _) hg2)
  have hs2 := hg2.size
  simp only [World.size_alloc] at hs2
  clear hr2 hg2
  obtain ⟨n1, rfl⟩ : ∃ n : Nat, v2 = (n : Int) := ⟨v2.toNat, by omega⟩
  have hn1 : 1 ≤ n1 ∧ n1 ≤ 4 := by omega
  clear hv2
  go_wp2
  go_loopw [3, 4, 5] (fun v a n wr => ∃ (m k : Nat) (at0 : Int) (zs : List Int) (p3 : Nat), n = .int .i64 m ∧ a = .int .i64 at0 ∧ 1 ≤ m + k ∧ m + k ≤ 4 ∧ 0 ≤ at0 ∧ at0 ≤ 100 * ((k : Int) + 1) ∧ p ≤ p3 ∧ p3 + 5 * m ≤ p + 2 + 20 ∧ OwnP w.heap.size wr v zs k ∧ Rd B R p3 wr ∧ w.grownBy wr (some R)) (fun _ _ n _ => (intOf n).toNat)
  case atStart => exact ⟨n1, 0, v1, [], p2, rfl, rfl, by omega, by omega, ha1, by omega, by omega, by omega, HO2.out, HR2.out, HG2.out⟩
  case round =>
    obtain ⟨m, k, at0, zs, p3, rfl, rfl, hmk1, hmk2, ha2, ha3, hp3, hq3, ho2, hr2, hg2⟩ := hrel
    obtain ⟨g, cap, rfl, hc1, hc2, hg, hzl, hrow⟩ := ho2.form
    have HO2 := Lib.hid ho2
    have HR2 := Lib.hid hr2
    have HG2 := Lib.hid hg2
    have hs2 := hg2.size
    clear ho2 hr2 hg2 hrow
    unfold maxLen at hc2
    by_cases hm0 : m = 0
    · subst hm0
      go_wp2
      go_ret
      exact ⟨_, zs, k, p3, by omega, by omega, by omega, by omega, rfl, HO2.out, HR2.out, HG2.out⟩
    obtain ⟨m', rfl⟩ : ∃ m', m = m' + 1 := ⟨m - 1, by omega⟩
    clear hm0
    go_wp2_with fail
    refine (randomColor_c B R p3 _ HR2.out (by omega)).mono ?_
    rintro e w3 ⟨r, gg, bl, al, p4, hp4, hq4, hcb, rfl, hr3, hg3⟩
    have HO3 := Lib.hid (HO2.out.grown hg3 hRl)
    have HG3 := Lib.hid (show w.grownBy w3 (some R) from grown_trans HG2.out hg3)
    have HR3 := Lib.hid hr3
    have hs3 := hg3.size
    (try simp only [World.size_alloc] at hs3)
    clear hr3 hg3 hcb
    go_wp2_with (first | (at_builtin; refine wpList_append_own _ rfl _ _ 25 rfl w.heap.size 40 i0 (.agg #[.int .i64 0, .int .i64 0, .int .i64 0, .int .i64 0, .int .i64 0]) 5 40 Try.underlying25 hi hz0 hz1 hz2 rfl (by decide) _ _ _ rfl (HO3.out.alloc _).1 ⟨w3.heap.size, 0, none⟩ 1 1 [.int .i64 at0, .int .i64 r, .int .i64 gg, .int .i64 bl, .int .i64 al] rfl rfl (cell_five_new _ _ _ _ _ _ _) (by simp [Value.oneCell']) (by unfold maxLen; omega) (by omega) (by simp; omega) ?_; intro v' w9 hown' hgrow hnil; have HO9 := Lib.hid hown'; have HG9 := Lib.hid hgrow; have HN9 := Lib.hid hnil; clear hown' hgrow hnil) | fail)
    have HR9 := Lib.hid ((HR3.out.alloc _).own HG9.out (fun k hk => by have := (HO3.out.1.lt k hk).1; omega) hBR)
    have HGG := Lib.hid (grown_own (grown_alloc HG3.out _) HG9.out (fun k hk => (HO3.out.1.lt k hk).1))
    have HOO := Lib.hid (OwnP.snoc (v := .slice (some ⟨g, 0, none⟩) k cap) (by simp) HO9.out HN9.out)
    clear HO9 HG9 HN9
    refine (pick_c B R p4 _ _ HR9.out (by omega) (by omega)).mono ?_
    rintro e w5 ⟨v5, p5, hp5, hq5, ⟨ha5, hb5⟩, rfl, hr5, hg5⟩
    have HO5 := Lib.hid (HOO.out.grown hg5 hRl)
    have HG5 := Lib.hid (show w.grownBy w5 (some R) from grown_trans HGG.out hg5)
    have HR5 := Lib.hid hr5
    clear hr5 hg5
    go_wp2
    go_roundw
    case rel =>
      refine ⟨m', k + 1, at0 + 1 + v5, _, p5, ?_, rfl, by omega, by omega, by omega, by omega, by omega, by omega, HO5.out, HR5.out, HG5.out⟩
      first | rfl | (show Value.int .i64 _ = Value.int .i64 _; congr 1; omega) | go_num
    case measure => first | (simp [intOf]; done) | (simp [intOf]; omega)
end Go.Proofs.Ytkihbfohdennjaa
