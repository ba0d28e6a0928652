/-
  The reader that yields numbers from a code: what 'pick', 'one' and 'newReader' leave. (Conditions: the bounds of each theorem.)
-/
import Derived.Test.YtmdkfeojkjlpeaaSlice
import Derived.Deep.QuietTactic
import Derived.BigQuiet
import Derived.Deep.RegionHeld3
import Derived.Laws.BitsAllLaws
import Derived.Laws.BitsLemmas
namespace Go.Proofs.Ytmdkfeojkjlpeaa
open Go.RowKit
set_option linter.unusedSimpArgs false
set_option linter.unusedVariables false
/-- A reader in block R: at most 2000 bytes of code, in a block below B, and the count p of what it has yielded. -/
def Rd (B R p : Nat) (w : World) : Prop := ∃ (A : Option Addr) (n cap : Nat) (f : Nat → Int), n ≤ 2000 ∧ B ≤ R ∧ w.heap[R]? = some (.cells #[.slice A n cap, .int .i64 (p : Int)] 56 (0, 0)) ∧
  (0 < n → ∃ b off, A = some ⟨b, off, none⟩ ∧ b < B ∧ ∀ i, i < n → 0 ≤ f i ∧ f i ≤ 255 ∧ w.cell? ⟨b, off + i, none⟩ = some (.int .u8 (f i)))
/-- What a draw leaves: a number of which Q holds; at most k picks more; nothing that was there has turned but the reader's own block. -/
def Drawn (B R p k : Nat) (w : World) (Q : Int → Prop) (e : Ending) (w' : World) : Prop := ∃ (v : Int) (p' : Nat), p ≤ p' ∧ p' ≤ p + k ∧ Q v ∧ e = .returned (.int .i64 v) ∧ Rd B R p' w' ∧ w.grownBy w' (some R)
theorem Rd.bump {B R p : Nat} {w : World} (h : Rd B R p w) : Rd B R (p + 1) (w.setCell ⟨R, 1, none⟩ (.int .i64 ((p : Int) + 1))) ∧ w.grownBy (w.setCell ⟨R, 1, none⟩ (.int .i64 ((p : Int) + 1))) (some R) := by
  obtain ⟨A, n, cap, f, hn, hBR, hblk, hby⟩ := h
  refine ⟨⟨A, n, cap, f, hn, hBR, by simp [World.setCell, Array.getElem?_modify, hblk], fun h0 => ?_⟩, rfl, rfl, rfl, by simp [World.setCell], fun i hi hne => Below.heap_setCell _ _ _ _ (by rintro rfl; exact hne rfl)⟩
  obtain ⟨b, off, e, hb, hc⟩ := hby h0
  refine ⟨b, off, e, hb, fun i hi => ⟨(hc i hi).1, (hc i hi).2.1, ?_⟩⟩
  rw [World.cell?_setCell_far _ _ _ _ (by simp only []; omega)]
  exact (hc i hi).2.2
theorem Rd.drewN {B R p : Nat} {w : World} (h : Rd B R p w) (n : Nat) : Rd B R p (w.drewN n) := h
theorem grown_drewN {w w' : World} {row : Option Nat} (h : w.grownBy w' row) (n : Nat) : w.grownBy (w'.drewN n) row := ⟨h.os, h.tape, h.output, h.size, h.block⟩
theorem i64_xor (a b : Int) (ha : 0 ≤ a) (ha2 : a < 4611686018427387904) (hb : 0 ≤ b) (hb2 : b < 4611686018427387904) : 0 ≤ bits .xor .i64 a b := by
  obtain ⟨a, rfl⟩ := Int.eq_ofNat_of_zero_le ha
  obtain ⟨b, rfl⟩ := Int.eq_ofNat_of_zero_le hb
  have e1 : (BitVec.ofInt 64 (a : Int)).toNat = a := by rw [BitVec.ofInt_natCast, BitVec.toNat_ofNat]; exact Nat.mod_eq_of_lt (by omega)
  have e2 : (BitVec.ofInt 64 (b : Int)).toNat = b := by rw [BitVec.ofInt_natCast, BitVec.toNat_ofNat]; exact Nat.mod_eq_of_lt (by omega)
  have hx : a ^^^ b < 2 ^ 62 := Nat.xor_lt_two_pow (by omega) (by omega)
  show 0 ≤ IntKind.i64.wrap ((BitVec.ofInt 64 (a : Int) ^^^ BitVec.ofInt 64 (b : Int)).toNat : Int)
  rw [BitVec.toNat_xor, e1, e2, IntKind.wrap_i64]
  omega
set_option maxHeartbeats 1000000 in
theorem pick_c (B R p : Nat) (m : Int) (w : World) (h : Rd B R p w) (hp : p ≤ 1000000) (hm : m ≤ 1000000000) :
    Calls Try.prog 46 #[.pointer (some ⟨R, 0, none⟩), .int .i64 m] w (Drawn B R p 1 w fun v => 0 ≤ v ∧ (v < m ∨ v = 0)) := by
  obtain ⟨A, n, cap, f, hn, hBR, hblk, hby⟩ := h
  have c0 : w.cell? ⟨R, 0, none⟩ = some (.slice A n cap) := cell_of_row w R 0 _ _ _ hblk
  have c1 : w.cell? ⟨R, 1, none⟩ = some (.int .i64 (p : Int)) := cell_of_row w R 1 _ _ _ hblk
  have f1 : w.frozen? ⟨R, 1, none⟩ = false := by simp [World.frozen?, hblk]
  have hb0 : Rd B R p w := ⟨A, n, cap, f, hn, hBR, hblk, hby⟩
  obtain ⟨k1, k2⟩ := hb0.bump
  have K1 := Lib.hid k1
  have K2 := Lib.hid k2
  clear k1 k2 hb0
  have HB := Lib.hid hblk
  clear hblk
  by_cases hm1 : m < 1
  · clear hby
    go_enter Try.func46, Try.ntmps46
    go_wp2
    go_ret
    exact ⟨0, p + 1, by omega, by omega, ⟨by omega, .inr rfl⟩, rfl, K1.out, K2.out⟩
  have hm2 : 1 ≤ m := by omega
  by_cases hn0 : n = 0
  · subst hn0
    clear hby
    go_enter Try.func46, Try.ntmps46
    go_wp2
    go_ret
    exact ⟨0, p + 1, by omega, by omega, ⟨by omega, .inr rfl⟩, rfl, K1.out, K2.out⟩
  obtain ⟨b, off, rfl, hb, hc⟩ := hby (by omega)
  have hbR : R ≠ b := by omega
  have hne : ((n : Int) == 0) = false := by simp; omega
  have HC := Lib.hid hc
  clear hc
  by_cases hk : p < n
  · obtain ⟨x1, x2, x3⟩ := HC.out p hk
    have hm0 : (m == 0) = false := by simp; omega
    go_enter Try.func46, Try.ntmps46
    go_wp2
    go_ret
    exact ⟨f p % m, p + 1, by omega, by omega, ⟨Int.emod_nonneg _ (by omega), .inl (Int.emod_lt_of_pos _ (by omega))⟩, rfl, K1.out, K2.out⟩
  · have j1 : p % n < n := Nat.mod_lt _ (by omega)
    have j2 : (p * 7 + 3) % n < n := Nat.mod_lt _ (by omega)
    obtain ⟨x1, x2, x3⟩ := HC.out _ j1
    obtain ⟨y1, y2, y3⟩ := HC.out _ j2
    have i1 : (0 : Int) ≤ (p : Int) % (n : Int) := by omega
    have i2 : (p : Int) % (n : Int) < (n : Int) := by omega
    have i3 : (0 : Int) ≤ ((p : Int) * 7 + 3) % (n : Int) := Int.emod_nonneg _ (by omega)
    have i4 : ((p : Int) * 7 + 3) % (n : Int) < (n : Int) := Int.emod_lt_of_pos _ (by omega)
    have d1 : (0 : Int) ≤ (p : Int) / (n : Int) := Int.ediv_nonneg (by omega) (by omega)
    have d2 : (p : Int) / (n : Int) ≤ 1000000 := (ediv_le (by omega) (by omega) (by omega)).2
    go_enter Try.func46, Try.ntmps46
    go_wp2
    go_quiet (fail)
    go_wp2
    go_ret
    have hs1 : 0 ≤ f (p % n) * 131 + f ((p * 7 + 3) % n) * 1117 + (p : Int) * 29 + (p : Int) / (n : Int) * 53 := by omega
    have hs2 : f (p % n) * 131 + f ((p * 7 + 3) % n) * 1117 + (p : Int) * 29 + (p : Int) / (n : Int) * 53 < 4611686018427387904 := by omega
    have hz := i64_xor _ _ hs1 hs2 (Int.ediv_nonneg hs1 (show (0 : Int) ≤ 64 by omega)) (by omega)
    exact ⟨_, p + 1, by omega, by omega, ⟨Int.tmod_nonneg m hz, .inl (Int.tmod_lt_of_pos _ (by omega))⟩, rfl, Rd.drewN K1.out nq, grown_drewN K2.out nq⟩

theorem Rd.lt {B R p : Nat} {w : World} (h : Rd B R p w) : R < w.heap.size := by
  obtain ⟨A, n, cap, f, hn, hBR, hblk, hby⟩ := h
  rcases Nat.lt_or_ge R w.heap.size with hlt | hge
  · exact hlt
  · rw [Array.getElem?_eq_none hge] at hblk; cases hblk
/-- The reader is as it was where no block below w's end has turned. -/
theorem Rd.keep {B R p : Nat} {w w' : World} (h : Rd B R p w) (hk : ∀ i, i < w.heap.size → (i < B ∨ i = R) → w'.heap[i]? = w.heap[i]?) : Rd B R p w' := by
  have hlt := h.lt
  obtain ⟨A, n, cap, f, hn, hBR, hblk, hby⟩ := h
  refine ⟨A, n, cap, f, hn, hBR, (hk R hlt (.inr rfl)).trans hblk, fun h0 => ?_⟩
  obtain ⟨b, off, e, hb, hc⟩ := hby h0
  refine ⟨b, off, e, hb, fun i hi => ⟨(hc i hi).1, (hc i hi).2.1, ?_⟩⟩
  rw [World.cell?_of_block (w := w) (a := ⟨b, off + i, none⟩) (hk b (by omega) (.inl hb))]
  exact (hc i hi).2.2
theorem Rd.below {B R p : Nat} {w w' : World} (h : Rd B R p w) (hb : Below w.heap.size w w') : Rd B R p w' := h.keep fun i hi _ => hb.block i hi
theorem Rd.alloc {B R p : Nat} {w : World} (h : Rd B R p w) (o : Obj) : Rd B R p (w.alloc o) := h.keep fun i hi _ => Below.heap_alloc w o i hi
theorem Rd.drew {B R p : Nat} {w : World} (h : Rd B R p w) : Rd B R p w.drew := h
theorem Rd.setCell {B R p : Nat} {w : World} (h : Rd B R p w) {a : Addr} (h1 : B ≤ a.block) (h2 : a.block ≠ R) (u : Value) : Rd B R p (w.setCell a u) :=
  h.keep fun i hi hor => Below.heap_setCell w a u i (by rintro rfl; rcases hor with hor | hor <;> omega)
/-- What a draw lets be: a cell of another block. -/
theorem gcell {w w1 : World} {R : Nat} (hg : w.grownBy w1 (some R)) : (∀ b o, b < w.heap.size → b ≠ R → w1.cell? ⟨b, o, none⟩ = w.cell? ⟨b, o, none⟩) ∧ (∀ b o, b < w.heap.size → b ≠ R → w1.frozen? ⟨b, o, none⟩ = w.frozen? ⟨b, o, none⟩) :=
  ⟨fun b o h hne => World.cell?_of_block (w := w) (a := ⟨b, o, none⟩) (hg.block b h (by simpa using hne)), fun b o h hne => World.frozen?_of_block (w := w) (a := ⟨b, o, none⟩) (hg.block b h (by simpa using hne))⟩
theorem below_grown {B R : Nat} {w W w1 : World} (h : Below B w W) (hg : W.grownBy w1 (some R)) (hB : B ≤ W.heap.size) (hR : B ≤ R) : Below B w w1 := h.grown hg hB (fun k hk => by injection hk with hk; omega)
theorem grown_below {R : Option Nat} {w W w1 : World} (h : Below w.heap.size w W) (hg : W.grownBy w1 R) : w.grownBy w1 R :=
  ⟨hg.os.trans h.os, hg.tape.trans h.tape, hg.output.trans h.output, Nat.le_trans h.size hg.size, fun k hk hne => (hg.block k (Nat.lt_of_lt_of_le hk h.size) hne).trans (h.block k hk)⟩
theorem grown_trans {R : Option Nat} {w W w1 : World} (h : w.grownBy W R) (hg : W.grownBy w1 R) : w.grownBy w1 R :=
  ⟨hg.os.trans h.os, hg.tape.trans h.tape, hg.output.trans h.output, Nat.le_trans h.size hg.size, fun k hk hne => (hg.block k (Nat.lt_of_lt_of_le hk h.size) hne).trans (h.block k hk hne)⟩
theorem grown_then_below {R : Option Nat} {w W w1 : World} (h : w.grownBy W R) (hg : Below W.heap.size W w1) : w.grownBy w1 R :=
  ⟨hg.os.trans h.os, hg.tape.trans h.tape, hg.output.trans h.output, Nat.le_trans h.size hg.size, fun k hk hne => (hg.block k (Nat.lt_of_lt_of_le hk h.size)).trans (h.block k hk hne)⟩
theorem grown_refl (w : World) (R : Option Nat) : w.grownBy w R := ⟨rfl, rfl, rfl, Nat.le_refl _, fun _ _ _ => rfl⟩
theorem grown_set {w W : World} {R : Option Nat} (h : w.grownBy W R) {a : Addr} (ha : w.heap.size ≤ a.block) (u : Value) : w.grownBy (W.setCell a u) R :=
  ⟨h.os, h.tape, h.output, Nat.le_trans h.size (by simp [World.setCell]), fun k hk hne => (Below.heap_setCell _ _ _ _ (by omega)).trans (h.block k hk hne)⟩
theorem grown_alloc {w W : World} {R : Option Nat} (h : w.grownBy W R) (o : Obj) : w.grownBy (W.alloc o) R := grown_then_below h ((Below.refl _ _).alloc (Nat.le_refl _) o)
theorem grown_drew {w W : World} {R : Option Nat} (h : w.grownBy W R) : w.grownBy W.drew R := ⟨h.os, h.tape, h.output, h.size, h.block⟩
set_option maxHeartbeats 400000 in
theorem one_c (B R p : Nat) (zs : List Int) (b n cap : Nat) (w : World) (h : Rd B R p w) (hp : p ≤ 1000000) (hI : Ints w (some ⟨b, 0, none⟩) zs) (hb : b ≠ R) (hn : zs.length = n) (h0 : 0 < n) (h1 : n ≤ 1000) :
    Calls Try.prog 41 #[.pointer (some ⟨R, 0, none⟩), .slice (some ⟨b, 0, none⟩) n cap] w (Drawn B R p 1 w fun v => v ∈ zs) := by
  subst hn
  obtain ⟨b', off', e, hlt, hc⟩ := hI h0
  injection e with e; injection e with e1 e2; subst e1 e2
  have HC := Lib.hid hc
  have HR := Lib.hid h
  clear hc h hI
  go_enter Try.func41, Try.ntmps41
  go_wp2_with fail
  refine (pick_c B R p _ _ HR.out hp (by omega)).mono ?_
  rintro e w1 ⟨v, p', hp1, hp2, ⟨hv0, hv⟩, rfl, hr1, hg1⟩
  obtain ⟨k, rfl⟩ := Int.eq_ofNat_of_zero_le hv0
  have hk : k < zs.length := by omega
  have hck : w1.cell? ⟨b, k, none⟩ = some (.int .i64 (nth zs k)) := by
    have := HC.out k hk
    rw [Nat.zero_add] at this
    exact hg1.cell this (by simpa using hb)
  have HG := Lib.hid hg1
  have HR1 := Lib.hid hr1
  clear hg1 hr1 hv
  go_wp2
  go_ret
  exact ⟨_, p', hp1, hp2, nth_mem hk, rfl, HR1.out, HG.out⟩
/-- The code that a law is handed: n bytes, in a block below B. -/
def Code (B : Nat) (w : World) (A : Option Addr) (n cap : Nat) : Prop := n ≤ cap ∧ cap ≤ maxLen ∧ (0 < n → ∃ (b off : Nat) (f : Nat → Int), A = some ⟨b, off, none⟩ ∧ b < B ∧ ∀ i, i < n → 0 ≤ f i ∧ f i ≤ 255 ∧ w.cell? ⟨b, off + i, none⟩ = some (.int .u8 (f i)))
theorem IsRow.code {w : World} {a : Option Addr} {len cap : Nat} {z : List Int} (h : IsRow .u8 w a len cap z) : Code w.heap.size w a len cap := by
  rcases h with ⟨rfl, rfl, rfl, rfl⟩ | ⟨x, rfl, hl, hm, hz, hc, hw⟩
  · exact ⟨by omega, by unfold maxLen; omega, fun h => absurd h (by omega)⟩
  · refine ⟨hl, hm, fun hn => ?_⟩
    obtain ⟨b, off, spot⟩ := x
    have h0 := hc 0 (by omega)
    have hspot : spot = none := by simpa [Addr.add] using World.cell?_spot h0
    subst hspot
    refine ⟨b, off, fun i => nth z i, rfl, World.block_lt_of_cell? w ⟨b, off, none⟩ (by simpa [Addr.add] using h0), fun i hi => ?_⟩
    have hb := Go.bounds_u8 (hw _ (nth_mem (show i < z.length by omega)))
    refine ⟨hb.1, hb.2, ?_⟩
    show w.cell? ⟨b, off + i, none⟩ = some (.int .u8 (z.getD i 0))
    rw [← hc i (by omega)]
    by_cases h0 : i = 0
    · subst h0; simp [Addr.add]
    · simp [Addr.add, h0]
theorem Code.below {B : Nat} {w w' : World} {A : Option Addr} {n cap : Nat} (h : Code B w A n cap) (hb : Below B w w') : Code B w' A n cap :=
  ⟨h.1, h.2.1, fun hn => by
    obtain ⟨b, off, f, e, hlt, hc⟩ := h.2.2 hn
    exact ⟨b, off, f, e, hlt, fun i hi => ⟨(hc i hi).1, (hc i hi).2.1, (hb.cell (p := ⟨b, off + i, none⟩) hlt).trans (hc i hi).2.2⟩⟩⟩
/-- What newReader leaves: the reader's block, new. -/
def NewRd (B : Nat) (w : World) (e : Ending) (w' : World) : Prop := e = .returned (.pointer (some ⟨w.heap.size, 0, none⟩)) ∧ Rd B w.heap.size 0 w' ∧ Below w.heap.size w w' ∧ w'.heap.size = w.heap.size + 1
theorem newReader_c (B : Nat) (A : Option Addr) (n cap : Nat) (w : World) (h : Code B w A n cap) (hB : B ≤ w.heap.size) :
    Calls Try.prog 40 #[.slice A n cap] w (NewRd B w) := by
  obtain ⟨hnc, hcap, hby⟩ := h
  unfold maxLen at hcap
  have HB := Lib.hid hby
  clear hby
  have key : ∀ m : Nat, m ≤ n → m ≤ 2000 → ∀ c : Nat, Rd B w.heap.size 0 (w.alloc (.cells #[.slice A m c, .int .i64 0] 56)) := fun m h1 h2 c => by
    refine ⟨A, m, c, fun i => match A with | some a => (match w.cell? ⟨a.block, a.off + i, none⟩ with | some (.int _ v) => v | _ => 0) | none => 0, h2, hB, heap_alloc_new w _, fun h0 => ?_⟩
    obtain ⟨b, off, f, rfl, hlt, hc⟩ := HB.out (by omega)
    refine ⟨b, off, rfl, hlt, fun i hi => ?_⟩
    obtain ⟨q1, q2, q3⟩ := hc i (by omega)
    simp only [q3]
    exact ⟨q1, q2, by rw [World.cell?_alloc_lt w _ ⟨b, off + i, none⟩ (by simp only []; omega)]; exact q3⟩
  have HK := Lib.hid key
  clear key
  by_cases hn : 2000 < n
  · have hn' : (2000 : Int) < (n : Int) := by omega
    have h2 : (2000 : Nat) ≤ cap := by omega
    have h3 : (2000 : Int) ≤ (cap : Int) := by omega
    go_enter Try.func40, Try.ntmps40
    go_wp2
    go_ret
    exact ⟨rfl, HK.out 2000 (by omega) (by omega) _, by go_grown, by simp⟩
  · have hn' : ¬ (2000 : Int) < (n : Int) := by omega
    go_enter Try.func40, Try.ntmps40
    go_wp2
    go_ret
    exact ⟨rfl, HK.out n (by omega) (by omega) _, by go_grown, by simp⟩
end Go.Proofs.Ytmdkfeojkjlpeaa
