/-
  Slices of ints that a call makes: rows of cells in blocks of its own; copies, comparisons and marks of them. (Conditions: the bounds of each theorem.)
-/
import Derived.Test.YtmdkfeojkjlpeaaSlice
import Derived.Laws.MakeOwn
import Derived.Deep.QuietTactic
import Derived.BigQuiet
namespace Go.Proofs.Ytmdkfeojkjlpeaa
open Go.RowKit
set_option linter.unusedSimpArgs false
set_option linter.unusedVariables false

/-- Block g is a row of at least n cells of type t, none frozen; cell i holds f i. -/
def Row (w : World) (g : Nat) (t : TypeId) (n : Nat) (f : Nat → Value) : Prop := ∃ cs, w.heap[g]? = some (.cells cs t (0, 0)) ∧ ∀ i, i < n → cs[i]? = some (f i)
section
variable {w w' : World} {g n : Nat} {t : TypeId} {f : Nat → Value}
theorem Row.cell (h : Row w g t n f) {i : Nat} (hi : i < n) : w.cell? ⟨g, i, none⟩ = some (f i) := by
  obtain ⟨cs, hb, hc⟩ := h; rw [cell_of_row w g i cs t (0, 0) hb]; exact hc i hi
theorem Row.free (h : Row w g t n f) (i : Nat) : w.frozen? ⟨g, i, none⟩ = false := by
  obtain ⟨cs, hb, hc⟩ := h; simp [World.frozen?, hb]
theorem Row.lt (h : Row w g t n f) : g < w.heap.size := by
  obtain ⟨cs, hb, hc⟩ := h
  rcases Nat.lt_or_ge g w.heap.size with hlt | hge
  · exact hlt
  · rw [Array.getElem?_eq_none hge] at hb; cases hb
theorem Row.keep (h : Row w g t n f) (hk : w'.heap[g]? = w.heap[g]?) : Row w' g t n f := by
  obtain ⟨cs, hb, hc⟩ := h; exact ⟨cs, hk.trans hb, hc⟩
theorem Row.congr (h : Row w g t n f) {f' : Nat → Value} (hf : ∀ i, i < n → f i = f' i) : Row w g t n f' := by
  obtain ⟨cs, hb, hc⟩ := h; exact ⟨cs, hb, fun i hi => by rw [hc i hi, hf i hi]⟩
theorem Row.below {B : Nat} (h : Row w g t n f) (hb : Below B w w') (hg : g < B) : Row w' g t n f := h.keep (hb.block g hg)
theorem Row.set (h : Row w g t n f) {i : Nat} (hi : i < n) (u : Value) : Row (w.setCell ⟨g, i, none⟩ u) g t n (fun j => if j = i then u else f j) := by
  obtain ⟨cs, hb, hc⟩ := h
  refine ⟨cs.setIfInBounds i u, by simp [World.setCell, Array.getElem?_modify, hb], fun j hj => ?_⟩
  have hsz : i < cs.size := by
    rcases Nat.lt_or_ge i cs.size with hlt | hge
    · exact hlt
    · have := hc i hi; rw [Array.getElem?_eq_none hge] at this; cases this
  rw [Array.getElem?_setIfInBounds]
  by_cases e : i = j
  · subst e; simp [hsz]
  · rw [if_neg e]; show cs[j]? = some (if j = i then u else f j); rw [if_neg (fun k => e k.symm)]; exact hc j hj
theorem Row.far (h : Row w g t n f) {p : Addr} (hp : p.block ≠ g) (u : Value) : Row (w.setCell p u) g t n f := h.keep (Below.heap_setCell w p u g (fun e => hp e.symm))
end
/-- Of what was there only the blocks from lo up to hi may have turned. -/
structure Only (lo hi : Nat) (w w' : World) : Prop where
  os : w'.os = w.os
  tape : w'.tape = w.tape
  output : w'.output = w.output
  size : w.heap.size ≤ w'.heap.size
  block : ∀ k, k < w.heap.size → ¬ (lo ≤ k ∧ k < hi) → w'.heap[k]? = w.heap[k]?
theorem Only.refl (lo hi : Nat) (w : World) : Only lo hi w w := ⟨rfl, rfl, rfl, Nat.le_refl _, fun _ _ _ => rfl⟩
theorem Only.below {lo hi B : Nat} {a w w' : World} (h : Below B a w) (ho : Only lo hi w w') (h1 : B ≤ lo) (h2 : B ≤ w.heap.size) : Below B a w' :=
  h.trans ⟨ho.os, ho.tape, ho.output, ho.size, fun k hk => ho.block k (by omega) (by omega)⟩
theorem Only.set {lo hi : Nat} {a w : World} (h : Only lo hi a w) {p : Addr} (h1 : lo ≤ p.block) (h2 : p.block < hi) (u : Value) : Only lo hi a (w.setCell p u) :=
  ⟨h.os, h.tape, h.output, Nat.le_trans h.size (by simp [World.setCell]), fun k hk hn => (Below.heap_setCell _ _ _ _ (by rintro rfl; exact hn ⟨h1, h2⟩)).trans (h.block k hk hn)⟩
/-- The slice value at A has the elements zs, in a block of the call's own between lo and hi. -/
def Own (lo hi : Nat) (w : World) (A : Option Addr) (zs : List Int) : Prop :=
  0 < zs.length → ∃ g, A = some ⟨g, 0, none⟩ ∧ lo ≤ g ∧ g < hi ∧ Row w g 3 zs.length (fun i => .int .i64 (nth zs i))
theorem Own.nil (lo hi : Nat) (w : World) (A : Option Addr) : Own lo hi w A [] := fun h => absurd h (by simp)
theorem Own.ints {lo hi : Nat} {w : World} {A : Option Addr} {zs : List Int} (h : Own lo hi w A zs) : Ints w A zs := fun hn => by
  obtain ⟨g, e, h1, h2, hr⟩ := h hn
  exact ⟨g, 0, e, hr.lt, fun i hi => by rw [Nat.zero_add]; exact hr.cell hi⟩
theorem Own.keep {lo hi : Nat} {w w' : World} {A : Option Addr} {zs : List Int} (h : Own lo hi w A zs) (hk : ∀ k, k < w.heap.size → lo ≤ k → k < hi → w'.heap[k]? = w.heap[k]?) : Own lo hi w' A zs := fun hn => by
  obtain ⟨g, e, h1, h2, hr⟩ := h hn
  exact ⟨g, e, h1, h2, hr.keep (hk g hr.lt h1 h2)⟩
theorem Own.below {lo hi : Nat} {w w' : World} {A : Option Addr} {zs : List Int} (h : Own lo hi w A zs) (hb : Below w.heap.size w w') : Own lo hi w' A zs := h.keep fun k hk _ _ => hb.block k hk
theorem Own.only {lo hi lo' hi' : Nat} {w w' : World} {A : Option Addr} {zs : List Int} (h : Own lo hi w A zs) (ho : Only lo' hi' w w') (hd : hi ≤ lo' ∨ hi' ≤ lo) : Own lo hi w' A zs := h.keep fun k hk h1 h2 => ho.block k hk (by omega)
theorem Own.more {lo hi lo' hi' : Nat} {w : World} {A : Option Addr} {zs : List Int} (h : Own lo hi w A zs) (h1 : lo' ≤ lo) (h2 : hi ≤ hi') : Own lo' hi' w A zs := fun hn => by
  obtain ⟨g, e, k1, k2, hr⟩ := h hn
  exact ⟨g, e, by omega, by omega, hr⟩
/-- What a call that makes a slice leaves: a value of n elements zs in a new block; nothing that was there has turned. -/
def Made (w : World) (zs : List Int) (e : Ending) (w' : World) : Prop := ∃ (A : Option Addr) (cap : Nat), e = .returned (.slice A zs.length cap) ∧ zs.length ≤ cap ∧ Own w.heap.size w'.heap.size w' A zs ∧ Below w.heap.size w w'

theorem int_info : (Try.prog.info? 3).map (fun i => (i.zero, i.size, i.bytes)) = some (some (.int .i64 0), 1, 8) := by kernel_rfl
theorem run_make_ints (n : Nat) (hn : n ≤ 1000000000000) (w : World) : (Instr.makeSlice 52 (.int .i64 (n : Int)) (.int .i64 (n : Int))).run Try.prog w = .ok (.slice (some ⟨w.heap.size, 0, none⟩) n n) (w.alloc (.cells (madeCells #[.int .i64 0] n) 3)) := by
  obtain ⟨i0, hi, hz0, hz1, hz2⟩ := info_parts int_info
  have hr := run_make (P := Try.prog) w 52 3 i0 _ Try.underlying52 hi hz0 .i64 .i64 (n : Int) (n : Int) (by omega) (Int.le_refl _) (by rw [hz2]; omega) (by omega)
  simpa [Int.toNat_natCast, hz1, Value.cells] using hr
theorem row_made (n : Nat) (w : World) : Row (w.alloc (.cells (madeCells #[.int .i64 0] n) 3)) w.heap.size 3 n (fun _ => .int .i64 0) :=
  ⟨_, heap_alloc_new w _, fun i hi => by simp [madeCells, hi, Nat.mod_one]⟩
/-- The numbers k, k + 1, .. that a mark lays. -/
def upFrom (k : Int) (n : Nat) : List Int := (List.range n).map fun (i : Nat) => k + (i : Int)
theorem upFrom_length (k : Int) (n : Nat) : (upFrom k n).length = n := by simp [upFrom]
theorem nth_upFrom {k : Int} {n i : Nat} (h : i < n) : nth (upFrom k n) i = k + (i : Int) := by
  rw [nth_getElem (by rw [upFrom_length]; exact h)]; simp [upFrom]
end Go.Proofs.Ytmdkfeojkjlpeaa
