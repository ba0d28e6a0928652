/-
  An argument that is a slice of pairs: opened to its cells, and as a list.
-/
import Derived.Test.YtjfbbieacpnpkaaBase
import Derived.Test.YtjfbbieacpnpkaaDashM
import Derived.Deep.SlicePairs
namespace Go.Proofs.Ytjfbbieacpnpkaa
open Go.ChangeShapes Go.WideShapes Go.ChangeAt Go.RowKit Go.Joins Go.Deep
set_option linter.unusedSimpArgs false
set_option linter.unusedVariables false

theorem open_spans {H : Type} {enc : TypeId × Value → H} {W : World} {a : Option Addr} {len cap : Nat} {d : DataW H} {p : List MemPlace}
    (h : DataW.Trod enc Try.prog W 0 (fun _ => true) true 22 (.slice a len cap) d p) (lt : ∀ x ∈ p, x.block < W.heap.size) : ∃ f, IsGrid 2 W a len cap f := by
  obtain ⟨fuel, hf⟩ := h
  rcases open_slice_pairs Try.underlying22 Try.underlying51 (by kernel_rfl) rfl rfl (by kernel_rfl) (by kernel_rfl) hf with ⟨hcs, _⟩ | ⟨x, l, c, m, n, V0, V1, D0, D1, P0, P1, hcs, _, hl, hm, hmm, hx, hc⟩
  · simp only [Value.cells, List.cons.injEq, Value.slice.injEq, and_true] at hcs
    obtain ⟨rfl, rfl, rfl⟩ := hcs
    exact ⟨fun _ _ => 0, .inl ⟨rfl, rfl, rfl⟩⟩
  · simp only [Value.cells, List.cons.injEq, Value.slice.injEq, and_true] at hcs
    obtain ⟨rfl, rfl, rfl⟩ := hcs
    simp only [if_true] at hmm
    have each : ∀ i, i < m → ∃ q : Int × Int, (V0 i = .int .i64 q.1 ∧ (Lit.int .i64 q.1).wf = true) ∧ V1 i = .int .i64 q.2 ∧ (Lit.int .i64 q.2).wf = true := by
      intro i hi
      obtain ⟨_, _, t0, t1⟩ := hc i hi
      obtain ⟨u, e0, _, w0⟩ := DataW.trod_int Try.underlying3 t0
      obtain ⟨v, e1, _, w1⟩ := DataW.trod_int Try.underlying3 t1
      simp only [List.cons.injEq, and_true] at e0 e1
      exact ⟨(u, v), ⟨e0, w0⟩, e1, w1⟩
    obtain ⟨q, hq⟩ := choose_lt each
    refine ⟨fun i j => if j = 0 then (q i).1 else (q i).2, .inr ⟨x, rfl, hl, hm, fun i hi j hj => ?_⟩⟩
    have him : i < m := by omega
    obtain ⟨⟨e0, w0⟩, e1, w1⟩ := hq i him
    obtain ⟨c0, c1, _, _⟩ := hc i him
    match j, hj with
    | 0, _ => exact ⟨by rw [Nat.add_zero, c0, e0]; rfl, w0⟩
    | 1, _ => exact ⟨by rw [c1, e1]; rfl, w1⟩
/-- The pairs as a list. -/
theorem IsGrid.pairs {w : World} {a : Option Addr} {len cap : Nat} {f : Nat → Nat → Int} (h : IsGrid 2 w a len cap f) : ∃ l : List (Int × Int), l.length = len ∧ Ints w a (flat l) ∧ len ≤ cap ∧ cap ≤ maxLen ∧ ∀ i, i < len → (Lit.int .i64 (pth l i).1).wf = true ∧ (Lit.int .i64 (pth l i).2).wf = true := by
  rcases h with ⟨rfl, rfl, rfl⟩ | ⟨x, rfl, hl, hm, hc⟩
  · exact ⟨[], rfl, Ints.nil _ _, by omega, by unfold maxLen; omega, fun i hi => absurd hi (by omega)⟩
  · refine ⟨(List.range len).map fun i => (f i 0, f i 1), by simp, fun hn => ?_, hl, hm, fun i hi => ?_⟩
    · rw [flat_length, List.length_map, List.length_range] at hn
      obtain ⟨b, off, spot⟩ := x
      have h0 := (hc 0 (by omega) 0 (by omega)).1
      have hspot : spot = none := by simpa [Addr.add] using World.cell?_spot h0
      subst hspot
      refine ⟨b, off, rfl, World.block_lt_of_cell? w ⟨b, off, none⟩ (by simpa [Addr.add] using h0), fun i hi => ?_⟩
      rw [flat_length, List.length_map, List.length_range] at hi
      have hp : pth ((List.range len).map fun i => (f i 0, f i 1)) (i / 2) = (f (i / 2) 0, f (i / 2) 1) := by
        unfold pth; rw [List.getD_eq_getElem?_getD, List.getElem?_map, List.getElem?_range (by omega)]; rfl
      obtain ⟨e0, e1⟩ := nth_flat ((List.range len).map fun i => (f i 0, f i 1)) (i / 2)
      rw [hp] at e0 e1
      have hcell := (hc (i / 2) (by omega) (i % 2) (by omega)).1
      have ei : i / 2 * 2 + i % 2 = i := by omega
      rw [ei] at hcell
      have hv : nth (flat ((List.range len).map fun i => (f i 0, f i 1))) i = f (i / 2) (i % 2) := by
        rcases Nat.mod_two_eq_zero_or_one i with hr | hr
        · rw [hr]; exact (congrArg (nth _) (show i = 2 * (i / 2) by omega)).trans e0
        · rw [hr]; exact (congrArg (nth _) (show i = 2 * (i / 2) + 1 by omega)).trans e1
      rw [hv, ← hcell]
      by_cases hi0 : i = 0
      · subst hi0; simp [Addr.add]
      · simp [Addr.add, hi0]
    · have hp : pth ((List.range len).map fun i => (f i 0, f i 1)) i = (f i 0, f i 1) := by
        unfold pth; rw [List.getD_eq_getElem?_getD, List.getElem?_map, List.getElem?_range hi]; rfl
      rw [hp]; exact ⟨(hc i hi 0 (by omega)).2, (hc i hi 1 (by omega)).2⟩
end Go.Proofs.Ytjfbbieacpnpkaa
