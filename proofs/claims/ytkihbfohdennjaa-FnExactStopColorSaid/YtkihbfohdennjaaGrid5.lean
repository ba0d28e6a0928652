/-
  An argument that is a slice of stops: opened to its cells, as a flat list.
-/
import Derived.Test.YtkihbfohdennjaaSlice
import Derived.Deep.SlicePairs
namespace Go.Proofs.Ytkihbfohdennjaa
open Go.RowKit
set_option linter.unusedSimpArgs false
set_option linter.unusedVariables false

open Go.ChangeShapes Go.WideShapes Go.ChangeAt Go.Joins Go.Deep
theorem list5 {α : Type} {cs : List α} (h : cs.length = 5) : ∃ c0 c1 c2 c3 c4, cs = [c0, c1, c2, c3, c4] := by
  match cs, h with
  | [c0, c1, c2, c3, c4], _ => exact ⟨c0, c1, c2, c3, c4, rfl⟩
theorem cells_int : Try.prog.cellsOf 3 = 1 := by kernel_rfl
theorem cells_color : Try.prog.cellsOf 43 = 4 := by kernel_rfl
theorem cells_stop : Try.prog.cellsOf 45 = 5 := by kernel_rfl
theorem stop_read {H : Type} {enc : TypeId × Value → H} {W : World} {base n : Nat} {spare : Nat → Bool} {held : Bool} {cs : List Value} {y : DataW H × List MemPlace}
    (h : DataW.trod enc Try.prog W base spare held n 45 cs = some y) :
    ∃ q : Int × Int × Int × Int × Int, cs = [.int .i64 q.1, .int .i64 q.2.1, .int .i64 q.2.2.1, .int .i64 q.2.2.2.1, .int .i64 q.2.2.2.2] := by
  obtain ⟨y0, y1, k, hx, hl, h0, h1⟩ := trod_struct2 Try.underlying45 h
  rw [cells_stop] at hl
  obtain ⟨c0, c1, c2, c3, c4, rfl⟩ := list5 hl
  simp only [cells_int, cells_color, List.drop_zero, List.drop_succ_cons, List.take_succ_cons, List.take_zero] at h0 h1
  obtain ⟨z0, z1, z2, z3, k2, _, _, g0, g1, g2, g3⟩ := trod_struct4 Try.underlying43 h1
  simp only [cells_int, List.drop_zero, List.drop_succ_cons, List.take_succ_cons, List.take_zero] at g0 g1 g2 g3
  obtain ⟨a, e0, _, _⟩ := DataW.trod_int Try.underlying3 h0
  obtain ⟨r, e1, _, _⟩ := DataW.trod_int Try.underlying3 g0
  obtain ⟨g, e2, _, _⟩ := DataW.trod_int Try.underlying3 g1
  obtain ⟨b, e3, _, _⟩ := DataW.trod_int Try.underlying3 g2
  obtain ⟨c, e4, _, _⟩ := DataW.trod_int Try.underlying3 g3
  simp only [List.cons.injEq, and_true] at e0 e1 e2 e3 e4
  exact ⟨(a, r, g, b, c), by rw [e0, e1, e2, e3, e4]⟩
/-- The stops that came in, flat. -/
def Flat5 (w : World) (a : Option Addr) (len cap : Nat) (zs : List Int) : Prop := zs.length = 5 * len ∧ len ≤ cap ∧ cap ≤ maxLen ∧ Ints w a zs
theorem open_stops5 {H : Type} {enc : TypeId × Value → H} {W : World} {a : Option Addr} {len cap : Nat} {d : DataW H} {p : List MemPlace}
    (h : DataW.Trod enc Try.prog W 0 (fun _ => true) true 22 (.slice a len cap) d p) (_lt : ∀ x ∈ p, x.block < W.heap.size) : ∃ zs, Flat5 W a len cap zs := by
  obtain ⟨fuel, hf⟩ := h
  rcases open_slice Try.underlying22 hf with ⟨hcs, _⟩ | ⟨x, l, c, m, n, D, Pl, hcs, _, hl, hm, hmm, hx, hc⟩
  · simp only [Value.cells, List.cons.injEq, Value.slice.injEq, and_true] at hcs
    obtain ⟨rfl, rfl, rfl⟩ := hcs
    exact ⟨[], rfl, Nat.le_refl _, by unfold maxLen; omega, Ints.nil _ _⟩
  · simp only [Value.cells, List.cons.injEq, Value.slice.injEq, and_true] at hcs
    obtain ⟨rfl, rfl, rfl⟩ := hcs
    simp only [if_true] at hmm
    rw [cells_stop] at hc
    have each : ∀ i, i < m → ∃ q : Int × Int × Int × Int × Int, W.cells? 0 (x.add (i * 5)) 5 = some [.int .i64 q.1, .int .i64 q.2.1, .int .i64 q.2.2.1, .int .i64 q.2.2.2.1, .int .i64 q.2.2.2.2] := by
      intro i hi
      obtain ⟨cs', h1, h2⟩ := hc i hi
      obtain ⟨q, rfl⟩ := stop_read h2
      exact ⟨q, h1⟩
    obtain ⟨q, hq⟩ := choose_lt each
    have hcell : ∀ i, i < m → ∀ j, j < 5 → W.cell? (x.add (i * 5 + j)) = some (.int .i64 ([(q i).1, (q i).2.1, (q i).2.2.1, (q i).2.2.2.1, (q i).2.2.2.2].getD j 0)) := by
      intro i hi j hj
      obtain ⟨_, _, hcc⟩ := World.cells?_some (hq i hi)
      have e := hcc j (by simpa using hj)
      rw [add_add] at e
      rw [e]
      match j, hj with
      | 0, _ => rfl
      | 1, _ => rfl
      | 2, _ => rfl
      | 3, _ => rfl
      | 4, _ => rfl
    refine ⟨(List.range (5 * len)).map fun i => [(q (i / 5)).1, (q (i / 5)).2.1, (q (i / 5)).2.2.1, (q (i / 5)).2.2.2.1, (q (i / 5)).2.2.2.2].getD (i % 5) 0, by simp, hl, hm, fun hn => ?_⟩
    rw [List.length_map, List.length_range] at hn
    obtain ⟨b, off, spot⟩ := x
    have h0 := hcell 0 (by omega) 0 (by omega)
    have hspot : spot = none := by simpa [Addr.add] using World.cell?_spot h0
    subst hspot
    refine ⟨b, off, rfl, World.block_lt_of_cell? W ⟨b, off, none⟩ (by simpa [Addr.add] using h0), fun i hi => ?_⟩
    rw [List.length_map, List.length_range] at hi
    have hk := hcell (i / 5) (by omega) (i % 5) (by omega)
    rw [show i / 5 * 5 + i % 5 = i by omega] at hk
    rw [nth_getElem (by simpa using hi)]
    simp only [List.getElem_map, List.getElem_range]
    rw [← hk]
    by_cases hi0 : i = 0
    · subst hi0; simp [Addr.add]
    · simp [Addr.add, hi0]
end Go.Proofs.Ytkihbfohdennjaa
