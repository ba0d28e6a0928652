/-
  Slices of pairs that a call makes: rows of cells in blocks of its own; comparisons and marks of them. (Conditions: the bounds of each theorem.)
-/
import Derived.Test.YtjfbbieacpnpkaaOwn
import Derived.Test.YtjfbbieacpnpkaaDashM
import Derived.OwnWalk
import Derived.Maps.AppendAt
import Derived.Deep.RegionHeld3
namespace Go.Proofs.Ytjfbbieacpnpkaa
open Go.RowKit
set_option linter.unusedSimpArgs false
set_option linter.unusedVariables false

/-- The slice value at A holds the cells zs, in a block of type t of the call's own between lo and hi. -/
def OwnT (t : TypeId) (lo hi : Nat) (w : World) (A : Option Addr) (zs : List Int) : Prop :=
  0 < zs.length → ∃ g, A = some ⟨g, 0, none⟩ ∧ lo ≤ g ∧ g < hi ∧ Row w g t zs.length (fun i => .int .i64 (nth zs i))
section
variable {t : TypeId}
theorem OwnT.nil (t : TypeId) (lo hi : Nat) (w : World) (A : Option Addr) : OwnT t lo hi w A [] := fun h => absurd h (by simp)
theorem OwnT.ints {lo hi : Nat} {w : World} {A : Option Addr} {zs : List Int} (h : OwnT t lo hi w A zs) : Ints w A zs := fun hn => by
  obtain ⟨g, e, h1, h2, hr⟩ := h hn
  exact ⟨g, 0, e, hr.lt, fun i hi => by rw [Nat.zero_add]; exact hr.cell hi⟩
theorem OwnT.keep {lo hi : Nat} {w w' : World} {A : Option Addr} {zs : List Int} (h : OwnT t lo hi w A zs) (hk : ∀ k, k < w.heap.size → lo ≤ k → k < hi → w'.heap[k]? = w.heap[k]?) : OwnT t lo hi w' A zs := fun hn => by
  obtain ⟨g, e, h1, h2, hr⟩ := h hn
  exact ⟨g, e, h1, h2, hr.keep (hk g hr.lt h1 h2)⟩
theorem OwnT.below {lo hi : Nat} {w w' : World} {A : Option Addr} {zs : List Int} (h : OwnT t lo hi w A zs) (hb : Below w.heap.size w w') : OwnT t lo hi w' A zs := h.keep fun k hk _ _ => hb.block k hk
theorem OwnT.only {lo hi lo' hi' : Nat} {w w' : World} {A : Option Addr} {zs : List Int} (h : OwnT t lo hi w A zs) (ho : Only lo' hi' w w') (hd : hi ≤ lo' ∨ hi' ≤ lo) : OwnT t lo hi w' A zs := h.keep fun k hk h1 h2 => ho.block k hk (by omega)
theorem OwnT.more {lo hi lo' hi' : Nat} {w : World} {A : Option Addr} {zs : List Int} (h : OwnT t lo hi w A zs) (h1 : lo' ≤ lo) (h2 : hi ≤ hi') : OwnT t lo' hi' w A zs := fun hn => by
  obtain ⟨g, e, k1, k2, hr⟩ := h hn
  exact ⟨g, e, by omega, by omega, hr⟩
end
/-- What a call that makes a slice of n structs leaves: their cells zs in a new block; nothing that was there has turned. -/
def MadeT (t : TypeId) (n : Nat) (w : World) (zs : List Int) (e : Ending) (w' : World) : Prop := ∃ (A : Option Addr) (cap : Nat), e = .returned (.slice A n cap) ∧ n ≤ cap ∧ OwnT t w.heap.size w'.heap.size w' A zs ∧ Below w.heap.size w w'
theorem ownT_of_row {t : TypeId} {m : Nat} {w : World} {base n : Nat} {v : Value} {zs : List Int} (h : w.ownsRow base t m v n (zs.map (Value.int .i64))) : ∃ A cap, v = .slice A n cap ∧ n ≤ cap ∧ zs.length = n * m ∧ OwnT t base w.heap.size w A zs := by
  obtain ⟨hl, hv⟩ := h
  simp only [List.length_map] at hl
  rcases hv with ⟨rfl, rfl⟩ | ⟨g, cap, cur, rfl, hb, hh, hnc, hcm, hsz, htk⟩
  · exact ⟨none, 0, rfl, Nat.le_refl _, hl, fun hn => by rw [Nat.zero_mul] at hl; omega⟩
  · refine ⟨some ⟨g, 0, none⟩, cap, rfl, hnc, hl, fun hn => ⟨g, rfl, hb, ?_, cur, hh, fun i hi => ?_⟩⟩
    · rcases Nat.lt_or_ge g w.heap.size with hlt | hge
      · exact hlt
      · rw [Array.getElem?_eq_none hge] at hh; cases hh
    · have e : (cur.toList.take (n * m))[i]? = (zs.map (Value.int .i64))[i]? := by rw [htk]
      rw [List.getElem?_take_of_lt (by omega), List.getElem?_map, List.getElem?_eq_getElem hi] at e
      rw [← Array.getElem?_toList, e]; simp [nth_getElem hi]
theorem span_info : (Try.prog.info? 49).map (fun i => (i.zero, i.size, i.bytes)) = some (some (.agg #[.int .i64 0, .int .i64 0]), 2, 16) := by kernel_rfl
/-- Element i of a slice of pairs. -/
theorem pair_cells {w : World} {b off : Nat} {l : List (Int × Int)} (hc : ∀ i, i < (flat l).length → w.cell? ⟨b, off + i, none⟩ = some (.int .i64 (nth (flat l) i))) {k : Nat} (hk : k < l.length) :
    w.cell? ⟨b, off + k * 2, none⟩ = some (.int .i64 (pth l k).1) ∧ w.cell? ⟨b, off + k * 2 + 1, none⟩ = some (.int .i64 (pth l k).2) := by
  have hl := flat_length l
  obtain ⟨e1, e2⟩ := nth_flat l k
  have h1 := hc (2 * k) (by omega)
  have h2 := hc (2 * k + 1) (by omega)
  rw [e1] at h1
  rw [e2] at h2
  exact ⟨by rw [Nat.mul_comm k 2]; exact h1, by rw [Nat.mul_comm k 2]; exact h2⟩
theorem eqSpan_c (x y : Int) (w : World) : Calls Try.prog 34 #[.agg #[.int .i64 x, .int .i64 y], .agg #[.int .i64 x, .int .i64 y]] w fun e w' => e = .returned (.bool true) ∧ (w.alloc (.cells #[.int .i64 x, .int .i64 y] 49)).alloc (.cells #[.int .i64 x, .int .i64 y] 49) = w' := by
  go_enter Try.func34, Try.ntmps34
  go_wp2
  go_returns
  exact ⟨rfl, rfl⟩
set_option maxHeartbeats 800000 in
theorem eqSpanS_c (l : List (Int × Int)) (A B : Option Addr) (n ca m cb : Nat) (w : World) (ha : Ints w A (flat l)) (hb : Ints w B (flat l)) (hn : l.length = n) (hm : l.length = m) (hz : l.length ≤ 1000000000000) :
    Calls Try.prog 14 #[.slice A n ca, .slice B m cb] w fun e w' => e = .returned (.bool true) ∧ Below w.heap.size w w' := by
  subst hn
  subst hm
  have HA := Lib.hid ha
  have HB := Lib.hid hb
  clear ha hb
  have hm1 : (l.length : Int) ≤ 1000000000000 := by omega
  go_enter Try.func14, Try.ntmps14
  go_wp2
  go_loopw [5] (fun i wr => ∃ k : Nat, k ≤ l.length ∧ i = .int .i64 k ∧ Below w.heap.size w wr) (fun i _ => l.length - (intOf i).toNat)
  case atStart => exact ⟨0, Nat.zero_le _, rfl, Below.refl _ _⟩
  case round =>
    obtain ⟨k, hk, rfl, hbel⟩ := hrel
    have HBel := Lib.hid hbel
    have hsr := hbel.size
    clear hbel
    by_cases hlt : k < l.length
    · obtain ⟨b1, o1, rfl, q1, c1⟩ := HA.out (by rw [flat_length]; omega)
      obtain ⟨b2, o2, rfl, q2, c2⟩ := HB.out (by rw [flat_length]; omega)
      obtain ⟨s1, s2⟩ := pair_cells (w := wr) (fun i hi => (HBel.out.cell (p := ⟨b1, o1 + i, none⟩) q1).trans (c1 i hi)) hlt
      obtain ⟨r1, r2⟩ := pair_cells (w := wr) (fun i hi => (HBel.out.cell (p := ⟨b2, o2 + i, none⟩) q2).trans (c2 i hi)) hlt
      have hl1 : (k : Int) < (l.length : Int) := by omega
      have hl0 : (0 : Int) ≤ (k : Int) := by omega
      clear c1 c2
      go_wp2
      go_region_held3 (fun w' => w'.cell? ⟨b1, o1 + k * 2, none⟩ = some (.int .i64 (pth l k).1) ∧ w'.cell? ⟨b1, o1 + k * 2 + 1, none⟩ = some (.int .i64 (pth l k).2) ∧ w'.cell? ⟨b2, o2 + k * 2, none⟩ = some (.int .i64 (pth l k).1) ∧ w'.cell? ⟨b2, o2 + k * 2 + 1, none⟩ = some (.int .i64 (pth l k).2)) ((repeat' apply And.intro) <;> (first | ((repeat (first | (with_reducible assumption) | (with_reducible refine cell_keepD ?_) | (with_reducible refine cell_keepA ?_ _))); done) | (go_cell; done)))
        (first | (go_at_call 34; refine (eqSpan_c _ _ _).mono ?_; rintro e wz ⟨rfl, rfl⟩))
      go_wp2
      go_roundw
      case rel => exact ⟨k + 1, by omega, by go_num, by have hhh := HBel.out; go_grown⟩
      case measure => simp [intOf]; omega
    · go_wp2
      go_ret
      exact ⟨rfl, HBel.out⟩
theorem toSpan_c (x y : Int) (w : World) : Calls Try.prog 32 #[.agg #[.int .i64 x, .int .i64 y]] w fun e w' => e = .returned (.agg #[.int .i64 x, .int .i64 y]) ∧ ((w.alloc (.cells #[.int .i64 x, .int .i64 y] 51)).alloc (.cells #[.int .i64 x, .int .i64 y] 49)).alloc (.cells #[.int .i64 x, .int .i64 y] 49) = w' := by
  go_enter Try.func32, Try.ntmps32
  go_wp2
  go_returns
  exact ⟨rfl, rfl⟩
theorem run_make_spans (n : Nat) (hn : n ≤ 1000000000000) (w : World) : (Instr.makeSlice 25 (.int .i64 (n : Int)) (.int .i64 (n : Int))).run Try.prog w = .ok (.slice (some ⟨w.heap.size, 0, none⟩) n n) (w.alloc (.cells (madeCells #[.int .i64 0, .int .i64 0] (n * 2)) 49)) := by
  obtain ⟨i0, hi, hz0, hz1, hz2⟩ := info_parts span_info
  have hr := run_make (P := Try.prog) w 25 49 i0 _ Try.underlying25 hi hz0 .i64 .i64 (n : Int) (n : Int) (by omega) (Int.le_refl _) (by rw [hz2]; omega) (by omega)
  simpa [Int.toNat_natCast, hz1, Value.cells] using hr
theorem row_made2 (n : Nat) (w : World) : Row (w.alloc (.cells (madeCells #[.int .i64 0, .int .i64 0] (n * 2)) 49)) w.heap.size 49 (2 * n) (fun _ => .int .i64 0) := by
  refine ⟨_, heap_alloc_new w _, fun i hi => ?_⟩
  have hi2 : i < n * 2 := by omega
  rcases Nat.mod_two_eq_zero_or_one i with hr | hr <;> simp [madeCells, hi2, hr]
theorem Row.alloc {w : World} {g n : Nat} {t : TypeId} {f : Nat → Value} (h : Row w g t n f) (o : Obj) : Row (w.alloc o) g t n f := h.keep (Below.heap_alloc w o g h.lt)
set_option maxHeartbeats 1000000 in
theorem toSpanS_c (l : List (Int × Int)) (A : Option Addr) (n cap : Nat) (w : World) (h : Ints w A (flat l)) (hn : l.length = n) (hm : n ≤ 1000000000000) :
    Calls Try.prog 12 #[.slice A n cap] w (MadeT 49 l.length w (flat l)) := by
  subst hn
  have hmk := run_make_spans l.length hm
  have HI := Lib.hid h
  clear h
  have hm1 : (l.length : Int) ≤ 1000000000000 := by omega
  have HR := Lib.hid (row_made2 l.length w)
  go_enter Try.func12, Try.ntmps12
  go_wp2
  clear hmk
  go_loopw [4] (fun i wr => ∃ k : Nat, k ≤ l.length ∧ i = .int .i64 k ∧ Row wr w.heap.size 49 (2 * l.length) (fun j => .int .i64 (if j < 2 * k then nth (flat l) j else 0)) ∧ Below w.heap.size w wr) (fun i _ => l.length - (intOf i).toNat)
  case atStart => exact ⟨0, Nat.zero_le _, rfl, HR.out.congr fun i hi => by simp, by go_grown⟩
  case round =>
    obtain ⟨k, hk, rfl, hrow, hbel⟩ := hrel
    have HRow := Lib.hid hrow
    have HBel := Lib.hid hbel
    have hgl := hrow.lt
    clear hrow hbel
    by_cases hlt : k < l.length
    · obtain ⟨b, off, rfl, hb, hc⟩ := HI.out (by rw [flat_length]; omega)
      obtain ⟨s1, s2⟩ := pair_cells (w := wr) (fun i hi => (HBel.out.cell (p := ⟨b, off + i, none⟩) hb).trans (hc i hi)) hlt
      obtain ⟨e1, e2⟩ := nth_flat l k
      have E1 := Lib.hid e1
      have E2 := Lib.hid e2
      have d1 : wr.cell? ⟨w.heap.size, k * 2, none⟩ = some (.int .i64 0) := by
        have := HRow.out.cell (i := k * 2) (by omega)
        rwa [if_neg (by omega)] at this
      have d2 : wr.cell? ⟨w.heap.size, k * 2 + 1, none⟩ = some (.int .i64 0) := by
        have := HRow.out.cell (i := k * 2 + 1) (by omega)
        rwa [if_neg (by omega)] at this
      have f1 := HRow.out.free (k * 2)
      have f2 := HRow.out.free (k * 2 + 1)
      have hg1 : w.heap.size < wr.heap.size + 1 := by omega
      have hg2 : w.heap.size < wr.heap.size + 1 + 1 := by omega
      have hbr : b < wr.heap.size := by have := HBel.out.size; omega
      clear hc e1 e2
      go_wp2_with (first | (go_at_call 32; refine (toSpan_c _ _ _).mono ?_; rintro e wz ⟨rfl, rfl⟩))
      go_roundw
      case rel =>
        refine ⟨k + 1, by omega, by go_num, ?_, by have hhh := HBel.out; go_grown⟩
        have hset := ((HRow.out.set (i := k * 2) (by omega) (.int .i64 (pth l k).1)).set (i := k * 2 + 1) (by omega) (.int .i64 (pth l k).2))
        refine Row.congr (f := fun j => if j = k * 2 + 1 then .int .i64 (pth l k).2 else if j = k * 2 then .int .i64 (pth l k).1 else .int .i64 (if j < 2 * k then nth (flat l) j else 0)) ?_ fun j hj => ?_
        · repeat (first | (with_reducible exact hset) | (with_reducible refine Row.alloc ?_ _))
        · by_cases j1 : j = k * 2 + 1
          · subst j1; rw [if_pos rfl, if_pos (by omega), show k * 2 + 1 = 2 * k + 1 by omega, E2.out]
          · rw [if_neg j1]
            by_cases j2 : j = k * 2
            · subst j2; rw [if_pos rfl, if_pos (by omega), show k * 2 = 2 * k by omega, E1.out]
            · rw [if_neg j2]
              by_cases j3 : j < 2 * k
              · rw [if_pos j3, if_pos (by omega)]
              · rw [if_neg j3, if_neg (by omega)]
      case measure => simp [intOf]; omega
    · have he : k = l.length := by omega
      go_wp2
      go_ret
      refine ⟨some ⟨w.heap.size, 0, none⟩, l.length, rfl, Nat.le_refl _, fun hn => ⟨w.heap.size, rfl, Nat.le_refl _, HRow.out.lt, ?_⟩, HBel.out⟩
      have hr := HRow.out
      unfold Row at hr ⊢
      rw [flat_length]
      obtain ⟨cs, h1, h2⟩ := hr
      exact ⟨cs, h1, fun i hi => by rw [h2 i (by omega)]; simp only []; rw [if_pos (by omega)]⟩
end Go.Proofs.Ytjfbbieacpnpkaa
