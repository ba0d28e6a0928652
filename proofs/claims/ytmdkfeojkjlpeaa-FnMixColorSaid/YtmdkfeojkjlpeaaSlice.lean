/-
  Slices of ints as lists: what a slice value reads as; the contract of 'allIn'. (Conditions: each theorem's own.)
-/
import Derived.Test.YtmdkfeojkjlpeaaNum
import Derived.Handy
namespace Go.Proofs.Ytmdkfeojkjlpeaa
open Go.RowKit
set_option linter.unusedSimpArgs false
set_option linter.unusedVariables false

/-- Element i of a list of ints; 0 beyond its end. -/
def nth (zs : List Int) (i : Nat) : Int := zs.getD i 0
theorem nth_cons_zero (x : Int) (zs : List Int) : nth (x :: zs) 0 = x := rfl
theorem nth_cons_succ (x : Int) (zs : List Int) (i : Nat) : nth (x :: zs) (i + 1) = nth zs i := rfl
theorem nth_mem {zs : List Int} {i : Nat} (h : i < zs.length) : nth zs i ∈ zs := by
  unfold nth; rw [List.getD_eq_getElem?_getD, List.getElem?_eq_getElem h]; exact List.getElem_mem h
theorem nth_getElem {zs : List Int} {i : Nat} (h : i < zs.length) : nth zs i = zs[i] := by
  unfold nth; rw [List.getD_eq_getElem?_getD, List.getElem?_eq_getElem h]; rfl
theorem nth_append_left {xs ys : List Int} {i : Nat} (h : i < xs.length) : nth (xs ++ ys) i = nth xs i := by
  unfold nth; simp only [List.getD_eq_getElem?_getD]; rw [List.getElem?_append_left h]
theorem nth_append_right {xs ys : List Int} {i : Nat} (h : xs.length ≤ i) : nth (xs ++ ys) i = nth ys (i - xs.length) := by
  unfold nth; simp only [List.getD_eq_getElem?_getD]; rw [List.getElem?_append_right h]
theorem nth_take {zs : List Int} {n i : Nat} (h : i < n) : nth (zs.take n) i = nth zs i := by
  unfold nth; simp only [List.getD_eq_getElem?_getD]; rw [List.getElem?_take_of_lt h]
theorem take_snoc {zs : List Int} {k : Nat} (h : k < zs.length) : zs.take (k + 1) = zs.take k ++ [nth zs k] := by
  rw [List.take_succ_eq_append_getElem h, nth_getElem h]
theorem nth_ext {xs ys : List Int} (hl : xs.length = ys.length) (h : ∀ i, i < xs.length → nth xs i = nth ys i) : xs = ys := by
  apply List.ext_getElem hl
  intro i h1 h2
  have := h i h1
  rwa [nth_getElem h1, nth_getElem h2] at this

/-- The slice value at address A, of zs.length elements, reads as zs. -/
def Ints (w : World) (A : Option Addr) (zs : List Int) : Prop :=
  0 < zs.length → ∃ b off, A = some ⟨b, off, none⟩ ∧ b < w.heap.size ∧ ∀ i, i < zs.length → w.cell? ⟨b, off + i, none⟩ = some (.int .i64 (nth zs i))
theorem Ints.nil (w : World) (A : Option Addr) : Ints w A [] := fun h => absurd h (by simp)
theorem Ints.keep {w w' : World} {A : Option Addr} {zs : List Int} (h : Ints w A zs) (hs : w.heap.size ≤ w'.heap.size) (hk : ∀ b o, b < w.heap.size → w'.cell? ⟨b, o, none⟩ = w.cell? ⟨b, o, none⟩) : Ints w' A zs := fun hn => by
  obtain ⟨b, off, e, hb, hc⟩ := h hn
  exact ⟨b, off, e, by omega, fun i hi => (hk b _ hb).trans (hc i hi)⟩
theorem Ints.below {w w' : World} {A : Option Addr} {zs : List Int} (h : Ints w A zs) (hb : Below w.heap.size w w') : Ints w' A zs :=
  h.keep hb.size fun b o hlt => hb.cell (p := ⟨b, o, none⟩) hlt
/-- A slice literal: a new block of ints. -/
theorem Ints.lit (zs : List Int) (w : World) (c : Array Value) (t : TypeId) (n : Nat) (hn : n = w.heap.size) (hc : c = (zs.map (Value.int .i64)).toArray) : Ints (w.alloc (.cells c t)) (some ⟨n, 0, none⟩) zs := by
  intro _
  refine ⟨n, 0, rfl, by rw [hn]; simp, fun i hi => ?_⟩
  rw [World.cell?_alloc_at (w := w) c t n (0 + i) hn, hc]
  simp [nth_getElem hi, hi]
theorem cell_keepA {w : World} {a : Addr} {v : Value} (h : w.cell? a = some v) (o : Obj) : (w.alloc o).cell? a = some v := (World.cell?_alloc_lt w o a (World.block_lt_of_cell? w a h)).trans h
theorem cell_keepD {w : World} {a : Addr} {v : Value} (h : w.cell? a = some v) : w.drew.cell? a = some v := h
theorem cell_keepS {w : World} {a p : Addr} {v : Value} (h : w.cell? a = some v) (u : Value) (hne : p.block ≠ a.block) : (w.setCell p u).cell? a = some v := (World.cell?_setCell_other w p a u (fun e => hne (by rw [e]))).trans h
theorem below_drewN {B : Nat} {a w : World} (h : Below B a w) (n : Nat) : Below B a (w.drewN n) := ⟨h.os, h.tape, h.output, h.size, h.block⟩
theorem below_then {w W w1 : World} (h : Below w.heap.size w W) (hb : Below W.heap.size W w1) : Below w.heap.size w w1 := h.trans (hb.mono h.size)
theorem bcell {W w1 : World} (hb : Below W.heap.size W w1) : (∀ b o, b < W.heap.size → w1.cell? ⟨b, o, none⟩ = W.cell? ⟨b, o, none⟩) ∧ (∀ b o, b < W.heap.size → w1.frozen? ⟨b, o, none⟩ = W.frozen? ⟨b, o, none⟩) :=
  ⟨fun b o h => hb.cell (p := ⟨b, o, none⟩) h, fun b o h => hb.frozen (p := ⟨b, o, none⟩) h⟩

/-- An argument's row, as a list. -/
theorem IsRow.ints {w : World} {a : Option Addr} {len cap : Nat} {z : List Int} (h : IsRow .i64 w a len cap z) : Ints w a (z.take len) ∧ (z.take len).length = len ∧ len ≤ cap ∧ cap ≤ maxLen ∧ ∀ n ∈ z.take len, (Lit.int .i64 n).wf = true := by
  rcases h with ⟨rfl, rfl, rfl, rfl⟩ | ⟨x, rfl, hl, hm, hz, hc, hw⟩
  · exact ⟨Ints.nil _ _, rfl, by omega, by unfold maxLen; omega, by simp⟩
  · have e : (z.take len).length = len := by rw [List.length_take]; omega
    refine ⟨fun hn => ?_, e, hl, hm, fun n hn => hw n (List.mem_of_mem_take hn)⟩
    rw [e] at hn
    obtain ⟨b, off, spot⟩ := x
    have h0 := hc 0 (by omega)
    have hspot : spot = none := by simpa [Addr.add] using World.cell?_spot h0
    subst hspot
    refine ⟨b, off, rfl, World.block_lt_of_cell? w ⟨b, off, none⟩ (by simpa [Addr.add] using h0), fun i hi => ?_⟩
    rw [e] at hi
    have hi' := hc i (by omega)
    rw [nth_take hi]
    unfold nth
    rw [← hi']
    by_cases h0 : i = 0
    · subst h0; simp [Addr.add]
    · simp [Addr.add, h0]

def allInB (zs : List Int) (lo hi : Int) : Bool := zs.all fun n => inB n lo hi
theorem allInB_true {zs : List Int} {lo hi : Int} : allInB zs lo hi = true ↔ ∀ i, i < zs.length → inB (nth zs i) lo hi = true := by
  unfold allInB
  rw [List.all_eq_true]
  constructor
  · exact fun h i hi => h _ (nth_mem hi)
  · intro h x hx
    obtain ⟨i, hi, rfl⟩ := List.getElem_of_mem hx
    rw [← nth_getElem hi]; exact h i hi
theorem allInB_false {zs : List Int} {lo hi : Int} {k : Nat} (hk : k < zs.length) (h : inB (nth zs k) lo hi = false) : allInB zs lo hi = false := by
  cases e : allInB zs lo hi
  · rfl
  · have := allInB_true.1 e k hk; rw [h] at this; cases this
theorem ret_v {v v' : Value} (h : v = v') : Ending.returned v = .returned v' := by rw [h]
theorem ret_b {x y : Bool} (h : x = y) : Ending.returned (.bool x) = .returned (.bool y) := by rw [h]
theorem ret_iff {x y : Bool} (h : x = true ↔ y = true) : Ending.returned (.bool x) = .returned (.bool y) := by
  cases x <;> cases y <;> simp_all

theorem allIn_c (zs : List Int) (lo hi : Int) (A : Option Addr) (n cap : Nat) (w : World) (h : Ints w A zs) (hn : zs.length = n) (hm : zs.length ≤ 4611686018427387904) :
    Calls Try.prog 42 #[.slice A n cap, .int .i64 lo, .int .i64 hi] w fun e w' => e = .returned (.bool (allInB zs lo hi)) ∧ w = w' := by
  subst hn
  have hm1 : (zs.length : Int) ≤ 4611686018427387904 := by omega
  go_enter Try.func42, Try.ntmps42
  go_wp2
  go_loop [7] (fun i => ∃ k : Nat, k ≤ zs.length ∧ i = .int .i64 k ∧ ∀ j, j < k → inB (nth zs j) lo hi = true) (fun i => zs.length - (intOf i).toNat)
  case atStart => exact ⟨0, Nat.zero_le _, rfl, fun j hj => absurd hj (by omega)⟩
  case round =>
    obtain ⟨k, hk, rfl, hall0⟩ := hrel
    have hall := Lib.hid hall0
    clear hall0
    by_cases hlt : k < zs.length
    · obtain ⟨b, off, rfl, hb, hc⟩ := h (by omega)
      have hck := hc k hlt
      have HC := Lib.hid hc
      clear hc
      cases hin : inB (nth zs k) lo hi
      · go_wp2_with (go_at_call 30; refine (inRange_c _ _ _ _).mono ?_; rintro e w' ⟨rfl, rfl⟩)
        go_ret
        exact ⟨ret_b (allInB_false hlt hin).symm, rfl⟩
      · go_wp2_with (go_at_call 30; refine (inRange_c _ _ _ _).mono ?_; rintro e w' ⟨rfl, rfl⟩)
        go_round
        case rel =>
          refine ⟨k + 1, by omega, by go_num, fun j hj => ?_⟩
          by_cases hjk : j = k
          · subst hjk; exact hin
          · exact hall.out j (by omega)
        case measure => simp [intOf]; omega
    · have he : k = zs.length := by omega
      go_wp2
      go_ret
      exact ⟨ret_b (allInB_true.2 (by subst he; exact hall.out)).symm, rfl⟩
end Go.Proofs.Ytmdkfeojkjlpeaa
