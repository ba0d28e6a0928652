/-
  Plain lists, no program in sight: which slots of a queue are used, when it is valid.
-/
import Derived.Test.YthfpplpklhclgaaSlice
namespace Go.Proofs.Ythfpplpklhclgaa
open Go.RowKit
set_option linter.unusedSimpArgs false
set_option linter.unusedVariables false

/-- Is slot i one of n slots from place a on, round a ring of 16? -/
def usedB (a : Int) (n : Nat) (i : Nat) : Bool := (List.range n).any fun k => (a.toNat + k) % 16 == i
theorem usedB_zero (a : Int) (i : Nat) : usedB a 0 i = false := rfl
theorem usedB_succ (a : Int) (n i : Nat) : usedB a (n + 1) i = (usedB a n i || ((a.toNat + n) % 16 == i)) := by
  unfold usedB; rw [List.range_succ, List.any_append]; simp
def slotB (u : Bool) (x : Int) : Bool := if u = true then inB x 0 99 else x == -1
def slotsB (a : Int) (n : Nat) (zs : List Int) : Nat → Bool
  | 0 => true
  | k + 1 => slotsB a n zs k && slotB (usedB a n k) (nth zs k)
theorem slotsB_no {a : Int} {n : Nat} {zs : List Int} {k m : Nat} (hk : k < m) (h : slotB (usedB a n k) (nth zs k) = false) : slotsB a n zs m = false := by
  induction m with
  | zero => omega
  | succ m ih =>
    simp only [slotsB]
    by_cases e : k = m
    · subst e; rw [h, Bool.and_false]
    · rw [ih (by omega), Bool.false_and]
def cntN (a b : Int) : Nat := (b - a).toNat
/-- Is this a queue? -/
def devB (zs : List Int) (a b : Int) : Bool := decide (zs.length = 16) && inB a 0 500 && inB b a (min 500 (a + 16)) && slotsB a (cntN a b) zs 16
def fillB (a : Int) (n : Nat) (zs : List Int) : Nat → Bool
  | 0 => true
  | k + 1 => fillB a n zs k && (usedB a n k == decide (0 ≤ nth zs k))
theorem fillB_no {a : Int} {n : Nat} {zs : List Int} {k m : Nat} (hk : k < m) (h : (usedB a n k == decide (0 ≤ nth zs k)) = false) : fillB a n zs m = false := by
  induction m with
  | zero => omega
  | succ m ih =>
    simp only [fillB]
    by_cases e : k = m
    · subst e; rw [h, Bool.and_false]
    · rw [ih (by omega), Bool.false_and]
theorem fill_slots {a : Int} {n : Nat} {zs : List Int} (h : ∀ i, i < zs.length → inB (nth zs i) (-1) 99 = true) : ∀ m, m ≤ zs.length → fillB a n zs m = slotsB a n zs m := by
  intro m
  induction m with
  | zero => intro _; rfl
  | succ m ih =>
    intro hm
    simp only [fillB, slotsB]
    rw [ih (by omega)]
    congr 1
    have h1 := inB_true.1 (h m (by omega))
    cases usedB a n m
    · simp only [slotB, Bool.false_eq_true, if_false]
      rw [Bool.eq_iff_iff, beq_iff_eq, beq_iff_eq]
      rw [eq_comm, decide_eq_false_iff_not]; omega
    · simp only [slotB, if_true]
      rw [Bool.eq_iff_iff, beq_iff_eq, inB_true, eq_comm, decide_eq_true_eq]; omega
theorem slots_all {a : Int} {n : Nat} {zs : List Int} : ∀ m, slotsB a n zs m = true → ∀ i, i < m → inB (nth zs i) (-1) 99 = true := by
  intro m
  induction m with
  | zero => intro _ i hi; omega
  | succ m ih =>
    intro h i hi
    simp only [slotsB, Bool.and_eq_true] at h
    by_cases e : i = m
    · subst e
      have h2 := h.2
      unfold slotB at h2
      split at h2
      · have := inB_true.1 h2; exact inB_mk (by omega) (by omega)
      · rw [beq_iff_eq] at h2; exact inB_mk (by omega) (by omega)
    · exact ih h.1 i (by omega)
/-- The reference's words for the same. -/
theorem devB_spec (zs : List Int) (a b : Int) : devB zs a b = (decide (zs.length = 16) && allInB zs (-1) 99 && inB a 0 500 && inB b a (a + 16) && decide (b ≤ 500) && fillB a (cntN a b) zs 16) := by
  unfold devB
  by_cases hl : zs.length = 16
  · simp only [hl, decide_true, Bool.true_and]
    rw [Bool.eq_iff_iff]
    simp only [Bool.and_eq_true, inB_true, allInB_true, decide_eq_true_eq]
    constructor
    · rintro ⟨⟨h1, h2⟩, h3⟩
      have ha := slots_all 16 h3
      rw [← hl] at ha
      refine ⟨⟨⟨⟨fun i hi => ?_, h1⟩, by omega, by omega⟩, by omega⟩, ?_⟩
      · exact inB_true.1 (ha i hi)
      · rw [fill_slots ha 16 (by omega)]; exact h3
    · rintro ⟨⟨⟨⟨h0, h1⟩, h2⟩, h3⟩, h4⟩
      refine ⟨⟨h1, by omega, by omega⟩, ?_⟩
      rw [← fill_slots (fun i hi => inB_true.2 (h0 i hi)) 16 (by omega)]; exact h4
  · simp [hl]
theorem devB_true {zs : List Int} {a b : Int} (h : devB zs a b = true) : zs.length = 16 ∧ 0 ≤ a ∧ a ≤ 500 ∧ a ≤ b ∧ b ≤ 500 ∧ b ≤ a + 16 := by
  simp only [devB, Bool.and_eq_true, inB_true, decide_eq_true_eq] at h
  omega
/-- Slots with another number at place n. -/
def setZ (zs : List Int) (n : Int) (x : Int) : List Int := zs.set (n % 16).toNat x
theorem setZ_length (zs : List Int) (n x : Int) : (setZ zs n x).length = zs.length := by simp [setZ]
theorem nth_setZ {zs : List Int} {n x : Int} {i : Nat} (hi : i < zs.length) : nth (setZ zs n x) i = if i = (n % 16).toNat then x else nth zs i := by
  rw [nth_getElem (by rw [setZ_length]; exact hi)]
  unfold setZ
  rw [List.getElem_set]
  by_cases e : (n % 16).toNat = i
  · rw [if_pos e, if_pos e.symm]
  · rw [if_neg e, if_neg (fun k => e k.symm), nth_getElem hi]
/-- The tiles of a queue, in order. -/
def ringZ (zs : List Int) (a : Int) (n : Nat) : List Int := (List.range n).map fun k => nth zs ((a.toNat + k) % 16)
theorem ringZ_length (zs : List Int) (a : Int) (n : Nat) : (ringZ zs a n).length = n := by simp [ringZ]
theorem ringZ_succ (zs : List Int) (a : Int) (n : Nat) : ringZ zs a (n + 1) = ringZ zs a n ++ [nth zs ((a.toNat + n) % 16)] := by
  unfold ringZ; rw [List.range_succ, List.map_append]; rfl
end Go.Proofs.Ythfpplpklhclgaa
