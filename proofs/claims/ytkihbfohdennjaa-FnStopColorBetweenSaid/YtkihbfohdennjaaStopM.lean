/-
  Plain lists, no program in sight: which stops are valid, which color they have at a place.
-/
import Derived.Test.YtkihbfohdennjaaColorL
namespace Go.Proofs.Ytkihbfohdennjaa
open Go.RowKit
set_option linter.unusedSimpArgs false
set_option linter.unusedVariables false

/-- Stops laid flat: five numbers each. -/
def sAt (zs : List Int) (k : Nat) : Int := nth zs (k * 5)
def sR (zs : List Int) (k : Nat) : Int := nth zs (k * 5 + 1)
def sG (zs : List Int) (k : Nat) : Int := nth zs (k * 5 + 2)
def sB (zs : List Int) (k : Nat) : Int := nth zs (k * 5 + 3)
def sA (zs : List Int) (k : Nat) : Int := nth zs (k * 5 + 4)
def colAt (zs : List Int) (k : Nat) : Bool := colB (sR zs k) (sG zs k) (sB zs k) (sA zs k)
def prevAt (zs : List Int) : Nat → Int
  | 0 => -1
  | k + 1 => sAt zs k
def stopB (zs : List Int) (k : Nat) : Bool := inB (sAt zs k) (prevAt zs k + 1) 256 && colAt zs k
def allS (zs : List Int) : Nat → Bool
  | 0 => true
  | k + 1 => allS zs k && stopB zs k
/-- Are these n stops? -/
def stopsB (zs : List Int) (n : Nat) : Bool := allS zs n && inB (n : Int) 1 4
section
variable {zs : List Int} {n : Nat}
theorem allS_no {k m : Nat} (hk : k < m) (h : stopB zs k = false) : allS zs m = false := by
  induction m with
  | zero => omega
  | succ m ih =>
    simp only [allS]
    by_cases e : k = m
    · subst e; rw [h, Bool.and_false]
    · rw [ih (by omega), Bool.false_and]
theorem allS_lt {k m : Nat} (h : allS zs m = true) (hk : k < m) : stopB zs k = true := by
  cases e : stopB zs k
  · rw [allS_no hk e] at h; cases h
  · rfl
theorem allS_le {k m : Nat} (h : allS zs m = true) (hk : k ≤ m) : allS zs k = true := by
  induction m with
  | zero => (have e : k = 0 := by omega); rw [e]; exact h
  | succ m ih =>
    by_cases e : k = m + 1
    · subst e; exact h
    · simp only [allS, Bool.and_eq_true] at h
      exact ih h.1 (by omega)
theorem prev_bd {k : Nat} (h : allS zs k = true) : -1 ≤ prevAt zs k ∧ prevAt zs k ≤ 256 := by
  induction k with
  | zero => simp [prevAt]
  | succ k ih =>
    simp only [allS, Bool.and_eq_true] at h
    have := ih h.1
    have h2 := h.2
    simp only [stopB, Bool.and_eq_true, inB_true] at h2
    simp only [prevAt]; omega
/-- The reference's words for a stop. -/
theorem stop_spec {k : Nat} (h : allS zs k = true) : stopB zs k = (inB (sAt zs k) 0 256 && colAt zs k && !(decide (0 < k) && decide (sAt zs k ≤ prevAt zs k))) := by
  have hb := prev_bd h
  rw [Bool.eq_iff_iff]
  simp only [stopB, Bool.and_eq_true, inB_true, Bool.not_eq_true', Bool.and_eq_false_iff, decide_eq_false_iff_not]
  constructor
  · rintro ⟨h1, h2⟩
    exact ⟨⟨by omega, h2⟩, by omega⟩
  · rintro ⟨⟨h1, h2⟩, h3⟩
    refine ⟨?_, h2⟩
    cases k with
    | zero => simp only [prevAt] at *; omega
    | succ k => omega
structure StopsOK (zs : List Int) (n : Nat) : Prop where
  n1 : 1 ≤ n
  n4 : n ≤ 4
  bd : ∀ k, k < n → 0 ≤ sAt zs k ∧ sAt zs k ≤ 256
  up : ∀ k, k + 1 < n → sAt zs k < sAt zs (k + 1)
  col : ∀ k, k < n → colAt zs k = true
theorem stops_ok (h : stopsB zs n = true) : StopsOK zs n := by
  simp only [stopsB, Bool.and_eq_true, inB_true] at h
  obtain ⟨h1, h2⟩ := h
  refine ⟨by omega, by omega, fun k hk => ?_, fun k hk => ?_, fun k hk => ?_⟩
  · have h3 := allS_lt h1 hk
    have h4 := prev_bd (allS_le h1 (show k ≤ n by omega))
    simp only [stopB, Bool.and_eq_true, inB_true] at h3; omega
  · have h3 := allS_lt h1 hk
    simp only [stopB, Bool.and_eq_true, inB_true, prevAt] at h3; omega
  · have h3 := allS_lt h1 hk
    simp only [stopB, Bool.and_eq_true] at h3; exact h3.2
theorem StopsOK.lt (h : StopsOK zs n) {i j : Nat} (hij : i < j) (hj : j < n) : sAt zs i < sAt zs j := by
  obtain ⟨d, rfl⟩ := Nat.exists_eq_add_of_lt hij
  induction d with
  | zero => exact h.up i hj
  | succ d ih =>
    have := ih (by omega) (by omega)
    have := h.up (i + d + 1) (by omega)
    rw [show i + (d + 1) + 1 = i + d + 1 + 1 by omega]; omega
/-- p stops are ahead of t. -/
structure Place (zs : List Int) (n : Nat) (t : Int) (p : Nat) : Prop where
  le : p ≤ n
  bef : ∀ i, i < p → sAt zs i < t
  aft : p < n → t ≤ sAt zs p
theorem place_ex (zs : List Int) (n : Nat) (t : Int) : ∃ p, Place zs n t p := by
  induction n with
  | zero => exact ⟨0, Nat.le_refl _, fun i hi => absurd hi (by omega), fun h => absurd h (by omega)⟩
  | succ n ih =>
    obtain ⟨p, h1, h2, h3⟩ := ih
    by_cases hp : p < n
    · exact ⟨p, by omega, h2, fun _ => h3 hp⟩
    · obtain rfl : p = n := by omega
      by_cases ht : t ≤ sAt zs p
      · exact ⟨p, by omega, h2, fun _ => ht⟩
      · refine ⟨p + 1, by omega, fun i hi => ?_, fun h => absurd h (by omega)⟩
        by_cases e : i = p
        · subst e; omega
        · exact h2 i (by omega)
theorem place_at (h : StopsOK zs n) {i : Nat} (hi : i < n) : Place zs n (sAt zs i) i :=
  ⟨by omega, fun j hj => h.lt hj hi, fun _ => Int.le_refl _⟩
theorem place_low (h : StopsOK zs n) : Place zs n (-1) 0 := ⟨by omega, fun j hj => absurd hj (by omega), fun hn => by have := h.bd 0 hn; omega⟩
theorem place_high (h : StopsOK zs n) : Place zs n 257 n := ⟨by omega, fun j hj => by have := h.bd j hj; omega, fun hn => absurd hn (by omega)⟩
/-- A channel of the color at t: c k is that of stop k; p stops are ahead of t. -/
def vC (c : Nat → Int) (zs : List Int) (n p : Nat) (t : Int) : Int :=
  if p = 0 then c 0 else if p = n then c (n - 1) else mx (c (p - 1)) (c p) (256 * (t - sAt zs (p - 1)) / (sAt zs p - sAt zs (p - 1)))
theorem vC_zero (c : Nat → Int) (t : Int) : vC c zs n 0 t = c 0 := by simp [vC]
theorem vC_last (c : Nat → Int) (t : Int) (hn : 1 ≤ n) : vC c zs n n t = c (n - 1) := by
  unfold vC; rw [if_neg (by omega), if_pos rfl]
theorem vC_mid (c : Nat → Int) (t : Int) {i : Nat} (hi : i + 1 < n) : vC c zs n (i + 1) t = mx (c i) (c (i + 1)) (256 * (t - sAt zs i) / (sAt zs (i + 1) - sAt zs i)) := by
  unfold vC; rw [if_neg (by omega), if_neg (by omega), Nat.add_sub_cancel]
theorem vC_at (h : StopsOK zs n) (c : Nat → Int) {i : Nat} (hi : i < n) : vC c zs n i (sAt zs i) = c i := by
  cases i with
  | zero => exact vC_zero c _
  | succ i =>
    have := h.up i hi
    rw [vC_mid c _ hi, Int.mul_ediv_cancel _ (by omega), mx_full]
theorem mid_bd (h : StopsOK zs n) {i : Nat} {t : Int} (hi : i + 1 < n) (h1 : sAt zs i ≤ t) (h2 : t ≤ sAt zs (i + 1)) : 0 ≤ 256 * (t - sAt zs i) / (sAt zs (i + 1) - sAt zs i) ∧ 256 * (t - sAt zs i) / (sAt zs (i + 1) - sAt zs i) ≤ 256 := by
  have := h.up i hi
  constructor
  · exact Int.ediv_nonneg (by omega) (by omega)
  · have : 256 * (t - sAt zs i) / (sAt zs (i + 1) - sAt zs i) < 257 := by
      rw [Int.ediv_lt_iff_lt_mul (by omega)]; omega
    omega
/-- The program's way: between stop i and the next one. -/
theorem vC_prog (h : StopsOK zs n) (c : Nat → Int) {i p : Nat} {t : Int} (hp : Place zs n t p) (hi : i + 1 < n) (h0 : sAt zs 0 < t) (h1 : sAt zs i ≤ t) (h2 : t < sAt zs (i + 1)) :
    vC c zs n p t = mx (c i) (c (i + 1)) (256 * (t - sAt zs i) / (sAt zs (i + 1) - sAt zs i)) := by
  by_cases e : t = sAt zs i
  · have hpi : p = i := by
      rcases Nat.lt_trichotomy p i with hl | he | hg
      · have := hp.aft (by omega); have := h.lt hl (by omega); omega
      · exact he
      · have := hp.bef i hg; omega
    subst hpi
    rw [e, vC_at h c (by omega), Int.sub_self, Int.mul_zero, Int.zero_ediv, mx_zero]
  · have hpi : p = i + 1 := by
      rcases Nat.lt_trichotomy p (i + 1) with hl | he | hg
      · have h3 := hp.aft (by omega)
        by_cases hpe : p = i
        · subst hpe; omega
        · have := h.lt (show p < i by omega) (by omega); omega
      · exact he
      · have := hp.bef (i + 1) hg; omega
    subst hpi
    exact vC_mid c t hi
/-- The program's way: behind the last stop, or at it. -/
theorem vC_end (h : StopsOK zs n) (c : Nat → Int) {p : Nat} {t : Int} (hp : Place zs n t p) (h1 : sAt zs (n - 1) ≤ t) : vC c zs n p t = c (n - 1) := by
  have hn := h.n1
  by_cases e : t = sAt zs (n - 1)
  · have hpi : p = n - 1 := by
      rcases Nat.lt_trichotomy p (n - 1) with hl | he | hg
      · have := hp.aft (by omega); have := h.lt hl (by omega); omega
      · exact he
      · have := hp.bef (n - 1) hg; omega
    subst hpi
    rw [e]; exact vC_at h c (by omega)
  · have hpi : p = n := by
      have := hp.le
      rcases Nat.lt_trichotomy p n with hl | he | hg
      · have h3 := hp.aft hl
        by_cases hpe : p = n - 1
        · subst hpe; omega
        · have := h.lt (show p < n - 1 by omega) (by omega); omega
      · exact he
      · omega
    subst hpi
    exact vC_last c t hn
end
end Go.Proofs.Ytkihbfohdennjaa
