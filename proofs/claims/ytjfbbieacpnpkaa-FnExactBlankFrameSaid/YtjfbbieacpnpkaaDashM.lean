/-
  Plain lists, no program in sight: a dash pattern's parts, which places are drawn, the runs of drawn places.
-/
import Derived.Test.YtjfbbieacpnpkaaSlice
namespace Go.Proofs.Ytjfbbieacpnpkaa
set_option linter.unusedVariables false

/-- Part k of a pattern that is repeated again and again; where part k begins. -/
def seg (zs : List Int) (k : Nat) : Int := nth zs (k % zs.length)
def pre (zs : List Int) : Nat → Int
  | 0 => 0
  | k + 1 => pre zs k + seg zs k
def Pat (zs : List Int) : Prop := 0 < zs.length ∧ zs.length ≤ 4 ∧ ∀ i, i < zs.length → 1 ≤ nth zs i ∧ nth zs i ≤ 50
section
variable {zs : List Int}
theorem Pat.seg (h : Pat zs) (k : Nat) : 1 ≤ seg zs k ∧ seg zs k ≤ 50 := h.2.2 _ (Nat.mod_lt _ h.1)
theorem Pat.step (h : Pat zs) (k : Nat) : pre zs k + 1 ≤ pre zs (k + 1) ∧ pre zs (k + 1) ≤ pre zs k + 50 := by
  have := h.seg k; simp only [pre]; omega
theorem Pat.mono (h : Pat zs) {i j : Nat} (hij : i ≤ j) : pre zs i + ((j - i : Nat) : Int) ≤ pre zs j := by
  obtain ⟨d, rfl⟩ := Nat.exists_eq_add_of_le hij
  induction d with
  | zero => simp
  | succ d ih =>
    have := ih (by omega)
    have := h.step (i + d)
    rw [show i + (d + 1) = i + d + 1 by omega]; omega
theorem Pat.bd (h : Pat zs) (k : Nat) : (k : Int) ≤ pre zs k ∧ pre zs k ≤ 50 * (k : Int) := by
  induction k with
  | zero => simp [pre]
  | succ k ih => have := h.step k; omega
def partN (zs : List Int) : Nat → Nat
  | 0 => 0
  | a + 1 => if pre zs (partN zs a + 1) ≤ ((a + 1 : Nat) : Int) then partN zs a + 1 else partN zs a
theorem part_spec (h : Pat zs) (a : Nat) : pre zs (partN zs a) ≤ (a : Int) ∧ (a : Int) < pre zs (partN zs a + 1) := by
  induction a with
  | zero => have := h.step 0; simp only [partN, pre] at *; omega
  | succ a ih =>
    have h1 := h.step (partN zs a)
    have h2 := h.step (partN zs a + 1)
    simp only [partN]
    split
    · constructor <;> omega
    · constructor <;> omega
theorem part_unique (h : Pat zs) {a k : Nat} (h1 : pre zs k ≤ (a : Int)) (h2 : (a : Int) < pre zs (k + 1)) : partN zs a = k := by
  have hs := part_spec h a
  rcases Nat.lt_trichotomy (partN zs a) k with hlt | heq | hgt
  · have := h.mono (show partN zs a + 1 ≤ k from hlt); omega
  · exact heq
  · have := h.mono (show k + 1 ≤ partN zs a from hgt); omega
theorem pre_len (zs : List Int) (k : Nat) : pre zs (k + zs.length) = pre zs k + pre zs zs.length := by
  induction k with
  | zero => simp [pre]
  | succ k ih =>
    rw [show k + 1 + zs.length = (k + zs.length) + 1 by omega]
    simp only [pre, ih, seg, Nat.add_mod_right]; omega
theorem pre_rep (zs : List Int) (q k : Nat) : pre zs (k + zs.length * q) = pre zs k + pre zs zs.length * (q : Int) := by
  induction q with
  | zero => simp
  | succ q ih =>
    rw [Nat.mul_succ, ← Nat.add_assoc, pre_len, ih, show ((q + 1 : Nat) : Int) = (q : Int) + 1 by omega, Int.mul_add]; omega
theorem part_shift (h : Pat zs) {a b q : Nat} (e : (b : Int) = (a : Int) + pre zs zs.length * (q : Int)) : partN zs b = partN zs a + zs.length * q := by
  have hs := part_spec h a
  refine part_unique h ?_ ?_
  · rw [pre_rep]; omega
  · rw [show partN zs a + zs.length * q + 1 = partN zs a + 1 + zs.length * q by omega, pre_rep]; omega
/-- Is place a drawn? -/
def drB (zs : List Int) (a : Int) : Bool := partN zs a.toNat % 2 == 0
theorem drB_of (h : Pat zs) {a : Int} {k : Nat} (h0 : 0 ≤ a) (h1 : pre zs k ≤ a) (h2 : a < pre zs (k + 1)) : drB zs a = (k % 2 == 0) := by
  unfold drB; rw [part_unique h (a := a.toNat) (k := k) (by omega) (by omega)]
theorem drB_shift (h : Pat zs) {a b : Int} {q : Nat} (h0 : 0 ≤ a) (e : b = a + pre zs zs.length * (q : Int)) : drB zs b = ((partN zs a.toNat + zs.length * q) % 2 == 0) := by
  have hb := h.bd zs.length
  have hp : 0 ≤ pre zs zs.length * (q : Int) := Int.mul_nonneg (by omega) (by omega)
  unfold drB; rw [part_shift h (a := a.toNat) (b := b.toNat) (q := q) (by omega)]
theorem drB_spec (h : Pat zs) {a : Int} {i : Nat} (h0 : 0 ≤ a) (h1 : pre zs i ≤ a % (2 * pre zs zs.length)) (h2 : a % (2 * pre zs zs.length) < pre zs (i + 1)) : drB zs a = (i % 2 == 0) := by
  have hb := h.bd zs.length
  have hl := h.1
  have hd : 0 ≤ a / (2 * pre zs zs.length) := Int.ediv_nonneg h0 (by omega)
  obtain ⟨q, hq⟩ := Int.eq_ofNat_of_zero_le hd
  have he := Int.mul_ediv_add_emod a (2 * pre zs zs.length)
  rw [hq] at he
  have e2 : pre zs zs.length * ((2 * q : Nat) : Int) = 2 * pre zs zs.length * (q : Int) := by
    rw [show ((2 * q : Nat) : Int) = 2 * (q : Int) by omega, ← Int.mul_assoc, Int.mul_comm (pre zs zs.length) 2]
  have r1 := pre_rep zs (2 * q) i
  have r2 := pre_rep zs (2 * q) (i + 1)
  rw [e2] at r1 r2
  have hm : zs.length * (2 * q) = 2 * (zs.length * q) := Nat.mul_left_comm _ _ _
  rw [drB_of h (k := i + zs.length * (2 * q)) h0 (by omega) (by rw [show i + zs.length * (2 * q) + 1 = i + 1 + zs.length * (2 * q) by omega]; omega)]
  rw [hm, show (i + 2 * (zs.length * q)) % 2 = i % 2 by omega]
theorem drB_period (h : Pat zs) {a : Int} (h0 : 0 ≤ a) : drB zs (a + 2 * pre zs zs.length) = drB zs a := by
  rw [drB_shift h (q := 2) h0 (by simp; omega)]
  unfold drB
  rw [show (partN zs a.toNat + zs.length * 2) % 2 = partN zs a.toNat % 2 by omega]
theorem drB_half (h : Pat zs) {a : Int} (h0 : 0 ≤ a) : (drB zs (a + pre zs zs.length) = drB zs a) ↔ zs.length % 2 = 0 := by
  rw [drB_shift h (q := 1) h0 (by simp)]
  unfold drB
  rw [Nat.mul_one, Bool.eq_iff_iff]
  simp only [beq_iff_eq]
  omega
theorem drB_first (h : Pat zs) {a : Int} (h0 : 0 ≤ a) (h1 : a < nth zs 0) : drB zs a = true := by
  have e : pre zs 1 = nth zs 0 := by simp [pre, seg]
  rw [drB_of h (k := 0) h0 (by simpa [pre] using h0) (by simpa [e] using h1)]; rfl
theorem drB_second (h : Pat zs) : drB zs (nth zs 0) = false := by
  have e : pre zs 1 = nth zs 0 := by simp [pre, seg]
  have h0 := (h.2.2 0 h.1).1
  have h2 := h.step 1
  simp only [Nat.reduceAdd] at h2
  rw [drB_of h (k := 1) (by omega) (by omega) (by simp only [Nat.reduceAdd]; omega)]; rfl
end

/-- How many of the first n places are drawn. -/
def cnt (f : Nat → Bool) : Nat → Int
  | 0 => 0
  | n + 1 => cnt f n + (if f n = true then 1 else 0)
theorem cnt_bd (f : Nat → Bool) (n : Nat) : 0 ≤ cnt f n ∧ cnt f n ≤ (n : Int) := by
  induction n with
  | zero => simp [cnt]
  | succ n ih => simp only [cnt]; split <;> omega
theorem cnt_split (f : Nat → Bool) (m n : Nat) : cnt f (m + n) = cnt f m + cnt (fun i => f (m + i)) n := by
  induction n with
  | zero => simp [cnt]
  | succ n ih => rw [← Nat.add_assoc]; simp only [cnt, ih]; omega
/-- The runs that are closed before place n, and where an open one begins (-1: there is none). -/
def sp (f : Nat → Bool) : Nat → List (Int × Int) × Int
  | 0 => ([], -1)
  | n + 1 => if f n = true then (if (sp f n).2 < 0 then ((sp f n).1, (n : Int)) else sp f n) else (if (sp f n).2 < 0 then sp f n else ((sp f n).1 ++ [((sp f n).2, (n : Int))], -1))
def runs (f : Nat → Bool) (n : Nat) : List (Int × Int) := if (sp f n).2 < 0 then (sp f n).1 else (sp f n).1 ++ [((sp f n).2, (n : Int))]
def tot (l : List (Int × Int)) : Int := (l.map fun s => s.2 - s.1).sum
theorem tot_append (l : List (Int × Int)) (s : Int × Int) : tot (l ++ [s]) = tot l + (s.2 - s.1) := by simp [tot]
structure SpOK (f : Nat → Bool) (n : Nat) (l : List (Int × Int)) (o : Int) : Prop where
  o1 : o = -1 ∨ (0 ≤ o ∧ o < (n : Int))
  bd : ∀ s ∈ l, 0 ≤ s.1 ∧ s.1 < s.2 ∧ s.2 < (n : Int)
  ap : l.Pairwise fun s t => s.2 < t.1
  op : 0 ≤ o → ∀ s ∈ l, s.2 < o
  cov : ∀ a : Nat, a < n → (f a = true ↔ ((∃ s ∈ l, s.1 ≤ (a : Int) ∧ (a : Int) < s.2) ∨ (0 ≤ o ∧ o ≤ (a : Int))))
  sum : tot l + (if o < 0 then 0 else (n : Int) - o) = cnt f n
theorem sp_ok (f : Nat → Bool) (n : Nat) : SpOK f n (sp f n).1 (sp f n).2 := by
  induction n with
  | zero => exact ⟨.inl rfl, by simp [sp], by simp [sp], by simp [sp], fun a ha => absurd ha (by omega), by simp [sp, cnt, tot]⟩
  | succ n ih =>
    obtain ⟨o1, bd, ap, op, cov, sum⟩ := ih
    simp only [sp]
    cases hf : f n
    · simp only [Bool.false_eq_true, if_false]
      by_cases ho : (sp f n).2 < 0
      · simp only [if_pos ho] at sum ⊢
        refine ⟨by omega, fun s hs => by have := bd s hs; omega, ap, op, fun a ha => ?_, ?_⟩
        · by_cases e : a = n
          · subst e
            rw [hf]
            simp only [Bool.false_eq_true, false_iff]
            rintro (⟨s, hs, h1, h2⟩ | ⟨h1, h2⟩)
            · have := bd s hs; omega
            · omega
          · exact cov a (by omega)
        · simp only [cnt, hf, Bool.false_eq_true, if_false, if_pos ho]; omega
      · simp only [if_neg ho] at sum ⊢
        refine ⟨.inl rfl, fun s hs => ?_, ?_, fun h => absurd h (by omega), fun a ha => ?_, ?_⟩
        · rw [List.mem_append] at hs
          rcases hs with hs | hs
          · have := bd s hs; omega
          · simp only [List.mem_singleton] at hs; subst hs; simp only []; omega
        · rw [List.pairwise_append]
          refine ⟨ap, by simp, fun s hs t ht => ?_⟩
          simp only [List.mem_singleton] at ht; subst ht
          exact op (by omega) s hs
        · have c := cov a
          simp only [List.mem_append, List.mem_singleton]
          by_cases e : a = n
          · subst e
            rw [hf]
            simp only [Bool.false_eq_true, false_iff]
            rintro (⟨s, hs | hs, h1, h2⟩ | ⟨h1, h2⟩)
            · have := bd s hs; omega
            · subst hs; simp only [] at h1 h2; omega
            · omega
          · rw [c (by omega)]
            constructor
            · rintro (⟨s, hs, h1, h2⟩ | ⟨h1, h2⟩)
              · exact .inl ⟨s, .inl hs, h1, h2⟩
              · exact .inl ⟨_, .inr rfl, h2, by simp only []; omega⟩
            · rintro (⟨s, hs | hs, h1, h2⟩ | ⟨h1, h2⟩)
              · exact .inl ⟨s, hs, h1, h2⟩
              · subst hs; exact .inr ⟨by omega, h1⟩
              · omega
        · simp only [cnt, hf, Bool.false_eq_true, if_false, tot_append]; simp; omega
    · simp only [if_true]
      by_cases ho : (sp f n).2 < 0
      · simp only [if_pos ho] at sum ⊢
        refine ⟨.inr ⟨by omega, by omega⟩, fun s hs => by have := bd s hs; omega, ap, fun _ s hs => (bd s hs).2.2, fun a ha => ?_, ?_⟩
        · have c := cov a
          by_cases e : a = n
          · subst e; rw [hf]; simp
          · rw [c (by omega)]
            constructor
            · rintro (h | h)
              · exact .inl h
              · omega
            · rintro (h | h)
              · exact .inl h
              · omega
        · simp only [cnt, hf, if_true]; rw [if_neg (by omega)]; omega
      · simp only [if_neg ho] at sum ⊢
        refine ⟨.inr ⟨by omega, by omega⟩, fun s hs => by have := bd s hs; omega, ap, op, fun a ha => ?_, ?_⟩
        · by_cases e : a = n
          · subst e; rw [hf]; simp only [true_iff]; exact .inr ⟨by omega, by omega⟩
          · exact cov a (by omega)
        · simp only [cnt, hf, if_true]; rw [if_neg (by omega)]; omega
structure RunsOK (f : Nat → Bool) (n : Nat) (l : List (Int × Int)) : Prop where
  bd : ∀ s ∈ l, 0 ≤ s.1 ∧ s.1 < s.2 ∧ s.2 ≤ (n : Int)
  ap : l.Pairwise fun s t => s.2 < t.1
  cov : ∀ a : Nat, a < n → (f a = true ↔ ∃ s ∈ l, s.1 ≤ (a : Int) ∧ (a : Int) < s.2)
  sum : tot l = cnt f n
theorem runs_ok (f : Nat → Bool) (n : Nat) : RunsOK f n (runs f n) := by
  obtain ⟨o1, bd, ap, op, cov, sum⟩ := sp_ok f n
  unfold runs
  by_cases ho : (sp f n).2 < 0
  · simp only [if_pos ho] at sum ⊢
    refine ⟨fun s hs => by have := bd s hs; omega, ap, fun a ha => ?_, by omega⟩
    rw [cov a ha]
    constructor
    · rintro (h | h)
      · exact h
      · omega
    · exact .inl
  · simp only [if_neg ho] at sum ⊢
    refine ⟨fun s hs => ?_, ?_, fun a ha => ?_, by rw [tot_append]; exact sum⟩
    · rw [List.mem_append] at hs
      rcases hs with hs | hs
      · have := bd s hs; omega
      · simp only [List.mem_singleton] at hs; subst hs; simp only []; omega
    · rw [List.pairwise_append]
      refine ⟨ap, by simp, fun s hs t ht => ?_⟩
      simp only [List.mem_singleton] at ht; subst ht
      exact op (by omega) s hs
    · rw [cov a ha]
      simp only [List.mem_append, List.mem_singleton]
      constructor
      · rintro (⟨s, hs, h1, h2⟩ | ⟨h1, h2⟩)
        · exact ⟨s, .inl hs, h1, h2⟩
        · exact ⟨_, .inr rfl, h2, by simp only []; omega⟩
      · rintro ⟨s, hs | hs, h1, h2⟩
        · exact .inl ⟨s, hs, h1, h2⟩
        · subst hs; exact .inr ⟨by omega, h1⟩
/-- The program's way: one place more. -/
theorem runs_no {f : Nat → Bool} {n : Nat} (h : f n = false) : runs f (n + 1) = runs f n := by
  unfold runs; simp only [sp, h, Bool.false_eq_true, if_false]
  by_cases ho : (sp f n).2 < 0
  · simp only [if_pos ho]
  · simp only [if_neg ho]; simp
theorem runs_new {f : Nat → Bool} {n : Nat} (h : f n = true) (ho : (sp f n).2 < 0) : runs f (n + 1) = runs f n ++ [((n : Int), (n : Int) + 1)] := by
  unfold runs; simp only [sp, h, if_true, if_pos ho]; rw [if_neg (by omega)]; simp
theorem runs_more {f : Nat → Bool} {n : Nat} (h : f n = true) (ho : ¬ (sp f n).2 < 0) : runs f n = (sp f n).1 ++ [((sp f n).2, (n : Int))] ∧ runs f (n + 1) = (sp f n).1 ++ [((sp f n).2, (n : Int) + 1)] := by
  unfold runs; simp only [sp, h, if_true, if_neg ho]; simp
/-- A list of pairs laid flat. -/
def flat (l : List (Int × Int)) : List Int := l.flatMap fun s => [s.1, s.2]
theorem flat_length (l : List (Int × Int)) : (flat l).length = 2 * l.length := by
  induction l with
  | nil => rfl
  | cons s l ih => simp only [flat, List.flatMap_cons, List.length_append, List.length_cons] at *; simp at *; omega
theorem flat_append (l m : List (Int × Int)) : flat (l ++ m) = flat l ++ flat m := by simp [flat]
def pth (l : List (Int × Int)) (i : Nat) : Int × Int := l.getD i (0, 0)
theorem pth_mem {l : List (Int × Int)} {i : Nat} (h : i < l.length) : pth l i ∈ l := by
  unfold pth; rw [List.getD_eq_getElem?_getD, List.getElem?_eq_getElem h]; exact List.getElem_mem h
theorem nth_flat (l : List (Int × Int)) (i : Nat) : nth (flat l) (2 * i) = (pth l i).1 ∧ nth (flat l) (2 * i + 1) = (pth l i).2 := by
  induction l generalizing i with
  | nil => simp [flat, nth, pth]
  | cons s l ih =>
    have e : flat (s :: l) = s.1 :: s.2 :: flat l := rfl
    rw [e]
    cases i with
    | zero => exact ⟨rfl, rfl⟩
    | succ i =>
      rw [show 2 * (i + 1) = 2 * i + 1 + 1 by omega, nth_cons_succ, nth_cons_succ, nth_cons_succ, nth_cons_succ]
      exact ih i
theorem pairwise_pth {l : List (Int × Int)} (h : l.Pairwise fun s t => s.2 < t.1) {i j : Nat} (hij : i < j) (hj : j < l.length) : (pth l i).2 < (pth l j).1 := by
  have := List.pairwise_iff_getElem.1 h i j (by omega) hj hij
  unfold pth; rw [List.getD_eq_getElem?_getD, List.getD_eq_getElem?_getD, List.getElem?_eq_getElem hj, List.getElem?_eq_getElem (show i < l.length by omega)]; exact this
end Go.Proofs.Ytjfbbieacpnpkaa
