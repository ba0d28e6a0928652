/-
  How many samples of parts of a row lie in a column: by the program and by the reference.
-/
import Derived.Test.YtjfbbieacpnpkaaSpan
namespace Go.Proofs.Ytjfbbieacpnpkaa
open Go.RowKit
set_option linter.unusedSimpArgs false
set_option linter.unusedVariables false

def spOK (s : Int × Int) : Bool := decide (0 ≤ s.1 ∧ s.1 ≤ s.2 ∧ s.2 ≤ 48)
theorem spOK_true {s : Int × Int} : spOK s = true ↔ 0 ≤ s.1 ∧ s.1 ≤ s.2 ∧ s.2 ≤ 48 := by simp only [spOK, decide_eq_true_eq]
def inC (s : Int × Int) (c : Int) : Int := max 0 (min s.2 ((c + 1) * 4) - max s.1 (c * 4))
def covUp (l : List (Int × Int)) (c : Int) : Nat → Int
  | 0 => 0
  | k + 1 => covUp l c k + inC (pth l k) c
def allOK (l : List (Int × Int)) : Bool := l.all spOK
theorem allOK_true {l : List (Int × Int)} : allOK l = true ↔ ∀ i, i < l.length → spOK (pth l i) = true := by
  unfold allOK
  rw [List.all_eq_true]
  constructor
  · exact fun h i hi => h _ (pth_mem hi)
  · intro h x hx
    obtain ⟨i, hi, rfl⟩ := List.getElem_of_mem hx
    have := h i hi
    unfold pth at this
    rwa [List.getD_eq_getElem?_getD, List.getElem?_eq_getElem hi] at this
theorem allOK_false {l : List (Int × Int)} {k : Nat} (hk : k < l.length) (h : spOK (pth l k) = false) : allOK l = false := by
  cases e : allOK l
  · rfl
  · have := allOK_true.1 e k hk; rw [h] at this; cases this
def covV (l : List (Int × Int)) (c : Int) : Int := if (decide (l.length ≤ 40) && inB c 0 11 && allOK l) = true then covUp l c l.length else -1
theorem inC_bd {s : Int × Int} {c : Int} (h0 : 0 ≤ c) (h1 : c ≤ 11) (h : spOK s = true) : 0 ≤ inC s c ∧ inC s c ≤ 48 := by
  rw [spOK_true] at h; unfold inC; omega
theorem covUp_bd {l : List (Int × Int)} {c : Int} (h0 : 0 ≤ c) (h1 : c ≤ 11) {k : Nat} (h : ∀ j, j < k → spOK (pth l j) = true) : 0 ≤ covUp l c k ∧ covUp l c k ≤ 48 * (k : Int) := by
  induction k with
  | zero => simp [covUp]
  | succ k ih =>
    have := ih fun j hj => h j (by omega)
    have := inC_bd h0 h1 (h k (by omega))
    simp only [covUp]; omega
set_option maxHeartbeats 2000000 in
theorem SpanCover_i (l : List (Int × Int)) (A : Option Addr) (n cap : Nat) (c : Int) (w : World) (h : Ints w A (flat l)) (hn : l.length = n) (hm : l.length ≤ 1000000000000) :
    Calls Try.prog 13 #[.slice A n cap, .int .i64 c] w fun e w' => e = .returned (.int .i64 (covV l c)) ∧ Below w.heap.size w w' := by
  subst hn
  have HI := Lib.hid h
  clear h
  have hm1 : (l.length : Int) ≤ 1000000000000 := by omega
  by_cases h40 : 40 < l.length
  · have h40i : (40 : Int) < (l.length : Int) := by omega
    have hV : covV l c = -1 := by unfold covV; rw [if_neg (by simp; omega)]
    rw [hV]
    clear hV
    go_enter Try.func13, Try.ntmps13
    go_wp2
    go_ret
    exact ⟨rfl, Below.refl _ _⟩
  have h40i : ¬ (40 : Int) < (l.length : Int) := by omega
  cases hc : inB c 0 11
  · have hV : covV l c = -1 := by unfold covV; rw [if_neg (by simp [hc])]
    rw [hV]
    clear hV
    go_enter Try.func13, Try.ntmps13
    go_wp2_with (first | (go_at_call 33; refine (in_c _ _ _ _).mono ?_; rintro e w' ⟨rfl, rfl⟩))
    go_ret
    exact ⟨rfl, Below.refl _ _⟩
  obtain ⟨c0, c1⟩ := inB_true.1 hc
  have HV := Lib.hid (show covV l c = if allOK l = true then covUp l c l.length else -1 by unfold covV; simp [hc, show l.length ≤ 40 by omega])
  go_enter Try.func13, Try.ntmps13
  go_wp2_with (first | (go_at_call 33; refine (in_c _ _ _ _).mono ?_; rintro e w' ⟨rfl, rfl⟩))
  go_loopw [5, 18] (fun s i wr => ∃ k : Nat, k ≤ l.length ∧ i = .int .i64 k ∧ s = .int .i64 (covUp l c k) ∧ (∀ j, j < k → spOK (pth l j) = true) ∧ Below w.heap.size w wr) (fun _ i _ => l.length - (intOf i).toNat)
  case atStart => exact ⟨0, Nat.zero_le _, rfl, rfl, (fun j hj => absurd hj (by omega)), Below.refl _ _⟩
  case round =>
    obtain ⟨k, hk, rfl, rfl, hall, hbel⟩ := hrel
    have HA := Lib.hid hall
    have HBel := Lib.hid hbel
    have hsr := hbel.size
    obtain ⟨z1, z2⟩ := covUp_bd c0 c1 hall
    clear hall hbel
    by_cases hlt : k < l.length
    · obtain ⟨b, off, rfl, hb, hcc⟩ := HI.out (by rw [flat_length]; omega)
      obtain ⟨s1, s2⟩ := pair_cells (w := wr) (fun i hi => (HBel.out.cell (p := ⟨b, off + i, none⟩) hb).trans (hcc i hi)) hlt
      have hbr : b < wr.heap.size := by omega
      have HN := Lib.hid (show covUp l c (k + 1) = covUp l c k + inC (pth l k) c from rfl)
      have HQ := Lib.hid (show inC (pth l k) c = max 0 (min (pth l k).2 ((c + 1) * 4) - max (pth l k).1 (c * 4)) from rfl)
      clear hcc
      cases hok : spOK (pth l k)
      · have HK := Lib.hid (allOK_false hlt hok)
        have hbad : ¬ (0 ≤ (pth l k).1 ∧ (pth l k).1 ≤ (pth l k).2 ∧ (pth l k).2 ≤ 48) := fun h => by rw [spOK_true.2 h] at hok; cases hok
        clear hok
        by_cases h1 : (pth l k).1 < 0
        · go_wp2
          go_ret
          exact ⟨ret_int (by rw [HV.out, HK.out]; rfl), by have hhh := HBel.out; go_grown⟩
        by_cases h2 : (pth l k).2 < (pth l k).1
        · go_wp2
          go_ret
          exact ⟨ret_int (by rw [HV.out, HK.out]; rfl), by have hhh := HBel.out; go_grown⟩
        have h3 : 48 < (pth l k).2 := by omega
        go_wp2
        go_ret
        exact ⟨ret_int (by rw [HV.out, HK.out]; rfl), by have hhh := HBel.out; go_grown⟩
      · obtain ⟨t1, t2, t3⟩ := spOK_true.1 hok
        have HK := Lib.hid hok
        clear hok
        go_wp2
        go_roundw
        case rel =>
          refine ⟨k + 1, by omega, by go_num, ?_, fun j hj => ?_, by have hhh := HBel.out; go_grown⟩
          · show Value.int .i64 _ = Value.int .i64 _
            congr 1
            rw [HN.out, HQ.out]; omega
          · by_cases e : j = k
            · subst e; exact HK.out
            · exact HA.out j (by omega)
        case measure => simp [intOf]; omega
    · have he : k = l.length := by omega
      have HE := Lib.hid (show allOK l = true from allOK_true.2 (by rw [← he]; exact HA.out))
      have HZ := Lib.hid he
      clear he
      go_wp2
      go_ret
      exact ⟨ret_int (by rw [HV.out, if_pos HE.out, HZ.out]), HBel.out⟩
set_option maxHeartbeats 2000000 in
theorem SpanCover_s (l : List (Int × Int)) (A : Option Addr) (n cap : Nat) (c : Int) (w : World) (h : Ints w A (flat l)) (hn : l.length = n) (hm : l.length ≤ 1000000000000) :
    Calls Try.prog 11 #[.slice A n cap, .int .i64 c] w fun e w' => e = .returned (.int .i64 (covV l c)) ∧ Below w.heap.size w w' := by
  subst hn
  have HI := Lib.hid h
  clear h
  have hm1 : (l.length : Int) ≤ 1000000000000 := by omega
  by_cases h40 : 40 < l.length
  · have h40i : (40 : Int) < (l.length : Int) := by omega
    have hV : covV l c = -1 := by unfold covV; rw [if_neg (by simp; omega)]
    rw [hV]
    clear hV
    go_enter Try.func11, Try.ntmps11
    go_wp2
    go_ret
    exact ⟨rfl, Below.refl _ _⟩
  have h40i : ¬ (40 : Int) < (l.length : Int) := by omega
  cases hc : inB c 0 11
  · have hV : covV l c = -1 := by unfold covV; rw [if_neg (by simp [hc])]
    rw [hV]
    clear hV
    go_enter Try.func11, Try.ntmps11
    go_wp2_with (first | (go_at_call 31; refine (inRange_c _ _ _ _).mono ?_; rintro e w' ⟨rfl, rfl⟩))
    go_ret
    exact ⟨rfl, Below.refl _ _⟩
  obtain ⟨c0, c1⟩ := inB_true.1 hc
  have HV := Lib.hid (show covV l c = if allOK l = true then covUp l c l.length else -1 by unfold covV; simp [hc, show l.length ≤ 40 by omega])
  go_enter Try.func11, Try.ntmps11
  go_wp2_with (first | (go_at_call 31; refine (inRange_c _ _ _ _).mono ?_; rintro e w' ⟨rfl, rfl⟩))
  go_loopw [5, 6] (fun s i wr => ∃ k : Nat, k ≤ l.length ∧ i = .int .i64 k ∧ s = .int .i64 (covUp l c k) ∧ (∀ j, j < k → spOK (pth l j) = true) ∧ Below w.heap.size w wr) (fun _ i _ => l.length - (intOf i).toNat)
  case atStart => exact ⟨0, Nat.zero_le _, rfl, rfl, (fun j hj => absurd hj (by omega)), Below.refl _ _⟩
  case round =>
    obtain ⟨k, hk, rfl, rfl, hall, hbel⟩ := hrel
    have HA := Lib.hid hall
    have HBel := Lib.hid hbel
    have hsr := hbel.size
    obtain ⟨z1, z2⟩ := covUp_bd c0 c1 hall
    clear hall hbel
    by_cases hlt : k < l.length
    · obtain ⟨b, off, rfl, hb, hcc⟩ := HI.out (by rw [flat_length]; omega)
      obtain ⟨s1, s2⟩ := pair_cells (w := wr) (fun i hi => (HBel.out.cell (p := ⟨b, off + i, none⟩) hb).trans (hcc i hi)) hlt
      have hbr : b < wr.heap.size := by omega
      have HN := Lib.hid (show covUp l c (k + 1) = covUp l c k + inC (pth l k) c from rfl)
      have HQ := Lib.hid (show inC (pth l k) c = max 0 (min (pth l k).2 ((c + 1) * 4) - max (pth l k).1 (c * 4)) from rfl)
      clear hcc
      cases hok : spOK (pth l k)
      · have HK := Lib.hid (allOK_false hlt hok)
        have hbad : ¬ (0 ≤ (pth l k).1 ∧ (pth l k).1 ≤ (pth l k).2 ∧ (pth l k).2 ≤ 48) := fun h => by rw [spOK_true.2 h] at hok; cases hok
        clear hok
        have hk0 : (0 : Int) ≤ (k : Int) := by omega
        have hk1 : (k : Int) < (l.length : Int) := by omega
        by_cases h1 : 0 ≤ (pth l k).1 ∧ (pth l k).1 ≤ (pth l k).2
        · have hin : inB (pth l k).1 0 (pth l k).2 = true := inB_mk h1.1 h1.2
          have h3 : decide (48 < (pth l k).2) = true := by simp; omega
          go_wp2
          go_quiet ((go_at_call 31; exact Calls.quiet_of_same ((inRange_c _ _ _ _).mono fun _ _ h => ⟨h.1, h.2.symm⟩)))
          go_wp2
          go_ret
          exact ⟨ret_int (by rw [HV.out, HK.out]; rfl), below_drewN HBel.out _⟩
        · have hin : inB (pth l k).1 0 (pth l k).2 = false := inB_false.2 h1
          go_wp2
          go_quiet ((go_at_call 31; exact Calls.quiet_of_same ((inRange_c _ _ _ _).mono fun _ _ h => ⟨h.1, h.2.symm⟩)))
          go_wp2
          go_ret
          exact ⟨ret_int (by rw [HV.out, HK.out]; rfl), below_drewN HBel.out _⟩
      · obtain ⟨t1, t2, t3⟩ := spOK_true.1 hok
        have HK := Lib.hid hok
        clear hok
        have hk0 : (0 : Int) ≤ (k : Int) := by omega
        have hk1 : (k : Int) < (l.length : Int) := by omega
        have hin : inB (pth l k).1 0 (pth l k).2 = true := inB_mk t1 t2
        have h3 : decide (48 < (pth l k).2) = false := by simp; omega
        have e1 := IntWalk.i64_in (c + 1) (by omega)
        have e2 := IntWalk.i64_in (4 * (c + 1)) (by omega)
        have e3 := IntWalk.i64_in (4 * c) (by omega)
        have e4 := IntWalk.i64_in (min (pth l k).2 (4 * (c + 1)) - max (pth l k).1 (4 * c)) (by omega)
        have e5 := IntWalk.i64_in (covUp l c k + max 0 (min (pth l k).2 (4 * (c + 1)) - max (pth l k).1 (4 * c))) (by omega)
        go_wp2
        go_quiet ((go_at_call 31; exact Calls.quiet_of_same ((inRange_c _ _ _ _).mono fun _ _ h => ⟨h.1, h.2.symm⟩)))
        go_wp2
        go_quiet (fail)
        clear e1 e2 e3 e4 e5
        go_wp2
        go_roundw
        case rel =>
          refine ⟨k + 1, by omega, by go_num, ?_, fun j hj => ?_, by first | exact below_drewN (below_drewN HBel.out _) _ | exact below_drewN HBel.out _⟩
          · show Value.int .i64 _ = Value.int .i64 _
            congr 1
            rw [HN.out, HQ.out]; omega
          · by_cases e : j = k
            · subst e; exact HK.out
            · exact HA.out j (by omega)
        case measure => simp [intOf]; omega
    · have he : k = l.length := by omega
      have HE := Lib.hid (show allOK l = true from allOK_true.2 (by rw [← he]; exact HA.out))
      have HZ := Lib.hid he
      clear he
      go_wp2
      go_ret
      exact ⟨ret_int (by rw [HV.out, if_pos HE.out, HZ.out]), HBel.out⟩
end Go.Proofs.Ytjfbbieacpnpkaa
