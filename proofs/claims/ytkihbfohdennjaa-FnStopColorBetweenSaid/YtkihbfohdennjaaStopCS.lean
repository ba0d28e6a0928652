/-
  The color of stops at a place: by the reference. (Conditions: the bounds of each theorem.)
-/
import Derived.Test.YtkihbfohdennjaaStopK
import Derived.Test.YtkihbfohdennjaaColorI
import Derived.Test.YtkihbfohdennjaaColorS
import Derived.Deep.RegionHeld3
import Derived.Deep.DrawnRows
namespace Go.Proofs.Ytkihbfohdennjaa
open Go.RowKit
set_option linter.unusedSimpArgs false
set_option linter.unusedVariables false

attribute [local go_sem ↓] Go.wp_at_zero Go.wp_at_succ
theorem colAt_bd {zs : List Int} {k : Nat} (h : colAt zs k = true) : 0 ≤ sA zs k ∧ sA zs k ≤ 255 ∧ 0 ≤ sR zs k ∧ sR zs k ≤ sA zs k ∧ 0 ≤ sG zs k ∧ sG zs k ≤ sA zs k ∧ 0 ≤ sB zs k ∧ sB zs k ≤ sA zs k := colB_true.1 h
theorem agg4_of {a b c d a' b' c' d' : Int} (h1 : a = a') (h2 : b = b') (h3 : c = c') (h4 : d = d') : Ending.returned (Value.agg #[.int .i64 a, .int .i64 b, .int .i64 c, .int .i64 d]) = .returned (Value.agg #[.int .i64 a', .int .i64 b', .int .i64 c', .int .i64 d']) := by rw [h1, h2, h3, h4]
def quot (zs : List Int) (k : Nat) (t : Int) : Int := 256 * (t - sAt zs k) / (sAt zs (k + 1) - sAt zs k)
theorem quot_def (zs : List Int) (k : Nat) (t : Int) : Int.tdiv (256 * (t - sAt zs k)) (sAt zs (k + 1) - sAt zs k) = quot zs k t ∨ True := .inr trivial
theorem quot_eq {zs : List Int} {n k : Nat} {t : Int} (h : StopsOK zs n) (hk : k + 1 < n) (h1 : sAt zs k ≤ t) : Int.tdiv (256 * (t - sAt zs k)) (sAt zs (k + 1) - sAt zs k) = quot zs k t :=
  Int.tdiv_eq_ediv_of_nonneg (by omega)
theorem Place.eq_of {zs : List Int} {n p k : Nat} {t : Int} (h : Place zs n t p) (hk : k ≤ n) (h1 : ∀ j, j < k → sAt zs j < t) (h2 : k < n → t ≤ sAt zs k) : p = k := by
  rcases Nat.lt_trichotomy p k with hl | he | hg
  · have := h.aft (by omega); have := h1 p hl; omega
  · exact he
  · have := h.bef k hg; have := h2 (by have := h.le; omega); omega
set_option maxHeartbeats 4000000 in
theorem stopColor_s (zs : List Int) (A : Option Addr) (n cap : Nat) (t : Int) (w : World) (h : Ints w A zs) (hn : zs.length = 5 * n) (hc0 : n ≤ cap) (hcm : cap ≤ maxLen) (hv : StopsOK zs n) (p : Nat) (hp : Place zs n t p) :
    Calls Try.prog 24 #[.slice A n cap, .int .i64 t] w fun e w' => e = .returned (.agg #[.int .i64 (vC (sR zs) zs n p t), .int .i64 (vC (sG zs) zs n p t), .int .i64 (vC (sB zs) zs n p t), .int .i64 (vC (sA zs) zs n p t)]) ∧ Below w.heap.size w w' := by
  have n1 := hv.n1
  have n4 := hv.n4
  unfold maxLen at hcm
  obtain ⟨bb, off, rfl, hbb, hcc⟩ := h (by omega)
  have HC := Lib.hid hcc
  have HV := Lib.hid hv
  have HP := Lib.hid hp
  have hn4 : (n : Int) ≤ 4 := by omega
  have hn1 : (1 : Int) ≤ (n : Int) := by omega
  clear hcc h hv hp
  obtain ⟨z0, z1, z2, z3, z4⟩ := five_cells (w := w) hn HC.out (show 0 < n from n1)
  simp only [Nat.zero_mul, Nat.add_zero, Nat.zero_add] at z0 z1 z2 z3 z4
  by_cases h0 : t ≤ sAt zs 0
  · have HE := Lib.hid (show p = 0 from HP.out.eq_of (by omega) (fun j hj => absurd hj (by omega)) (fun _ => h0))
    go_enter Try.func24, Try.ntmps24
    go_wp2
    go_returns
    rw [HE.out]
    exact ⟨agg4_of (vC_zero _ _).symm (vC_zero _ _).symm (vC_zero _ _).symm (vC_zero _ _).symm, by go_grown⟩
  have h0' : sAt zs 0 < t := by omega
  go_enter Try.func24, Try.ntmps24
  go_wp2
  go_loop [5] (fun i => ∃ k : Nat, 1 ≤ k ∧ k ≤ n ∧ i = .int .i64 k ∧ ∀ j, j < k → sAt zs j < t) (fun i => n - (intOf i).toNat)
  case atStart => exact ⟨1, Nat.le_refl _, n1, rfl, fun j hj => by (have e : j = 0 := by omega); rw [e]; exact h0'⟩
  case round =>
    obtain ⟨k, hk1, hkn, rfl, hbef⟩ := hrel
    have HBf := Lib.hid hbef
    clear hbef
    have hj : IntKind.i64.wrap ((k : Int) - 1) = ((k - 1 : Nat) : Int) := by rw [IntWalk.i64_in _ (by omega)]; omega
    have hj0 : (0 : Int) ≤ ((k - 1 : Nat) : Int) := by omega
    by_cases hlt : k < n
    · obtain ⟨s0, s1, s2, s3, s4⟩ := five_cells (w := w) hn HC.out hlt
      obtain ⟨r0, r1, r2, r3, r4⟩ := five_cells (w := w) hn HC.out (show k - 1 < n by omega)
      have hj1 : ((k - 1 : Nat) : Int) < (n : Int) := by omega
      by_cases ht : t ≤ sAt zs k
      · obtain ⟨m, rfl⟩ : ∃ m, k = m + 1 := ⟨k - 1, by omega⟩
        rw [Nat.add_sub_cancel] at *
        have hpre := HBf.out m (by omega)
        have HE := Lib.hid (show p = m + 1 from HP.out.eq_of (by omega) HBf.out (fun _ => ht))
        obtain ⟨b1, b2⟩ := HV.out.bd m (by omega)
        obtain ⟨b3, b4⟩ := HV.out.bd (m + 1) hlt
        have hup := HV.out.up m hlt
        obtain ⟨q1, q2⟩ := mid_bd HV.out hlt (by omega) ht
        have e1 := IntWalk.i64_in (t - sAt zs m) (by omega)
        have e2 := IntWalk.i64_in (256 * (t - sAt zs m)) (by omega)
        have e3 := IntWalk.i64_in (sAt zs (m + 1) - sAt zs m) (by omega)
        have hq := quot_eq HV.out hlt (show sAt zs m ≤ t by omega)
        have Q1 : 0 ≤ quot zs m t := q1
        have Q2 : quot zs m t ≤ 256 := q2
        have e4 := IntWalk.i64_in (quot zs m t) (by omega)
        have hne : (sAt zs (m + 1) - sAt zs m == 0) = false := by rw [beq_eq_false_iff_ne]; omega
        have hne2 : sAt zs (m + 1) - sAt zs m ≠ 0 := by omega
        have HC1 := Lib.hid (colAt_bd (HV.out.col m (by omega)))
        have HC2 := Lib.hid (colAt_bd (HV.out.col (m + 1) hlt))
        clear q1 q2
        go_wp2_with fail
        go_region_held3 (fun w' => w'.cell? ⟨w.heap.size + 1, 0, none⟩ = some (.int .i64 (sAt zs m)) ∧ w'.cell? ⟨w.heap.size + 1, 1, none⟩ = some (.int .i64 (sR zs m)) ∧ w'.cell? ⟨w.heap.size + 1, 2, none⟩ = some (.int .i64 (sG zs m)) ∧ w'.cell? ⟨w.heap.size + 1, 3, none⟩ = some (.int .i64 (sB zs m)) ∧ w'.cell? ⟨w.heap.size + 1, 4, none⟩ = some (.int .i64 (sA zs m)) ∧ w'.cell? ⟨w.heap.size + 1 + 1, 0, none⟩ = some (.int .i64 (sAt zs (m + 1))) ∧ w'.cell? ⟨w.heap.size + 1 + 1, 1, none⟩ = some (.int .i64 (sR zs (m + 1))) ∧ w'.cell? ⟨w.heap.size + 1 + 1, 2, none⟩ = some (.int .i64 (sG zs (m + 1))) ∧ w'.cell? ⟨w.heap.size + 1 + 1, 3, none⟩ = some (.int .i64 (sB zs (m + 1))) ∧ w'.cell? ⟨w.heap.size + 1 + 1, 4, none⟩ = some (.int .i64 (sA zs (m + 1)))) ((repeat' apply And.intro) <;> (first | ((repeat (first | (with_reducible assumption) | (with_reducible refine cell_keepD ?_) | (with_reducible refine cell_keepA ?_ _) | (with_reducible refine cell_keepS ?_ _ (by simp only []; omega)) | (with_reducible refine (hc1 _ _ (by go_size)).trans ?_))); done) | (go_cell; done)))
          (first | (go_at_call 33; refine (mix_s _ _ _ _ _ _ _ _ _ _ HC1.out HC2.out (by omega) (by omega)).mono ?_; rintro e w1 ⟨rfl, rfl⟩))
        go_wp2
        go_returns
        rw [HE.out]
        exact ⟨agg4_of (vC_mid _ _ hlt).symm (vC_mid _ _ hlt).symm (vC_mid _ _ hlt).symm (vC_mid _ _ hlt).symm, by go_grown⟩
      · go_wp2
        go_round
        case rel => exact ⟨k + 1, by omega, by omega, by go_num, fun j hj => by
          by_cases e : j = k
          · subst e; omega
          · exact HBf.out j (by omega)⟩
        case measure => simp [intOf]; omega
    · have he : k = n := by omega
      have HE := Lib.hid (show p = n from HP.out.eq_of (Nat.le_refl _) (by subst he; exact HBf.out) (fun h => absurd h (by omega)))
      have hj9 : IntKind.i64.wrap ((n : Int) - 1) = ((n - 1 : Nat) : Int) := by rw [IntWalk.i64_in _ (by omega)]; omega
      have hj1 : ((n - 1 : Nat) : Int) < (n : Int) := by omega
      have hj2 : (0 : Int) ≤ ((n - 1 : Nat) : Int) := by omega
      have hj3 : n - 1 < n := by omega
      obtain ⟨r0, r1, r2, r3, r4⟩ := five_cells (w := w) hn HC.out (show n - 1 < n by omega)
      have HKN := Lib.hid he
      have hkn2 : (n : Int) ≤ (k : Int) := by omega
      clear he
      go_wp2
      go_returns
      rw [HE.out]
      exact ⟨agg4_of (vC_last _ _ n1).symm (vC_last _ _ n1).symm (vC_last _ _ n1).symm (vC_last _ _ n1).symm, by go_grown⟩
end Go.Proofs.Ytkihbfohdennjaa
