/-
  The color of stops at a place: by the program. (Conditions: the bounds of each theorem.)
-/
import Derived.Test.YtkihbfohdennjaaStopCS
namespace Go.Proofs.Ytkihbfohdennjaa
open Go.RowKit
set_option linter.unusedSimpArgs false
set_option linter.unusedVariables false

attribute [local go_sem ↓] Go.wp_at_zero Go.wp_at_succ
theorem row_zero4 (w : World) (t : TypeId) : Row (w.alloc (.cells #[.int .i64 0, .int .i64 0, .int .i64 0, .int .i64 0] t)) w.heap.size t 4 (fun _ => .int .i64 0) :=
  ⟨_, heap_alloc_new w _, fun i hi => by
    have : i = 0 ∨ i = 1 ∨ i = 2 ∨ i = 3 := by omega
    rcases this with rfl | rfl | rfl | rfl <;> rfl⟩
theorem zero_cells {w : World} {g : Nat} {t : TypeId} (h : Row w g t 4 (fun _ => .int .i64 0)) : (w.cell? ⟨g, 0, none⟩ = some (.int .i64 0) ∧ w.cell? ⟨g, 1, none⟩ = some (.int .i64 0) ∧ w.cell? ⟨g, 2, none⟩ = some (.int .i64 0) ∧ w.cell? ⟨g, 3, none⟩ = some (.int .i64 0)) ∧ w.frozen? ⟨g, 0, none⟩ = false ∧ w.frozen? ⟨g, 1, none⟩ = false ∧ w.frozen? ⟨g, 2, none⟩ = false ∧ w.frozen? ⟨g, 3, none⟩ = false :=
  ⟨⟨h.cell (by omega), h.cell (by omega), h.cell (by omega), h.cell (by omega)⟩, h.free 0, h.free 1, h.free 2, h.free 3⟩
set_option maxHeartbeats 4000000 in
theorem stopColor_i (zs : List Int) (A : Option Addr) (n cap : Nat) (t : Int) (w : World) (h : Ints w A zs) (hn : zs.length = 5 * n) (hc0 : n ≤ cap) (hcm : cap ≤ maxLen) (hv : StopsOK zs n) (p : Nat) (hp : Place zs n t p) :
    Calls Try.prog 25 #[.slice A n cap, .int .i64 t] w fun e w' => e = .returned (.agg #[.int .i64 (vC (sR zs) zs n p t), .int .i64 (vC (sG zs) zs n p t), .int .i64 (vC (sB zs) zs n p t), .int .i64 (vC (sA zs) zs n p t)]) ∧ Below w.heap.size w w' := by
  have n1 := hv.n1
  have n4 := hv.n4
  unfold maxLen at hcm
  obtain ⟨bb, off, rfl, hbb, hcc⟩ := h (by omega)
  have HC := Lib.hid hcc
  have HV := Lib.hid hv
  have HP := Lib.hid hp
  have hn4 : (n : Int) ≤ 4 := by omega
  have hn1 : (1 : Int) ≤ (n : Int) := by omega
  clear hcc h hv hp
  obtain ⟨z0, z1, z2, z3, z4⟩ := five_cells (w := w) hn HC.out (show 0 < n from n1)
  simp only [Nat.zero_mul, Nat.add_zero, Nat.zero_add] at z0 z1 z2 z3 z4
  by_cases h0 : t ≤ sAt zs 0
  · have HE := Lib.hid (show p = 0 from HP.out.eq_of (by omega) (fun j hj => absurd hj (by omega)) (fun _ => h0))
    go_enter Try.func25, Try.ntmps25
    go_wp2
    go_returns
    rw [HE.out]
    exact ⟨agg4_of (vC_zero _ _).symm (vC_zero _ _).symm (vC_zero _ _).symm (vC_zero _ _).symm, by go_grown⟩
  have h0' : sAt zs 0 < t := by omega
  have HZ0 := Lib.hid (row_zero4 w 30)
  by_cases hn2 : n = 1
  · subst hn2
    have HVe := Lib.hid (show ∀ c : Nat → Int, vC c zs 1 p t = c 0 from fun c => vC_end HV.out c HP.out (show sAt zs (1 - 1) ≤ t from Int.le_of_lt h0'))
    go_enter Try.func25, Try.ntmps25
    go_wp2
    all_goals
      go_loopw [21] (fun i wr => i = .int .i64 0 ∧ Row wr w.heap.size 30 4 (fun _ => .int .i64 0) ∧ Below w.heap.size w wr) (fun i _ => 0)
      case atStart => exact ⟨rfl, HZ0.out, by go_grown⟩
      case round =>
        obtain ⟨rfl, hrow, hbel⟩ := hrel
        have HBel := Lib.hid hbel
        obtain ⟨r0, r1, r2, r3, r4⟩ := five_cells (w := wr) hn (fun i hi => (HBel.out.cell (p := ⟨bb, off + i, none⟩) hbb).trans (HC.out i hi)) (show 0 < 1 by omega)
        simp only [Nat.zero_mul, Nat.add_zero, Nat.zero_add] at r0 r1 r2 r3 r4
        obtain ⟨⟨x0, x1, x2, x3⟩, y0, y1, y2, y3⟩ := zero_cells hrow
        have hlr := hrow.lt
        clear hrow hbel
        go_wp2
        refine bodyPost_ret (by simp [results, Try.results25, go_sem, *]; try rfl) rfl ?_
        exact ⟨agg4_of (HVe.out _).symm (HVe.out _).symm (HVe.out _).symm (HVe.out _).symm, by have hhh := HBel.out; go_grown⟩
  have hn3 : 2 ≤ n := by omega
  have hcap1 : ¬ cap = 1 := by omega
  have hcap2 : 2 ≤ cap := by omega
  clear hn2
  go_enter Try.func25, Try.ntmps25
  go_wp2
  go_loopw [21] (fun i wr => ∃ k : Nat, k + 1 ≤ n ∧ i = .int .i64 k ∧ (∀ j, j ≤ k → sAt zs j ≤ t) ∧ Row wr w.heap.size 30 4 (fun _ => .int .i64 0) ∧ Below w.heap.size w wr) (fun i _ => n - (intOf i).toNat)
  case atStart => exact ⟨0, n1, rfl, fun j hj => (by (have e : j = 0 := by omega); rw [e]; omega), HZ0.out, by go_grown⟩
  case round =>
    obtain ⟨m, hkn, rfl, hbef, hrow, hbel⟩ := hrel
    have HBf := Lib.hid hbef
    have HRow := Lib.hid hrow
    have HBel := Lib.hid hbel
    have hsr := hbel.size
    have hlr := hrow.lt
    have hbr : bb < wr.heap.size := by omega
    have HCw := Lib.hid (show ∀ i, i < zs.length → wr.cell? ⟨bb, off + i, none⟩ = some (.int .i64 (nth zs i)) from fun i hi => (HBel.out.cell (p := ⟨bb, off + i, none⟩) hbb).trans (HC.out i hi))
    clear hbef hrow hbel
    have hm0 : (0 : Int) ≤ (m : Int) := by omega
    have hm1 : (m : Int) < (n : Int) := by omega
    obtain ⟨r0, r1, r2, r3, r4⟩ := five_cells (w := wr) hn HCw.out (show m < n by omega)
    by_cases hlt : m + 1 < n
    · obtain ⟨s0, s1, s2, s3, s4⟩ := five_cells (w := wr) hn HCw.out hlt
      rw [show off + (m + 1) * 5 = off + 5 + m * 5 by omega] at s0 s1 s2 s3 s4
      have hm2 : (m : Int) < ((n - 1 : Nat) : Int) := by omega
      have hm3 : m < n - 1 := by omega
      by_cases ht : t < sAt zs (m + 1)
      · have hpre := HBf.out m (Nat.le_refl _)
        obtain ⟨b1, b2⟩ := HV.out.bd m (by omega)
        obtain ⟨b3, b4⟩ := HV.out.bd (m + 1) hlt
        have hup := HV.out.up m hlt
        obtain ⟨q1, q2⟩ := mid_bd HV.out hlt hpre (by omega)
        have e1 := IntWalk.i64_in (t - sAt zs m) (by omega)
        have e2 := IntWalk.i64_in (256 * (t - sAt zs m)) (by omega)
        have e3 := IntWalk.i64_in (sAt zs (m + 1) - sAt zs m) (by omega)
        have hq : 256 * (t - sAt zs m) / (sAt zs (m + 1) - sAt zs m) = quot zs m t := rfl
        have Q1 : 0 ≤ quot zs m t := q1
        have Q2 : quot zs m t ≤ 256 := q2
        have HC1 := Lib.hid (colAt_bd (HV.out.col m (by omega)))
        have HC2 := Lib.hid (colAt_bd (HV.out.col (m + 1) hlt))
        clear q1 q2
        go_wp2_with fail
        go_region_held3 (fun w' => w'.cell? ⟨wr.heap.size + 1, 0, none⟩ = some (.int .i64 (sAt zs m)) ∧ w'.cell? ⟨wr.heap.size + 1, 1, none⟩ = some (.int .i64 (sR zs m)) ∧ w'.cell? ⟨wr.heap.size + 1, 2, none⟩ = some (.int .i64 (sG zs m)) ∧ w'.cell? ⟨wr.heap.size + 1, 3, none⟩ = some (.int .i64 (sB zs m)) ∧ w'.cell? ⟨wr.heap.size + 1, 4, none⟩ = some (.int .i64 (sA zs m)) ∧ w'.cell? ⟨wr.heap.size, 0, none⟩ = some (.int .i64 (sAt zs (m + 1))) ∧ w'.cell? ⟨wr.heap.size, 1, none⟩ = some (.int .i64 (sR zs (m + 1))) ∧ w'.cell? ⟨wr.heap.size, 2, none⟩ = some (.int .i64 (sG zs (m + 1))) ∧ w'.cell? ⟨wr.heap.size, 3, none⟩ = some (.int .i64 (sB zs (m + 1))) ∧ w'.cell? ⟨wr.heap.size, 4, none⟩ = some (.int .i64 (sA zs (m + 1)))) ((repeat' apply And.intro) <;> (first | ((repeat (first | (with_reducible assumption) | (with_reducible refine cell_keepD ?_) | (with_reducible refine cell_keepA ?_ _) | (with_reducible refine cell_keepS ?_ _ (by simp only []; omega)) | (with_reducible refine (hc1 _ _ (by go_size)).trans ?_))); done) | (go_cell; done)))
          (first | (go_at_call 35; refine (floor_c _ _ _ (by omega) (by omega) (by omega) (by omega)).mono ?_; rintro e w1 ⟨rfl, rfl⟩; rw [hq]) | (go_at_call 34; refine (MixColor_i _ _ _ _ _ _ _ _ _ _ HC1.out HC2.out (by omega) (by omega)).mono ?_; rintro e wz ⟨rfl, hbz⟩; obtain ⟨hc1, hf1⟩ := bcell hbz; have hz1 := hbz.size; (try simp only [World.size_alloc, World.size_setCell, World.size_drew] at hz1); have zA : wr.heap.size < wz.heap.size := (by omega); have zB : wr.heap.size + 1 < wz.heap.size := (by omega); have zC : w.heap.size < wz.heap.size := (by omega); have rr := (show Row wz w.heap.size 30 4 (fun _ => .int .i64 0) from Row.back (by (repeat (first | (with_reducible exact HRow.out) | (with_reducible refine Row.alloc ?_ _) | (with_reducible refine Row.drew ?_)))) hbz); obtain ⟨⟨x0, x1, x2, x3⟩, y0, y1, y2, y3⟩ := zero_cells rr; have HZ := Lib.hid (show Below w.heap.size w wz from below_then (by have hhh := HBel.out; go_grown) hbz); clear rr))
        go_wp2
        refine bodyPost_ret (by simp [results, Try.results25, go_sem, *]; try rfl) rfl ?_
        exact ⟨agg4_of (vC_prog HV.out _ HP.out hlt h0' hpre ht).symm (vC_prog HV.out _ HP.out hlt h0' hpre ht).symm (vC_prog HV.out _ HP.out hlt h0' hpre ht).symm (vC_prog HV.out _ HP.out hlt h0' hpre ht).symm, by have hhh := HZ.out; go_grown⟩
      · go_wp2
        go_roundw
        case rel => exact ⟨m + 1, by omega, by go_num, (fun j hj => by
          by_cases e : j = m + 1
          · subst e; omega
          · exact HBf.out j (by omega)), by (repeat (first | (with_reducible exact HRow.out) | (with_reducible refine Row.alloc ?_ _) | (with_reducible refine Row.drew ?_))), by have hhh := HBel.out; go_grown⟩
        case measure => simp [intOf]; omega
    · have he : m = n - 1 := by omega
      have HE := Lib.hid (HBf.out m (Nat.le_refl _))
      have HM := Lib.hid he
      rw [he] at r0 r1 r2 r3 r4
      have hj9 : IntKind.i64.wrap ((n : Int) - 1) = ((n - 1 : Nat) : Int) := by rw [IntWalk.i64_in _ (by omega)]; omega
      have hj1 : ((n - 1 : Nat) : Int) < (n : Int) := by omega
      have hj2 : (0 : Int) ≤ ((n - 1 : Nat) : Int) := by omega
      have hj3 : n - 1 < n := by omega
      have hm4 : n - 1 ≤ m := by omega
      have hm5 : ((n - 1 : Nat) : Int) ≤ (m : Int) := by omega
      obtain ⟨⟨x0, x1, x2, x3⟩, y0, y1, y2, y3⟩ := zero_cells HRow.out
      clear he
      go_wp2
      refine bodyPost_ret (by simp [results, Try.results25, go_sem, *]; try rfl) rfl ?_
      have hl := HE.out
      rw [HM.out] at hl
      exact ⟨agg4_of (vC_end HV.out _ HP.out hl).symm (vC_end HV.out _ HP.out hl).symm (vC_end HV.out _ HP.out hl).symm (vC_end HV.out _ HP.out hl).symm, by have hhh := HBel.out; go_grown⟩
end Go.Proofs.Ytkihbfohdennjaa
