/-
  Copies and comparisons of stops. (Conditions: the bounds of each theorem.)
-/
import Derived.Test.YtkihbfohdennjaaStopS
import Derived.Test.YtkihbfohdennjaaDrawC
import Derived.OwnWalk
namespace Go.Proofs.Ytkihbfohdennjaa
open Go.RowKit
set_option linter.unusedSimpArgs false
set_option linter.unusedVariables false

theorem Row.back {W w1 : World} {g n : Nat} {t : TypeId} {f : Nat → Value} (h : Row W g t n f) (hb : Below W.heap.size W w1) : Row w1 g t n f := h.keep (hb.block g h.lt)
theorem ValidStops_s (zs : List Int) (A : Option Addr) (n cap : Nat) (w : World) (h : Ints w A zs) (hn : zs.length = 5 * n) (hm : n ≤ 1000000000000) :
    Calls Try.prog 10 #[.slice A n cap] w fun e w' => e = .returned (.bool (stopsB zs n)) ∧ Below w.heap.size w w' := by
  have HI := Lib.hid h
  clear h
  go_enter Try.func10, Try.ntmps10
  go_wp2_with fail
  refine (validStops_s zs _ _ _ _ HI.out hn hm).mono ?_
  rintro e w1 ⟨rfl, hb⟩
  have HB := Lib.hid hb
  clear hb
  go_wp2
  go_ret
  exact ⟨rfl, HB.out⟩
theorem eqStop_c (t r g b a : Int) (w : World) : Calls Try.prog 23 #[.agg #[.int .i64 t, .int .i64 r, .int .i64 g, .int .i64 b, .int .i64 a], .agg #[.int .i64 t, .int .i64 r, .int .i64 g, .int .i64 b, .int .i64 a]] w fun e w' => e = .returned (.bool true) ∧ (((w.alloc (.cells #[.int .i64 t, .int .i64 r, .int .i64 g, .int .i64 b, .int .i64 a] 40)).alloc (.cells #[.int .i64 t, .int .i64 r, .int .i64 g, .int .i64 b, .int .i64 a] 40)).alloc (.cells #[.int .i64 r, .int .i64 g, .int .i64 b, .int .i64 a] 30)).alloc (.cells #[.int .i64 r, .int .i64 g, .int .i64 b, .int .i64 a] 30) = w' := by
  go_enter Try.func23, Try.ntmps23
  go_wp2_with (first | (go_at_call 16; refine (eqColor_c _ _ _ _ _).mono ?_; rintro e w1 ⟨rfl, rfl⟩))
  go_returns
  exact ⟨rfl, rfl⟩
set_option maxHeartbeats 2000000 in
theorem eqStopS_c (zs : List Int) (k0 : Nat) (A B : Option Addr) (n ca m cb : Nat) (w : World) (ha : Ints w A zs) (hb : Ints w B zs) (hl : zs.length = 5 * k0) (hn : k0 = n) (hm : k0 = m) (hz : k0 ≤ 1000000000000) :
    Calls Try.prog 13 #[.slice A n ca, .slice B m cb] w fun e w' => e = .returned (.bool true) ∧ Below w.heap.size w w' := by
  subst hn
  subst hm
  have HA := Lib.hid ha
  have HB := Lib.hid hb
  clear ha hb
  have hm1 : (k0 : Int) ≤ 1000000000000 := by omega
  go_enter Try.func13, Try.ntmps13
  go_wp2
  go_loopw [5] (fun i wr => ∃ k : Nat, k ≤ k0 ∧ i = .int .i64 k ∧ Below w.heap.size w wr) (fun i _ => k0 - (intOf i).toNat)
  case atStart => exact ⟨0, Nat.zero_le _, rfl, Below.refl _ _⟩
  case round =>
    obtain ⟨k, hk, rfl, hbel⟩ := hrel
    have HBel := Lib.hid hbel
    have hsr := hbel.size
    clear hbel
    by_cases hlt : k < k0
    · obtain ⟨b1, o1, rfl, q1, c1⟩ := HA.out (by omega)
      obtain ⟨b2, o2, rfl, q2, c2⟩ := HB.out (by omega)
      obtain ⟨s0, s1, s2, s3, s4⟩ := five_cells (w := wr) hl (fun i hi => (HBel.out.cell (p := ⟨b1, o1 + i, none⟩) q1).trans (c1 i hi)) hlt
      obtain ⟨r0, r1, r2, r3, r4⟩ := five_cells (w := wr) hl (fun i hi => (HBel.out.cell (p := ⟨b2, o2 + i, none⟩) q2).trans (c2 i hi)) hlt
      have hl1 : (k : Int) < (k0 : Int) := by omega
      have hl0 : (0 : Int) ≤ (k : Int) := by omega
      clear c1 c2
      go_wp2
      go_region_held3 (fun w' => w'.cell? ⟨b1, o1 + k * 5, none⟩ = some (.int .i64 (sAt zs k)) ∧ w'.cell? ⟨b1, o1 + k * 5 + 1, none⟩ = some (.int .i64 (sR zs k)) ∧ w'.cell? ⟨b1, o1 + k * 5 + 2, none⟩ = some (.int .i64 (sG zs k)) ∧ w'.cell? ⟨b1, o1 + k * 5 + 3, none⟩ = some (.int .i64 (sB zs k)) ∧ w'.cell? ⟨b1, o1 + k * 5 + 4, none⟩ = some (.int .i64 (sA zs k)) ∧ w'.cell? ⟨b2, o2 + k * 5, none⟩ = some (.int .i64 (sAt zs k)) ∧ w'.cell? ⟨b2, o2 + k * 5 + 1, none⟩ = some (.int .i64 (sR zs k)) ∧ w'.cell? ⟨b2, o2 + k * 5 + 2, none⟩ = some (.int .i64 (sG zs k)) ∧ w'.cell? ⟨b2, o2 + k * 5 + 3, none⟩ = some (.int .i64 (sB zs k)) ∧ w'.cell? ⟨b2, o2 + k * 5 + 4, none⟩ = some (.int .i64 (sA zs k))) ((repeat' apply And.intro) <;> (first | ((repeat (first | (with_reducible assumption) | (with_reducible refine cell_keepD ?_) | (with_reducible refine cell_keepA ?_ _))); done) | (go_cell; done)))
        (first | (go_at_call 23; refine (eqStop_c _ _ _ _ _ _).mono ?_; rintro e wz ⟨rfl, rfl⟩))
      go_wp2
      go_roundw
      case rel => exact ⟨k + 1, by omega, by go_num, by have hhh := HBel.out; go_grown⟩
      case measure => simp [intOf]; omega
    · go_wp2
      go_ret
      exact ⟨rfl, HBel.out⟩
theorem toStop_c (t r g b a : Int) (w : World) : Calls Try.prog 21 #[.agg #[.int .i64 t, .int .i64 r, .int .i64 g, .int .i64 b, .int .i64 a]] w fun e w' => e = .returned (.agg #[.int .i64 t, .int .i64 r, .int .i64 g, .int .i64 b, .int .i64 a]) ∧ Below w.heap.size w w' := by
  go_enter Try.func21, Try.ntmps21
  go_wp2_with (first | (go_at_call 32; refine (toColor_c _ _ _ _ _).mono ?_; rintro e w1 ⟨rfl, rfl⟩))
  go_returns
  exact ⟨rfl, by go_grown⟩
theorem stop_info : (Try.prog.info? 40).map (fun i => (i.zero, i.size, i.bytes)) = some (some (.agg #[.int .i64 0, .int .i64 0, .int .i64 0, .int .i64 0, .int .i64 0]), 5, 40) := by kernel_rfl
theorem run_make_stops (n : Nat) (hn : n ≤ 1000000000) (w : World) : (Instr.makeSlice 25 (.int .i64 (n : Int)) (.int .i64 (n : Int))).run Try.prog w = .ok (.slice (some ⟨w.heap.size, 0, none⟩) n n) (w.alloc (.cells (madeCells #[.int .i64 0, .int .i64 0, .int .i64 0, .int .i64 0, .int .i64 0] (n * 5)) 40)) := by
  obtain ⟨i0, hi, hz0, hz1, hz2⟩ := info_parts stop_info
  have hr := run_make (P := Try.prog) w 25 40 i0 _ Try.underlying25 hi hz0 .i64 .i64 (n : Int) (n : Int) (by omega) (Int.le_refl _) (by rw [hz2]; omega) (by omega)
  simpa [Int.toNat_natCast, hz1, Value.cells] using hr
theorem row_made5 (n : Nat) (w : World) : Row (w.alloc (.cells (madeCells #[.int .i64 0, .int .i64 0, .int .i64 0, .int .i64 0, .int .i64 0] (n * 5)) 40)) w.heap.size 40 (5 * n) (fun _ => .int .i64 0) := by
  refine ⟨_, heap_alloc_new w _, fun i hi => ?_⟩
  have hi2 : i < n * 5 := by omega
  have hr : i % 5 = 0 ∨ i % 5 = 1 ∨ i % 5 = 2 ∨ i % 5 = 3 ∨ i % 5 = 4 := by omega
  rcases hr with hr | hr | hr | hr | hr <;> simp [madeCells, hi2, hr]
/-- What a call leaves that makes a slice of n stops: their cells zs in a new block. -/
def OwnS (lo hi : Nat) (w : World) (A : Option Addr) (zs : List Int) : Prop :=
  0 < zs.length → ∃ g, A = some ⟨g, 0, none⟩ ∧ lo ≤ g ∧ g < hi ∧ Row w g 40 zs.length (fun i => .int .i64 (nth zs i))
theorem OwnS.ints {lo hi : Nat} {w : World} {A : Option Addr} {zs : List Int} (h : OwnS lo hi w A zs) : Ints w A zs := fun hn => by
  obtain ⟨g, e, h1, h2, hr⟩ := h hn
  exact ⟨g, 0, e, hr.lt, fun i hi => by rw [Nat.zero_add]; exact hr.cell hi⟩
def MadeS (n : Nat) (w : World) (zs : List Int) (e : Ending) (w' : World) : Prop := ∃ (A : Option Addr) (cap : Nat), e = .returned (.slice A n cap) ∧ (n ≤ cap ∧ cap ≤ maxLen) ∧ OwnS w.heap.size w'.heap.size w' A zs ∧ Below w.heap.size w w'
set_option maxHeartbeats 2000000 in
theorem toStopS_c (zs : List Int) (A : Option Addr) (n cap : Nat) (w : World) (h : Ints w A zs) (hn : zs.length = 5 * n) (hm : n ≤ 1000000000) :
    Calls Try.prog 11 #[.slice A n cap] w (MadeS n w zs) := by
  have hmk := run_make_stops n hm
  have HI := Lib.hid h
  clear h
  have hm1 : (n : Int) ≤ 1000000000 := by omega
  have HR := Lib.hid (row_made5 n w)
  go_enter Try.func11, Try.ntmps11
  go_wp2
  clear hmk
  go_loopw [4] (fun i wr => ∃ k : Nat, k ≤ n ∧ i = .int .i64 k ∧ Row wr w.heap.size 40 (5 * n) (fun j => .int .i64 (if j < 5 * k then nth zs j else 0)) ∧ Below w.heap.size w wr) (fun i _ => n - (intOf i).toNat)
  case atStart => exact ⟨0, Nat.zero_le _, rfl, HR.out.congr fun i hi => by simp, by go_grown⟩
  case round =>
    obtain ⟨k, hk, rfl, hrow, hbel⟩ := hrel
    have HRow := Lib.hid hrow
    have HBel := Lib.hid hbel
    have hgl := hrow.lt
    clear hrow hbel
    by_cases hlt : k < n
    · obtain ⟨b, off, rfl, hb, hc⟩ := HI.out (by omega)
      obtain ⟨s0, s1, s2, s3, s4⟩ := five_cells (w := wr) hn (fun i hi => (HBel.out.cell (p := ⟨b, off + i, none⟩) hb).trans (hc i hi)) hlt
      have hbr : b < wr.heap.size := by have := HBel.out.size; omega
      clear hc
      go_wp2_with fail
      refine (toStop_c _ _ _ _ _ _).mono ?_
      rintro e wz ⟨rfl, hbz⟩
      have hrz := HRow.out.back hbz
      have HB2 := Lib.hid (below_then HBel.out hbz)
      have d0 : wz.cell? ⟨w.heap.size, k * 5, none⟩ = some (.int .i64 0) := by
        have := hrz.cell (i := k * 5) (by omega)
        rwa [if_neg (by omega)] at this
      have f0 := hrz.free (k * 5)
      have d1 : wz.cell? ⟨w.heap.size, k * 5 + 1, none⟩ = some (.int .i64 0) := by
        have := hrz.cell (i := k * 5 + 1) (by omega)
        rwa [if_neg (by omega)] at this
      have f1 := hrz.free (k * 5 + 1)
      have d2 : wz.cell? ⟨w.heap.size, k * 5 + 2, none⟩ = some (.int .i64 0) := by
        have := hrz.cell (i := k * 5 + 2) (by omega)
        rwa [if_neg (by omega)] at this
      have f2 := hrz.free (k * 5 + 2)
      have d3 : wz.cell? ⟨w.heap.size, k * 5 + 3, none⟩ = some (.int .i64 0) := by
        have := hrz.cell (i := k * 5 + 3) (by omega)
        rwa [if_neg (by omega)] at this
      have f3 := hrz.free (k * 5 + 3)
      have d4 : wz.cell? ⟨w.heap.size, k * 5 + 4, none⟩ = some (.int .i64 0) := by
        have := hrz.cell (i := k * 5 + 4) (by omega)
        rwa [if_neg (by omega)] at this
      have f4 := hrz.free (k * 5 + 4)
      have HRz := Lib.hid hrz
      clear hrz hbz
      go_wp2
      go_roundw
      case rel =>
        refine ⟨k + 1, by omega, by go_num, ?_, by have hhh := HB2.out; go_grown⟩
        refine (((((HRz.out.set (i := k * 5) (by omega) _).set (i := k * 5 + 1) (by omega) _).set (i := k * 5 + 2) (by omega) _).set (i := k * 5 + 3) (by omega) _).set (i := k * 5 + 4) (by omega) _).congr fun j hj => ?_
        by_cases jj : j < 5 * k
        · rw [if_neg (show ¬ j = k * 5 + 4 by omega)]; rw [if_neg (show ¬ j = k * 5 + 3 by omega)]; rw [if_neg (show ¬ j = k * 5 + 2 by omega)]; rw [if_neg (show ¬ j = k * 5 + 1 by omega)]; rw [if_neg (show ¬ j = k * 5 by omega)]; rw [if_pos jj, if_pos (by omega)]
        · by_cases je : 5 * k + 5 ≤ j
          · rw [if_neg (show ¬ j = k * 5 + 4 by omega)]; rw [if_neg (show ¬ j = k * 5 + 3 by omega)]; rw [if_neg (show ¬ j = k * 5 + 2 by omega)]; rw [if_neg (show ¬ j = k * 5 + 1 by omega)]; rw [if_neg (show ¬ j = k * 5 by omega)]; rw [if_neg jj, if_neg (by omega)]
          · obtain rfl | rfl | rfl | rfl | rfl : j = k * 5 ∨ j = k * 5 + 1 ∨ j = k * 5 + 2 ∨ j = k * 5 + 3 ∨ j = k * 5 + 4 := by omega
            · rw [if_neg (show ¬ k * 5 = k * 5 + 4 by omega)]; rw [if_neg (show ¬ k * 5 = k * 5 + 3 by omega)]; rw [if_neg (show ¬ k * 5 = k * 5 + 2 by omega)]; rw [if_neg (show ¬ k * 5 = k * 5 + 1 by omega)]; rw [if_pos rfl, if_pos (by omega)]; rfl
            · rw [if_neg (show ¬ k * 5 + 1 = k * 5 + 4 by omega)]; rw [if_neg (show ¬ k * 5 + 1 = k * 5 + 3 by omega)]; rw [if_neg (show ¬ k * 5 + 1 = k * 5 + 2 by omega)]; rw [if_pos rfl, if_pos (by omega)]; rfl
            · rw [if_neg (show ¬ k * 5 + 2 = k * 5 + 4 by omega)]; rw [if_neg (show ¬ k * 5 + 2 = k * 5 + 3 by omega)]; rw [if_pos rfl, if_pos (by omega)]; rfl
            · rw [if_neg (show ¬ k * 5 + 3 = k * 5 + 4 by omega)]; rw [if_pos rfl, if_pos (by omega)]; rfl
            · rw [if_pos rfl, if_pos (by omega)]; rfl
      case measure => simp [intOf]; omega
    · obtain rfl : k = n := by omega
      go_wp2
      go_ret
      refine ⟨some ⟨w.heap.size, 0, none⟩, k, rfl, ⟨Nat.le_refl _, by unfold maxLen; omega⟩, fun hn0 => ⟨w.heap.size, rfl, Nat.le_refl _, HRow.out.lt, ?_⟩, HBel.out⟩
      rw [hn]
      exact HRow.out.congr fun i hi => by rw [if_pos (by omega)]
end Go.Proofs.Ytkihbfohdennjaa
