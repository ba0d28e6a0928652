/-
  Which stops the program calls valid. (Conditions: the bounds of each theorem.)
-/
import Derived.Test.YtkihbfohdennjaaStopM
import Derived.Test.YtkihbfohdennjaaOwn
import Derived.Handy
namespace Go.Proofs.Ytkihbfohdennjaa
open Go.RowKit
set_option linter.unusedSimpArgs false
set_option linter.unusedVariables false

/-- Element k of a slice of stops. -/
theorem five_cells {w : World} {b off n : Nat} {zs : List Int} (hl : zs.length = 5 * n) (hc : ∀ i, i < zs.length → w.cell? ⟨b, off + i, none⟩ = some (.int .i64 (nth zs i))) {k : Nat} (hk : k < n) :
    w.cell? ⟨b, off + k * 5, none⟩ = some (.int .i64 (sAt zs k)) ∧ w.cell? ⟨b, off + k * 5 + 1, none⟩ = some (.int .i64 (sR zs k)) ∧ w.cell? ⟨b, off + k * 5 + 2, none⟩ = some (.int .i64 (sG zs k)) ∧ w.cell? ⟨b, off + k * 5 + 3, none⟩ = some (.int .i64 (sB zs k)) ∧ w.cell? ⟨b, off + k * 5 + 4, none⟩ = some (.int .i64 (sA zs k)) :=
  ⟨hc (k * 5) (by omega), hc (k * 5 + 1) (by omega), hc (k * 5 + 2) (by omega), hc (k * 5 + 3) (by omega), hc (k * 5 + 4) (by omega)⟩
theorem stop_no1 {zs : List Int} {k : Nat} (h : inB (sAt zs k) (prevAt zs k + 1) 256 = false) : stopB zs k = false := by simp [stopB, h]
theorem stop_no2 {zs : List Int} {k : Nat} (h : colAt zs k = false) : stopB zs k = false := by simp [stopB, h]
theorem stop_yes {zs : List Int} {k : Nat} (h : inB (sAt zs k) (prevAt zs k + 1) 256 = true) (h2 : colAt zs k = true) : stopB zs k = true := by simp [stopB, h, h2]
theorem stopsB_no {zs : List Int} {n k : Nat} (hk : k < n) (h : stopB zs k = false) : stopsB zs n = false := by unfold stopsB; rw [allS_no hk h, Bool.false_and]
theorem stopsB_all {zs : List Int} {n : Nat} (h : allS zs n = true) : stopsB zs n = inB (n : Int) 1 4 := by unfold stopsB; rw [h, Bool.true_and]
set_option maxHeartbeats 2000000 in
theorem ValidStops_i (zs : List Int) (A : Option Addr) (n cap : Nat) (w : World) (h : Ints w A zs) (hn : zs.length = 5 * n) (hm : n ≤ 1000000000000) :
    Calls Try.prog 12 #[.slice A n cap] w fun e w' => e = .returned (.bool (stopsB zs n)) ∧ Below w.heap.size w w' := by
  have HI := Lib.hid h
  have hm1 : (n : Int) ≤ 1000000000000 := by omega
  clear h
  go_enter Try.func12, Try.ntmps12
  go_wp2
  go_loopw [3, 8] (fun l i wr => ∃ k : Nat, k ≤ n ∧ i = .int .i64 k ∧ l = .int .i64 (prevAt zs k) ∧ allS zs k = true ∧ Below w.heap.size w wr) (fun _ i _ => n - (intOf i).toNat)
  case atStart => exact ⟨0, Nat.zero_le _, rfl, rfl, rfl, Below.refl _ _⟩
  case round =>
    obtain ⟨k, hk, rfl, rfl, hall, hbel⟩ := hrel
    have HAll := Lib.hid hall
    have HBel := Lib.hid hbel
    have hsr := hbel.size
    obtain ⟨p1, p2⟩ := prev_bd hall
    clear hall hbel
    by_cases hlt : k < n
    · obtain ⟨bb, off, rfl, hbb, hcc⟩ := HI.out (by omega)
      obtain ⟨s0, s1, s2, s3, s4⟩ := five_cells (w := wr) hn (fun i hi => (HBel.out.cell (p := ⟨bb, off + i, none⟩) hbb).trans (hcc i hi)) hlt
      have hbr : bb < wr.heap.size := by omega
      clear hcc
      cases h1 : inB (sAt zs k) (prevAt zs k + 1) 256
      · have HN := Lib.hid (stopsB_no hlt (stop_no1 h1))
        go_wp2_with (first | (go_at_call 22; refine (in_c _ _ _ _).mono ?_; rintro e w' ⟨rfl, rfl⟩) | (go_at_call 19; refine (ValidColor_i _ _ _ _ _).mono ?_; rintro e w1 ⟨rfl, rfl⟩))
        go_ret
        exact ⟨ret_b HN.out.symm, by have hhh := HBel.out; go_grown⟩
      cases h2 : colAt zs k
      · have HN := Lib.hid (stopsB_no hlt (stop_no2 h2))
        have hc : colB (sR zs k) (sG zs k) (sB zs k) (sA zs k) = false := h2
        go_wp2_with (first | (go_at_call 22; refine (in_c _ _ _ _).mono ?_; rintro e w' ⟨rfl, rfl⟩) | (go_at_call 19; refine (ValidColor_i _ _ _ _ _).mono ?_; rintro e w1 ⟨rfl, rfl⟩))
        go_ret
        exact ⟨ret_b HN.out.symm, by have hhh := HBel.out; go_grown⟩
      · have HY := Lib.hid (show allS zs (k + 1) = true by simp only [allS, HAll.out, stop_yes h1 h2, Bool.and_self])
        have hc : colB (sR zs k) (sG zs k) (sB zs k) (sA zs k) = true := h2
        go_wp2_with (first | (go_at_call 22; refine (in_c _ _ _ _).mono ?_; rintro e w' ⟨rfl, rfl⟩) | (go_at_call 19; refine (ValidColor_i _ _ _ _ _).mono ?_; rintro e w1 ⟨rfl, rfl⟩))
        go_roundw
        case rel => exact ⟨k + 1, by omega, by go_num, rfl, HY.out, by have hhh := HBel.out; go_grown⟩
        case measure => simp [intOf]; omega
    · obtain rfl : k = n := by omega
      have HN := Lib.hid (stopsB_all HAll.out)
      go_wp2_with (first | (go_at_call 22; refine (in_c _ _ _ _).mono ?_; rintro e w' ⟨rfl, rfl⟩))
      go_ret
      exact ⟨ret_b HN.out.symm, HBel.out⟩
end Go.Proofs.Ytkihbfohdennjaa
