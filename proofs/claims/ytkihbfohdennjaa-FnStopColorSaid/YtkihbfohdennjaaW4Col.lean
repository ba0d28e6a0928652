/-
  The walk of FnStopColor: it returns true for every code.
-/
import Derived.Test.YtkihbfohdennjaaStopCV
import Derived.Test.YtkihbfohdennjaaW4LValid
import Derived.Deep.RegionHeld3
import Derived.Deep.DrawnRows
import Derived.Deep.DeepCutAuto
namespace Go.Proofs.Ytkihbfohdennjaa
open Go.RowKit
set_option linter.unusedSimpArgs false
set_option linter.unusedVariables false

attribute [local go_sem ↓] Go.wp_at_zero Go.wp_at_succ
theorem vC_valid {zs : List Int} {n p : Nat} {t : Int} (h : StopsOK zs n) (hp : Place zs n t p) : colB (vC (sR zs) zs n p t) (vC (sG zs) zs n p t) (vC (sB zs) zs n p t) (vC (sA zs) zs n p t) = true := by
  have hn := h.n1
  have hle := hp.le
  by_cases e0 : p = 0
  · subst e0; rw [vC_zero, vC_zero, vC_zero, vC_zero]; exact h.col 0 (by omega)
  by_cases e1 : p = n
  · subst e1; rw [vC_last _ _ hn, vC_last _ _ hn, vC_last _ _ hn, vC_last _ _ hn]; exact h.col _ (by omega)
  · obtain ⟨i, rfl⟩ : ∃ i, p = i + 1 := ⟨p - 1, by omega⟩
    have hi : i + 1 < n := by omega
    have hb := mid_bd h hi (Int.le_of_lt (hp.bef i (by omega))) (hp.aft hi)
    rw [vC_mid _ _ hi, vC_mid _ _ hi, vC_mid _ _ hi, vC_mid _ _ hi]
    exact mx_valid hb.1 hb.2 (h.col i (by omega)) (h.col (i + 1) hi)
set_option maxHeartbeats 8000000 in
theorem walk_FnStopColor (w : World) (a0 : Option Addr) (len0 cap0 : Nat) (z0 : List Int) (w0 : IsRow .u8 w a0 len0 cap0 z0) :
    Calls Try.prog 6 #[.slice a0 len0 cap0] w fun e w' => e = .returned (.bool true) ∧ Below w.heap.size w w' := by
  have HC := Lib.hid w0.code
  clear w0
  by_cases hl : 1048576 < len0
  · have hl2 : (1048576 : Int) < (len0 : Int) := by omega
    go_enter Try.func6, Try.ntmps6
    go_wp2
    go_ret
    exact ⟨rfl, Below.refl _ _⟩
  have hl2 : ¬ (1048576 : Int) < (len0 : Int) := by omega
  go_enter Try.func6, Try.ntmps6
  go_wp2_with fail
  refine (DrawStopColor_c _ _ _ _ HC.out).mono ?_
  rintro e w1 ⟨zs, A1, cap1, n, t, hn5, hzl, hca, hcb, t0, t1, rfl, hi1, hb1⟩
  have HM := Lib.hid hi1
  have HB := Lib.hid hb1
  have HCM := Lib.hid hcb
  have hcb2 := hcb
  unfold maxLen at hcb2
  clear hi1 hb1 hcb
  obtain ⟨p, hp⟩ := place_ex zs n t
  have HP := Lib.hid hp
  have hm : n ≤ 1000000000000 := by omega
  clear hp
  cases hv : stopsB zs n
  · go_wp2_with fail
    refine (StopColor_iF hv _ _ _ _ HM.out hzl hca HCM.out hm p HP.out).mono ?_
    rintro e w2 ⟨rfl, hbq⟩
    have hb := (show Below w1.heap.size w1 w2 from below_then (by go_grown) hbq)
    clear hbq
    have HM_ := Lib.hid (show Ints w2 A1 zs from HM.out.below hb)
    clear HM
    have HM := HM_
    clear HM_
    have HB_ := Lib.hid (show Below w.heap.size w w2 from below_then HB.out hb)
    clear HB
    have HB := HB_
    clear HB_
    have hsw2 := hb.size
    clear hb
    have BB := Lib.hid (Below.refl w2.heap.size w2)
    have hj0 := HM.out
    go_wp2_with fail
    refine wp_region_held_drew (S := fun w' => w'.cell? ⟨w2.heap.size, 0, none⟩ = some (.int .i64 0) ∧ w'.cell? ⟨w2.heap.size, 1, none⟩ = some (.int .i64 0) ∧ w'.cell? ⟨w2.heap.size, 2, none⟩ = some (.int .i64 0) ∧ w'.cell? ⟨w2.heap.size, 3, none⟩ = some (.int .i64 0) ∧ Ints w' A1 zs) (by kernel_rfl) ?_ (fun hHeld => ?_)
    · (try dsimp only)
      first | (((repeat' apply And.intro) <;> (first | ((repeat (first | (with_reducible assumption) | (with_reducible refine cell_keepD ?_) | (with_reducible refine cell_keepA ?_ _) | (with_reducible refine (hc1 _ _ (by go_size)).trans ?_) | (with_reducible refine ints_back ?_ hbz) | (with_reducible refine Ints.alloc ?_ _) | (with_reducible refine Ints.drew ?_))); done) | (go_cell; done)))) | fail
    first
      | (refine wpAnyH_take (i := 0) (v := ?_) rfl (by kernel_rfl) (by kernel_rfl) (by kernel_rfl) (fun _ _ _ h => h) (Or.inl ⟨by rfl, ?_⟩) (by assumption) ?_; rotate_left; · ((intro w hSw; (try dsimp only at hSw); go_simp); first | done | (with_reducible rfl)))
      | (refine wpAnyH_take (i := 0) (v := undef) rfl (by kernel_rfl) (by kernel_rfl) (by kernel_rfl) (fun _ _ _ h => h) (Or.inr ⟨by rfl, rfl⟩) (by assumption) ?_)
    (try simp only [Act.put, List.getElem_toArray, List.getElem_cons_zero, List.getElem_cons_succ, List.setIfInBounds_toArray, List.set_cons_zero, List.set_cons_succ])
    first
      | (refine wpAnyH_take (i := 1) (v := ?_) rfl (by kernel_rfl) (by kernel_rfl) (by kernel_rfl) (fun _ _ _ h => h) (Or.inl ⟨by rfl, ?_⟩) (by assumption) ?_; rotate_left; · ((intro w hSw; (try dsimp only at hSw); go_simp); first | done | (with_reducible rfl)))
      | (refine wpAnyH_take (i := 1) (v := undef) rfl (by kernel_rfl) (by kernel_rfl) (by kernel_rfl) (fun _ _ _ h => h) (Or.inr ⟨by rfl, rfl⟩) (by assumption) ?_)
    (try simp only [Act.put, List.getElem_toArray, List.getElem_cons_zero, List.getElem_cons_succ, List.setIfInBounds_toArray, List.set_cons_zero, List.set_cons_succ])
    first
      | (refine wpAnyH_take (i := 2) (v := ?_) rfl (by kernel_rfl) (by kernel_rfl) (by kernel_rfl) (fun _ _ _ h => h) (Or.inl ⟨by rfl, ?_⟩) (by assumption) ?_; rotate_left; · ((intro w hSw; (try dsimp only at hSw); go_simp); first | done | (with_reducible rfl)))
      | (refine wpAnyH_take (i := 2) (v := undef) rfl (by kernel_rfl) (by kernel_rfl) (by kernel_rfl) (fun _ _ _ h => h) (Or.inr ⟨by rfl, rfl⟩) (by assumption) ?_)
    (try simp only [Act.put, List.getElem_toArray, List.getElem_cons_zero, List.getElem_cons_succ, List.setIfInBounds_toArray, List.set_cons_zero, List.set_cons_succ])
    refine wpAnyH_ready (rs := [3]) (by kernel_rfl) (by simp) (AllReadyH.cons rfl (fun K hK => ?_) AllReadyH.nil)
    (try go_simp)
    first
      | (refine hK.out _ _ ?_ (fun hNew => ?_))
      | (((first | (go_at_call 14; refine (StopColor_sF hv _ _ _ _ hHeld.2.2.2.2 hzl hca HCM.out hm p HP.out).mono ?_; rintro e w3 ⟨rfl, hbz⟩; obtain ⟨hc1, hf1⟩ := bcell hbz; have hz1 := hbz.size; (try simp only [World.size_alloc, World.size_setCell, World.size_drew] at hz1); have z0w3 : w2.heap.size < w3.heap.size := (by omega); have BB_ := Lib.hid (show Below w2.heap.size w2 w3 from below_then (by have hhh := BB.out; go_grown) hbz); clear BB; have BB := BB_; clear BB_) | (go_at_call 12; refine (ValidStops_iF hv _ _ _ hHeld.2.2.2.2 hzl hm).mono ?_; rintro e w4 ⟨rfl, hbz⟩; obtain ⟨hc1, hf1⟩ := bcell hbz; have hz1 := hbz.size; (try simp only [World.size_alloc, World.size_setCell, World.size_drew] at hz1); have z0w4 : w2.heap.size < w4.heap.size := (by omega); have BB_ := Lib.hid (show Below w2.heap.size w2 w4 from below_then (by have hhh := BB.out; go_grown) hbz); clear BB; have BB := BB_; clear BB_))); (try go_wp2_with fail); (refine hK.out _ _ ?_ (fun hNew => ?_)))
      | fail
    · (try dsimp only)
      first | ((try go_split_ands); (((repeat' apply And.intro) <;> (first | ((repeat (first | (with_reducible assumption) | (with_reducible refine cell_keepD ?_) | (with_reducible refine cell_keepA ?_ _) | (with_reducible refine (hc1 _ _ (by go_size)).trans ?_) | (with_reducible refine ints_back ?_ hbz) | (with_reducible refine Ints.alloc ?_ _) | (with_reducible refine Ints.drew ?_))); done) | (go_cell; done))))) | fail
    clear hK K hHeld
    have hHeld := hNew
    clear hNew
    (try clear hc1)
    (try clear hf1)
    (try simp only [Act.put, List.getElem_toArray, List.getElem_cons_zero, List.getElem_cons_succ, List.setIfInBounds_toArray, List.set_cons_zero, List.set_cons_succ])
    first
      | (refine wpAnyH_take (i := 4) (v := ?_) rfl (by kernel_rfl) (by kernel_rfl) (by kernel_rfl) (fun _ _ _ h => h) (Or.inl ⟨by rfl, ?_⟩) (by assumption) ?_; rotate_left; · ((intro w hSw; (try dsimp only at hSw); go_simp); first | done | (with_reducible rfl)))
      | (refine wpAnyH_take (i := 4) (v := undef) rfl (by kernel_rfl) (by kernel_rfl) (by kernel_rfl) (fun _ _ _ h => h) (Or.inr ⟨by rfl, rfl⟩) (by assumption) ?_)
    (try simp only [Act.put, List.getElem_toArray, List.getElem_cons_zero, List.getElem_cons_succ, List.setIfInBounds_toArray, List.set_cons_zero, List.set_cons_succ])
    first
      | (refine wpAnyH_take (i := 5) (v := ?_) rfl (by kernel_rfl) (by kernel_rfl) (by kernel_rfl) (fun _ _ _ h => h) (Or.inl ⟨by rfl, ?_⟩) (by assumption) ?_; rotate_left; · ((intro w hSw; (try dsimp only at hSw); go_simp); first | done | (with_reducible rfl)))
      | (refine wpAnyH_take (i := 5) (v := undef) rfl (by kernel_rfl) (by kernel_rfl) (by kernel_rfl) (fun _ _ _ h => h) (Or.inr ⟨by rfl, rfl⟩) (by assumption) ?_)
    (try simp only [Act.put, List.getElem_toArray, List.getElem_cons_zero, List.getElem_cons_succ, List.setIfInBounds_toArray, List.set_cons_zero, List.set_cons_succ])
    first
      | (refine wpAnyH_take (i := 6) (v := ?_) rfl (by kernel_rfl) (by kernel_rfl) (by kernel_rfl) (fun _ _ _ h => h) (Or.inl ⟨by rfl, ?_⟩) (by assumption) ?_; rotate_left; · ((intro w hSw; (try dsimp only at hSw); go_simp); first | done | (with_reducible rfl)))
      | (refine wpAnyH_take (i := 6) (v := undef) rfl (by kernel_rfl) (by kernel_rfl) (by kernel_rfl) (fun _ _ _ h => h) (Or.inr ⟨by rfl, rfl⟩) (by assumption) ?_)
    (try simp only [Act.put, List.getElem_toArray, List.getElem_cons_zero, List.getElem_cons_succ, List.setIfInBounds_toArray, List.set_cons_zero, List.set_cons_succ])
    refine wpAnyH_ready (rs := [7]) (by kernel_rfl) (by simp) (AllReadyH.cons rfl (fun K hK => ?_) AllReadyH.nil)
    (try go_simp)
    first
      | (refine hK.out _ _ ?_ (fun hNew => ?_))
      | (((first | (go_at_call 14; refine (StopColor_sF hv _ _ _ _ hHeld.2.2.2.2 hzl hca HCM.out hm p HP.out).mono ?_; rintro e w3 ⟨rfl, hbz⟩; obtain ⟨hc1, hf1⟩ := bcell hbz; have hz1 := hbz.size; (try simp only [World.size_alloc, World.size_setCell, World.size_drew] at hz1); have z0w3 : w2.heap.size < w3.heap.size := (by omega); have BB_ := Lib.hid (show Below w2.heap.size w2 w3 from below_then (by have hhh := BB.out; go_grown) hbz); clear BB; have BB := BB_; clear BB_) | (go_at_call 12; refine (ValidStops_iF hv _ _ _ hHeld.2.2.2.2 hzl hm).mono ?_; rintro e w4 ⟨rfl, hbz⟩; obtain ⟨hc1, hf1⟩ := bcell hbz; have hz1 := hbz.size; (try simp only [World.size_alloc, World.size_setCell, World.size_drew] at hz1); have z0w4 : w2.heap.size < w4.heap.size := (by omega); have BB_ := Lib.hid (show Below w2.heap.size w2 w4 from below_then (by have hhh := BB.out; go_grown) hbz); clear BB; have BB := BB_; clear BB_))); (try go_wp2_with fail); (refine hK.out _ _ ?_ (fun hNew => ?_)))
      | fail
    · (try dsimp only)
      first | ((try go_split_ands); (((repeat' apply And.intro) <;> (first | ((repeat (first | (with_reducible assumption) | (with_reducible refine cell_keepD ?_) | (with_reducible refine cell_keepA ?_ _) | (with_reducible refine (hc1 _ _ (by go_size)).trans ?_) | (with_reducible refine ints_back ?_ hbz) | (with_reducible refine Ints.alloc ?_ _) | (with_reducible refine Ints.drew ?_))); done) | (go_cell; done))))) | fail
    clear hK K hHeld
    have hHeld := hNew
    clear hNew
    (try clear hc1)
    (try clear hf1)
    (try simp only [Act.put, List.getElem_toArray, List.getElem_cons_zero, List.getElem_cons_succ, List.setIfInBounds_toArray, List.set_cons_zero, List.set_cons_succ])
    first
      | (refine wpAnyH_take (i := 8) (v := ?_) rfl (by kernel_rfl) (by kernel_rfl) (by kernel_rfl) (fun _ _ _ h => h) (Or.inl ⟨by rfl, ?_⟩) (by assumption) ?_; rotate_left; · ((intro w hSw; (try dsimp only at hSw); go_simp); first | done | (with_reducible rfl)))
      | (refine wpAnyH_take (i := 8) (v := undef) rfl (by kernel_rfl) (by kernel_rfl) (by kernel_rfl) (fun _ _ _ h => h) (Or.inr ⟨by rfl, rfl⟩) (by assumption) ?_)
    (try simp only [Act.put, List.getElem_toArray, List.getElem_cons_zero, List.getElem_cons_succ, List.setIfInBounds_toArray, List.set_cons_zero, List.set_cons_succ])
    first
      | (refine wpAnyH_take (i := 9) (v := ?_) rfl (by kernel_rfl) (by kernel_rfl) (by kernel_rfl) (fun _ _ _ h => h) (Or.inl ⟨by rfl, ?_⟩) (by assumption) ?_; rotate_left; · ((intro w hSw; (try dsimp only at hSw); go_simp); first | done | (with_reducible rfl)))
      | (refine wpAnyH_take (i := 9) (v := undef) rfl (by kernel_rfl) (by kernel_rfl) (by kernel_rfl) (fun _ _ _ h => h) (Or.inr ⟨by rfl, rfl⟩) (by assumption) ?_)
    (try simp only [Act.put, List.getElem_toArray, List.getElem_cons_zero, List.getElem_cons_succ, List.setIfInBounds_toArray, List.set_cons_zero, List.set_cons_succ])
    (try dsimp only at hHeld)
    obtain ⟨s5_0, s5_1, s5_2, s5_3, s5_4⟩ := hHeld
    refine wpAnyH_done (by kernel_rfl) ?_ _
    have hb := BB.out
    clear BB hj0
    have HM_ := Lib.hid (show Ints w4 A1 zs from HM.out.below hb)
    clear HM
    have HM := HM_
    clear HM_
    have HB_ := Lib.hid (show Below w.heap.size w w4 from below_then HB.out hb)
    clear HB
    have HB := HB_
    clear HB_
    have hsw4 := hb.size
    clear hb
    have BB := Lib.hid (Below.refl w4.heap.size w4)
    have hj0 := HM.out
    go_wp2_with fail
    refine wp_region_held_drew (S := fun w' => w'.cell? ⟨w2.heap.size, 0, none⟩ = some (.int .i64 0) ∧ w'.cell? ⟨w2.heap.size, 1, none⟩ = some (.int .i64 0) ∧ w'.cell? ⟨w2.heap.size, 2, none⟩ = some (.int .i64 0) ∧ w'.cell? ⟨w2.heap.size, 3, none⟩ = some (.int .i64 0) ∧ Ints w' A1 zs) (by kernel_rfl) ?_ (fun hHeld => ?_)
    · (try dsimp only)
      first | (((repeat' apply And.intro) <;> (first | ((repeat (first | (with_reducible assumption) | (with_reducible refine cell_keepD ?_) | (with_reducible refine cell_keepA ?_ _) | (with_reducible refine (hc1 _ _ (by go_size)).trans ?_) | (with_reducible refine ints_back ?_ hbz) | (with_reducible refine Ints.alloc ?_ _) | (with_reducible refine Ints.drew ?_))); done) | (go_cell; done)))) | fail
    first
      | (refine wpAnyH_take (i := 0) (v := ?_) rfl (by kernel_rfl) (by kernel_rfl) (by kernel_rfl) (fun _ _ _ h => h) (Or.inl ⟨by rfl, ?_⟩) (by assumption) ?_; rotate_left; · ((intro w hSw; (try dsimp only at hSw); go_simp); first | done | (with_reducible rfl)))
      | (refine wpAnyH_take (i := 0) (v := undef) rfl (by kernel_rfl) (by kernel_rfl) (by kernel_rfl) (fun _ _ _ h => h) (Or.inr ⟨by rfl, rfl⟩) (by assumption) ?_)
    (try simp only [Act.put, List.getElem_toArray, List.getElem_cons_zero, List.getElem_cons_succ, List.setIfInBounds_toArray, List.set_cons_zero, List.set_cons_succ])
    first
      | (refine wpAnyH_take (i := 1) (v := ?_) rfl (by kernel_rfl) (by kernel_rfl) (by kernel_rfl) (fun _ _ _ h => h) (Or.inl ⟨by rfl, ?_⟩) (by assumption) ?_; rotate_left; · ((intro w hSw; (try dsimp only at hSw); go_simp); first | done | (with_reducible rfl)))
      | (refine wpAnyH_take (i := 1) (v := undef) rfl (by kernel_rfl) (by kernel_rfl) (by kernel_rfl) (fun _ _ _ h => h) (Or.inr ⟨by rfl, rfl⟩) (by assumption) ?_)
    (try simp only [Act.put, List.getElem_toArray, List.getElem_cons_zero, List.getElem_cons_succ, List.setIfInBounds_toArray, List.set_cons_zero, List.set_cons_succ])
    first
      | (refine wpAnyH_take (i := 2) (v := ?_) rfl (by kernel_rfl) (by kernel_rfl) (by kernel_rfl) (fun _ _ _ h => h) (Or.inl ⟨by rfl, ?_⟩) (by assumption) ?_; rotate_left; · ((intro w hSw; (try dsimp only at hSw); go_simp); first | done | (with_reducible rfl)))
      | (refine wpAnyH_take (i := 2) (v := undef) rfl (by kernel_rfl) (by kernel_rfl) (by kernel_rfl) (fun _ _ _ h => h) (Or.inr ⟨by rfl, rfl⟩) (by assumption) ?_)
    (try simp only [Act.put, List.getElem_toArray, List.getElem_cons_zero, List.getElem_cons_succ, List.setIfInBounds_toArray, List.set_cons_zero, List.set_cons_succ])
    refine wpAnyH_ready (rs := [3]) (by kernel_rfl) (by simp) (AllReadyH.cons rfl (fun K hK => ?_) AllReadyH.nil)
    (try go_simp)
    first
      | (refine hK.out _ _ ?_ (fun hNew => ?_))
      | (((first | (go_at_call 14; refine (StopColor_sF hv _ _ _ _ hHeld.2.2.2.2 hzl hca HCM.out hm p HP.out).mono ?_; rintro e w5 ⟨rfl, hbz⟩; obtain ⟨hc1, hf1⟩ := bcell hbz; have hz1 := hbz.size; (try simp only [World.size_alloc, World.size_setCell, World.size_drew] at hz1); have z0w5 : w2.heap.size < w5.heap.size := (by omega); have BB_ := Lib.hid (show Below w4.heap.size w4 w5 from below_then (by have hhh := BB.out; go_grown) hbz); clear BB; have BB := BB_; clear BB_))); (try go_wp2_with fail); (refine hK.out _ _ ?_ (fun hNew => ?_)))
      | fail
    · (try dsimp only)
      first | ((try go_split_ands); (((repeat' apply And.intro) <;> (first | ((repeat (first | (with_reducible assumption) | (with_reducible refine cell_keepD ?_) | (with_reducible refine cell_keepA ?_ _) | (with_reducible refine (hc1 _ _ (by go_size)).trans ?_) | (with_reducible refine ints_back ?_ hbz) | (with_reducible refine Ints.alloc ?_ _) | (with_reducible refine Ints.drew ?_))); done) | (go_cell; done))))) | fail
    clear hK K hHeld
    have hHeld := hNew
    clear hNew
    (try clear hc1)
    (try clear hf1)
    (try simp only [Act.put, List.getElem_toArray, List.getElem_cons_zero, List.getElem_cons_succ, List.setIfInBounds_toArray, List.set_cons_zero, List.set_cons_succ])
    first
      | (refine wpAnyH_take (i := 4) (v := ?_) rfl (by kernel_rfl) (by kernel_rfl) (by kernel_rfl) (fun _ _ _ h => h) (Or.inl ⟨by rfl, ?_⟩) (by assumption) ?_; rotate_left; · ((intro w hSw; (try dsimp only at hSw); go_simp); first | done | (with_reducible rfl)))
      | (refine wpAnyH_take (i := 4) (v := undef) rfl (by kernel_rfl) (by kernel_rfl) (by kernel_rfl) (fun _ _ _ h => h) (Or.inr ⟨by rfl, rfl⟩) (by assumption) ?_)
    (try simp only [Act.put, List.getElem_toArray, List.getElem_cons_zero, List.getElem_cons_succ, List.setIfInBounds_toArray, List.set_cons_zero, List.set_cons_succ])
    first
      | (refine wpAnyH_take (i := 5) (v := ?_) rfl (by kernel_rfl) (by kernel_rfl) (by kernel_rfl) (fun _ _ _ h => h) (Or.inl ⟨by rfl, ?_⟩) (by assumption) ?_; rotate_left; · ((intro w hSw; (try dsimp only at hSw); go_simp); first | done | (with_reducible rfl)))
      | (refine wpAnyH_take (i := 5) (v := undef) rfl (by kernel_rfl) (by kernel_rfl) (by kernel_rfl) (fun _ _ _ h => h) (Or.inr ⟨by rfl, rfl⟩) (by assumption) ?_)
    (try simp only [Act.put, List.getElem_toArray, List.getElem_cons_zero, List.getElem_cons_succ, List.setIfInBounds_toArray, List.set_cons_zero, List.set_cons_succ])
    (try dsimp only at hHeld)
    obtain ⟨s6_0, s6_1, s6_2, s6_3, s6_4⟩ := hHeld
    refine wpAnyH_done (by kernel_rfl) ?_ _
    have hb := BB.out
    clear BB hj0
    have HM_ := Lib.hid (show Ints w5 A1 zs from HM.out.below hb)
    clear HM
    have HM := HM_
    clear HM_
    have HB_ := Lib.hid (show Below w.heap.size w w5 from below_then HB.out hb)
    clear HB
    have HB := HB_
    clear HB_
    have hsw5 := hb.size
    clear hb
    go_wp2
    go_ret
    exact ⟨ret_b (by first | rfl | simp), HB.out⟩
  go_wp2_with fail
  refine (StopColor_iT hv _ _ _ _ HM.out hzl hca HCM.out hm p HP.out).mono ?_
  rintro e w2 ⟨rfl, hbq⟩
  have hb := (show Below w1.heap.size w1 w2 from below_then (by go_grown) hbq)
  clear hbq
  have HM_ := Lib.hid (show Ints w2 A1 zs from HM.out.below hb)
  clear HM
  have HM := HM_
  clear HM_
  have HB_ := Lib.hid (show Below w.heap.size w w2 from below_then HB.out hb)
  clear HB
  have HB := HB_
  clear HB_
  have hsw2 := hb.size
  clear hb
  have BB := Lib.hid (Below.refl w2.heap.size w2)
  have hj0 := HM.out
  go_wp2_with fail
  refine wp_region_held_drew (S := fun w' => w'.cell? ⟨w2.heap.size, 0, none⟩ = some (.int .i64 (vC (sR zs) zs n p t)) ∧ w'.cell? ⟨w2.heap.size, 1, none⟩ = some (.int .i64 (vC (sG zs) zs n p t)) ∧ w'.cell? ⟨w2.heap.size, 2, none⟩ = some (.int .i64 (vC (sB zs) zs n p t)) ∧ w'.cell? ⟨w2.heap.size, 3, none⟩ = some (.int .i64 (vC (sA zs) zs n p t)) ∧ Ints w' A1 zs) (by kernel_rfl) ?_ (fun hHeld => ?_)
  · (try dsimp only)
    first | (((repeat' apply And.intro) <;> (first | ((repeat (first | (with_reducible assumption) | (with_reducible refine cell_keepD ?_) | (with_reducible refine cell_keepA ?_ _) | (with_reducible refine (hc1 _ _ (by go_size)).trans ?_) | (with_reducible refine ints_back ?_ hbz) | (with_reducible refine Ints.alloc ?_ _) | (with_reducible refine Ints.drew ?_))); done) | (go_cell; done)))) | fail
  first
    | (refine wpAnyH_take (i := 0) (v := ?_) rfl (by kernel_rfl) (by kernel_rfl) (by kernel_rfl) (fun _ _ _ h => h) (Or.inl ⟨by rfl, ?_⟩) (by assumption) ?_; rotate_left; · ((intro w hSw; (try dsimp only at hSw); go_simp); first | done | (with_reducible rfl)))
    | (refine wpAnyH_take (i := 0) (v := undef) rfl (by kernel_rfl) (by kernel_rfl) (by kernel_rfl) (fun _ _ _ h => h) (Or.inr ⟨by rfl, rfl⟩) (by assumption) ?_)
  (try simp only [Act.put, List.getElem_toArray, List.getElem_cons_zero, List.getElem_cons_succ, List.setIfInBounds_toArray, List.set_cons_zero, List.set_cons_succ])
  first
    | (refine wpAnyH_take (i := 1) (v := ?_) rfl (by kernel_rfl) (by kernel_rfl) (by kernel_rfl) (fun _ _ _ h => h) (Or.inl ⟨by rfl, ?_⟩) (by assumption) ?_; rotate_left; · ((intro w hSw; (try dsimp only at hSw); go_simp); first | done | (with_reducible rfl)))
    | (refine wpAnyH_take (i := 1) (v := undef) rfl (by kernel_rfl) (by kernel_rfl) (by kernel_rfl) (fun _ _ _ h => h) (Or.inr ⟨by rfl, rfl⟩) (by assumption) ?_)
  (try simp only [Act.put, List.getElem_toArray, List.getElem_cons_zero, List.getElem_cons_succ, List.setIfInBounds_toArray, List.set_cons_zero, List.set_cons_succ])
  first
    | (refine wpAnyH_take (i := 2) (v := ?_) rfl (by kernel_rfl) (by kernel_rfl) (by kernel_rfl) (fun _ _ _ h => h) (Or.inl ⟨by rfl, ?_⟩) (by assumption) ?_; rotate_left; · ((intro w hSw; (try dsimp only at hSw); go_simp); first | done | (with_reducible rfl)))
    | (refine wpAnyH_take (i := 2) (v := undef) rfl (by kernel_rfl) (by kernel_rfl) (by kernel_rfl) (fun _ _ _ h => h) (Or.inr ⟨by rfl, rfl⟩) (by assumption) ?_)
  (try simp only [Act.put, List.getElem_toArray, List.getElem_cons_zero, List.getElem_cons_succ, List.setIfInBounds_toArray, List.set_cons_zero, List.set_cons_succ])
  refine wpAnyH_ready (rs := [3]) (by kernel_rfl) (by simp) (AllReadyH.cons rfl (fun K hK => ?_) AllReadyH.nil)
  (try go_simp)
  first
    | (refine hK.out _ _ ?_ (fun hNew => ?_))
    | (((first | (go_at_call 14; refine (StopColor_sT hv _ _ _ _ hHeld.2.2.2.2 hzl hca HCM.out hm p HP.out).mono ?_; rintro e w3 ⟨rfl, hbz⟩; obtain ⟨hc1, hf1⟩ := bcell hbz; have hz1 := hbz.size; (try simp only [World.size_alloc, World.size_setCell, World.size_drew] at hz1); have z0w3 : w2.heap.size < w3.heap.size := (by omega); have BB_ := Lib.hid (show Below w2.heap.size w2 w3 from below_then (by have hhh := BB.out; go_grown) hbz); clear BB; have BB := BB_; clear BB_) | (go_at_call 12; refine (ValidStops_iT hv _ _ _ hHeld.2.2.2.2 hzl hm).mono ?_; rintro e w4 ⟨rfl, hbz⟩; obtain ⟨hc1, hf1⟩ := bcell hbz; have hz1 := hbz.size; (try simp only [World.size_alloc, World.size_setCell, World.size_drew] at hz1); have z0w4 : w2.heap.size < w4.heap.size := (by omega); have BB_ := Lib.hid (show Below w2.heap.size w2 w4 from below_then (by have hhh := BB.out; go_grown) hbz); clear BB; have BB := BB_; clear BB_))); (try go_wp2_with fail); (refine hK.out _ _ ?_ (fun hNew => ?_)))
    | fail
  · (try dsimp only)
    first | ((try go_split_ands); (((repeat' apply And.intro) <;> (first | ((repeat (first | (with_reducible assumption) | (with_reducible refine cell_keepD ?_) | (with_reducible refine cell_keepA ?_ _) | (with_reducible refine (hc1 _ _ (by go_size)).trans ?_) | (with_reducible refine ints_back ?_ hbz) | (with_reducible refine Ints.alloc ?_ _) | (with_reducible refine Ints.drew ?_))); done) | (go_cell; done))))) | fail
  clear hK K hHeld
  have hHeld := hNew
  clear hNew
  (try clear hc1)
  (try clear hf1)
  (try simp only [Act.put, List.getElem_toArray, List.getElem_cons_zero, List.getElem_cons_succ, List.setIfInBounds_toArray, List.set_cons_zero, List.set_cons_succ])
  first
    | (refine wpAnyH_take (i := 4) (v := ?_) rfl (by kernel_rfl) (by kernel_rfl) (by kernel_rfl) (fun _ _ _ h => h) (Or.inl ⟨by rfl, ?_⟩) (by assumption) ?_; rotate_left; · ((intro w hSw; (try dsimp only at hSw); go_simp); first | done | (with_reducible rfl)))
    | (refine wpAnyH_take (i := 4) (v := undef) rfl (by kernel_rfl) (by kernel_rfl) (by kernel_rfl) (fun _ _ _ h => h) (Or.inr ⟨by rfl, rfl⟩) (by assumption) ?_)
  (try simp only [Act.put, List.getElem_toArray, List.getElem_cons_zero, List.getElem_cons_succ, List.setIfInBounds_toArray, List.set_cons_zero, List.set_cons_succ])
  first
    | (refine wpAnyH_take (i := 5) (v := ?_) rfl (by kernel_rfl) (by kernel_rfl) (by kernel_rfl) (fun _ _ _ h => h) (Or.inl ⟨by rfl, ?_⟩) (by assumption) ?_; rotate_left; · ((intro w hSw; (try dsimp only at hSw); go_simp); first | done | (with_reducible rfl)))
    | (refine wpAnyH_take (i := 5) (v := undef) rfl (by kernel_rfl) (by kernel_rfl) (by kernel_rfl) (fun _ _ _ h => h) (Or.inr ⟨by rfl, rfl⟩) (by assumption) ?_)
  (try simp only [Act.put, List.getElem_toArray, List.getElem_cons_zero, List.getElem_cons_succ, List.setIfInBounds_toArray, List.set_cons_zero, List.set_cons_succ])
  first
    | (refine wpAnyH_take (i := 6) (v := ?_) rfl (by kernel_rfl) (by kernel_rfl) (by kernel_rfl) (fun _ _ _ h => h) (Or.inl ⟨by rfl, ?_⟩) (by assumption) ?_; rotate_left; · ((intro w hSw; (try dsimp only at hSw); go_simp); first | done | (with_reducible rfl)))
    | (refine wpAnyH_take (i := 6) (v := undef) rfl (by kernel_rfl) (by kernel_rfl) (by kernel_rfl) (fun _ _ _ h => h) (Or.inr ⟨by rfl, rfl⟩) (by assumption) ?_)
  (try simp only [Act.put, List.getElem_toArray, List.getElem_cons_zero, List.getElem_cons_succ, List.setIfInBounds_toArray, List.set_cons_zero, List.set_cons_succ])
  refine wpAnyH_ready (rs := [7]) (by kernel_rfl) (by simp) (AllReadyH.cons rfl (fun K hK => ?_) AllReadyH.nil)
  (try go_simp)
  first
    | (refine hK.out _ _ ?_ (fun hNew => ?_))
    | (((first | (go_at_call 14; refine (StopColor_sT hv _ _ _ _ hHeld.2.2.2.2 hzl hca HCM.out hm p HP.out).mono ?_; rintro e w3 ⟨rfl, hbz⟩; obtain ⟨hc1, hf1⟩ := bcell hbz; have hz1 := hbz.size; (try simp only [World.size_alloc, World.size_setCell, World.size_drew] at hz1); have z0w3 : w2.heap.size < w3.heap.size := (by omega); have BB_ := Lib.hid (show Below w2.heap.size w2 w3 from below_then (by have hhh := BB.out; go_grown) hbz); clear BB; have BB := BB_; clear BB_) | (go_at_call 12; refine (ValidStops_iT hv _ _ _ hHeld.2.2.2.2 hzl hm).mono ?_; rintro e w4 ⟨rfl, hbz⟩; obtain ⟨hc1, hf1⟩ := bcell hbz; have hz1 := hbz.size; (try simp only [World.size_alloc, World.size_setCell, World.size_drew] at hz1); have z0w4 : w2.heap.size < w4.heap.size := (by omega); have BB_ := Lib.hid (show Below w2.heap.size w2 w4 from below_then (by have hhh := BB.out; go_grown) hbz); clear BB; have BB := BB_; clear BB_))); (try go_wp2_with fail); (refine hK.out _ _ ?_ (fun hNew => ?_)))
    | fail
  · (try dsimp only)
    first | ((try go_split_ands); (((repeat' apply And.intro) <;> (first | ((repeat (first | (with_reducible assumption) | (with_reducible refine cell_keepD ?_) | (with_reducible refine cell_keepA ?_ _) | (with_reducible refine (hc1 _ _ (by go_size)).trans ?_) | (with_reducible refine ints_back ?_ hbz) | (with_reducible refine Ints.alloc ?_ _) | (with_reducible refine Ints.drew ?_))); done) | (go_cell; done))))) | fail
  clear hK K hHeld
  have hHeld := hNew
  clear hNew
  (try clear hc1)
  (try clear hf1)
  (try simp only [Act.put, List.getElem_toArray, List.getElem_cons_zero, List.getElem_cons_succ, List.setIfInBounds_toArray, List.set_cons_zero, List.set_cons_succ])
  first
    | (refine wpAnyH_take (i := 8) (v := ?_) rfl (by kernel_rfl) (by kernel_rfl) (by kernel_rfl) (fun _ _ _ h => h) (Or.inl ⟨by rfl, ?_⟩) (by assumption) ?_; rotate_left; · ((intro w hSw; (try dsimp only at hSw); go_simp); first | done | (with_reducible rfl)))
    | (refine wpAnyH_take (i := 8) (v := undef) rfl (by kernel_rfl) (by kernel_rfl) (by kernel_rfl) (fun _ _ _ h => h) (Or.inr ⟨by rfl, rfl⟩) (by assumption) ?_)
  (try simp only [Act.put, List.getElem_toArray, List.getElem_cons_zero, List.getElem_cons_succ, List.setIfInBounds_toArray, List.set_cons_zero, List.set_cons_succ])
  first
    | (refine wpAnyH_take (i := 9) (v := ?_) rfl (by kernel_rfl) (by kernel_rfl) (by kernel_rfl) (fun _ _ _ h => h) (Or.inl ⟨by rfl, ?_⟩) (by assumption) ?_; rotate_left; · ((intro w hSw; (try dsimp only at hSw); go_simp); first | done | (with_reducible rfl)))
    | (refine wpAnyH_take (i := 9) (v := undef) rfl (by kernel_rfl) (by kernel_rfl) (by kernel_rfl) (fun _ _ _ h => h) (Or.inr ⟨by rfl, rfl⟩) (by assumption) ?_)
  (try simp only [Act.put, List.getElem_toArray, List.getElem_cons_zero, List.getElem_cons_succ, List.setIfInBounds_toArray, List.set_cons_zero, List.set_cons_succ])
  (try dsimp only at hHeld)
  obtain ⟨s5_0, s5_1, s5_2, s5_3, s5_4⟩ := hHeld
  refine wpAnyH_done (by kernel_rfl) ?_ _
  have hb := BB.out
  clear BB hj0
  have HM_ := Lib.hid (show Ints w4 A1 zs from HM.out.below hb)
  clear HM
  have HM := HM_
  clear HM_
  have HB_ := Lib.hid (show Below w.heap.size w w4 from below_then HB.out hb)
  clear HB
  have HB := HB_
  clear HB_
  have hsw4 := hb.size
  clear hb
  have hok := stops_ok hv
  have hk1 := hok.n1
  have HOK := Lib.hid hok
  clear hok
  obtain ⟨bb, off, rfl, hbb, hcc⟩ := HM.out (by omega)
  have HCC := Lib.hid hcc
  clear hcc
  have hcap1 : 1 ≤ cap1 := by omega
  have hp01 := place_low HOK.out
  have hp02 := place_high HOK.out
  have HL0 := Lib.hid hp01
  have HL1 := Lib.hid hp02
  clear hp01 hp02
  have zb : bb < w4.heap.size := hbb
  have HVC := Lib.hid (show colB (vC (sR zs) zs n p t) (vC (sG zs) zs n p t) (vC (sB zs) zs n p t) (vC (sA zs) zs n p t) = true from vC_valid HOK.out HP.out)
  go_wp2
  go_loopw [6] (fun i wr => ∃ k : Nat, k ≤ n ∧ i = .int .i64 k ∧ Below w4.heap.size w4 wr) (fun i _ => n - (intOf i).toNat)
  case atStart => exact ⟨0, Nat.zero_le _, rfl, Below.refl _ _⟩
  case round =>
    obtain ⟨k, hk, rfl, hbel⟩ := hrel
    have HBel := Lib.hid hbel
    have hsr := hbel.size
    have m0 := (hbel.cell (p := ⟨w2.heap.size, 0, none⟩) (by show w2.heap.size < _; omega)).trans s5_0
    have m1 := (hbel.cell (p := ⟨w2.heap.size, 1, none⟩) (by show w2.heap.size < _; omega)).trans s5_1
    have m2 := (hbel.cell (p := ⟨w2.heap.size, 2, none⟩) (by show w2.heap.size < _; omega)).trans s5_2
    have m3 := (hbel.cell (p := ⟨w2.heap.size, 3, none⟩) (by show w2.heap.size < _; omega)).trans s5_3
    have hbr : bb < wr.heap.size := by omega
    have hcr2 : w2.heap.size < wr.heap.size := by omega
    have HMr := Lib.hid (HM.out.below hbel)
    have HCr := Lib.hid (show ∀ i, i < zs.length → wr.cell? ⟨bb, off + i, none⟩ = some (.int .i64 (nth zs i)) from fun i hi => (hbel.cell (p := ⟨bb, off + i, none⟩) hbb).trans (HCC.out i hi))
    clear hbel
    by_cases hlt : k < n
    · obtain ⟨q0, q1, q2, q3, q4⟩ := five_cells (w := wr) hzl HCr.out hlt
      have HPk := Lib.hid (place_at HOK.out hlt)
      have f1 : vC (sR zs) zs n k (sAt zs k) = sR zs k := vC_at HOK.out _ hlt
      have f2 : vC (sG zs) zs n k (sAt zs k) = sG zs k := vC_at HOK.out _ hlt
      have f3 : vC (sB zs) zs n k (sAt zs k) = sB zs k := vC_at HOK.out _ hlt
      have f4 : vC (sA zs) zs n k (sAt zs k) = sA zs k := vC_at HOK.out _ hlt
      have hk0 : (0 : Int) ≤ (k : Int) := by omega
      have hk1' : (k : Int) < (n : Int) := by omega
      have hj0 := HMr.out
      have BB := Lib.hid (Below.refl wr.heap.size wr)
      go_wp2_with fail
      refine wp_region_held_drew (S := fun w' => w'.cell? ⟨bb, off + k * 5, none⟩ = some (.int .i64 (sAt zs k)) ∧ w'.cell? ⟨bb, off + k * 5 + 1, none⟩ = some (.int .i64 (sR zs k)) ∧ w'.cell? ⟨bb, off + k * 5 + 2, none⟩ = some (.int .i64 (sG zs k)) ∧ w'.cell? ⟨bb, off + k * 5 + 3, none⟩ = some (.int .i64 (sB zs k)) ∧ w'.cell? ⟨bb, off + k * 5 + 4, none⟩ = some (.int .i64 (sA zs k)) ∧ Ints w' (some ⟨bb, off, none⟩) zs) (by kernel_rfl) ?_ (fun hHeld => ?_)
      · (try dsimp only)
        first | (((repeat' apply And.intro) <;> (first | ((repeat (first | (with_reducible assumption) | (with_reducible refine cell_keepD ?_) | (with_reducible refine cell_keepA ?_ _) | (with_reducible refine (hc1 _ _ (by go_size)).trans ?_) | (with_reducible refine ints_back ?_ hbz) | (with_reducible refine Ints.alloc ?_ _) | (with_reducible refine Ints.drew ?_))); done) | (go_cell; done)))) | fail
      first
        | (refine wpAnyH_take (i := 0) (v := ?_) rfl (by kernel_rfl) (by kernel_rfl) (by kernel_rfl) (fun _ _ _ h => h) (Or.inl ⟨by rfl, ?_⟩) (by assumption) ?_; rotate_left; · ((intro w hSw; (try dsimp only at hSw); go_simp); first | done | (with_reducible rfl)))
        | (refine wpAnyH_take (i := 0) (v := undef) rfl (by kernel_rfl) (by kernel_rfl) (by kernel_rfl) (fun _ _ _ h => h) (Or.inr ⟨by rfl, rfl⟩) (by assumption) ?_)
      (try simp only [Act.put, List.getElem_toArray, List.getElem_cons_zero, List.getElem_cons_succ, List.setIfInBounds_toArray, List.set_cons_zero, List.set_cons_succ])
      first
        | (refine wpAnyH_take (i := 1) (v := ?_) rfl (by kernel_rfl) (by kernel_rfl) (by kernel_rfl) (fun _ _ _ h => h) (Or.inl ⟨by rfl, ?_⟩) (by assumption) ?_; rotate_left; · ((intro w hSw; (try dsimp only at hSw); go_simp); first | done | (with_reducible rfl)))
        | (refine wpAnyH_take (i := 1) (v := undef) rfl (by kernel_rfl) (by kernel_rfl) (by kernel_rfl) (fun _ _ _ h => h) (Or.inr ⟨by rfl, rfl⟩) (by assumption) ?_)
      (try simp only [Act.put, List.getElem_toArray, List.getElem_cons_zero, List.getElem_cons_succ, List.setIfInBounds_toArray, List.set_cons_zero, List.set_cons_succ])
      first
        | (refine wpAnyH_take (i := 2) (v := ?_) rfl (by kernel_rfl) (by kernel_rfl) (by kernel_rfl) (fun _ _ _ h => h) (Or.inl ⟨by rfl, ?_⟩) (by assumption) ?_; rotate_left; · ((intro w hSw; (try dsimp only at hSw); go_simp); first | done | (with_reducible rfl)))
        | (refine wpAnyH_take (i := 2) (v := undef) rfl (by kernel_rfl) (by kernel_rfl) (by kernel_rfl) (fun _ _ _ h => h) (Or.inr ⟨by rfl, rfl⟩) (by assumption) ?_)
      (try simp only [Act.put, List.getElem_toArray, List.getElem_cons_zero, List.getElem_cons_succ, List.setIfInBounds_toArray, List.set_cons_zero, List.set_cons_succ])
      first
        | (refine wpAnyH_take (i := 3) (v := ?_) rfl (by kernel_rfl) (by kernel_rfl) (by kernel_rfl) (fun _ _ _ h => h) (Or.inl ⟨by rfl, ?_⟩) (by assumption) ?_; rotate_left; · ((intro w hSw; (try dsimp only at hSw); go_simp); first | done | (with_reducible rfl)))
        | (refine wpAnyH_take (i := 3) (v := undef) rfl (by kernel_rfl) (by kernel_rfl) (by kernel_rfl) (fun _ _ _ h => h) (Or.inr ⟨by rfl, rfl⟩) (by assumption) ?_)
      (try simp only [Act.put, List.getElem_toArray, List.getElem_cons_zero, List.getElem_cons_succ, List.setIfInBounds_toArray, List.set_cons_zero, List.set_cons_succ])
      first
        | (refine wpAnyH_take (i := 4) (v := ?_) rfl (by kernel_rfl) (by kernel_rfl) (by kernel_rfl) (fun _ _ _ h => h) (Or.inl ⟨by rfl, ?_⟩) (by assumption) ?_; rotate_left; · ((intro w hSw; (try dsimp only at hSw); go_simp); first | done | (with_reducible rfl)))
        | (refine wpAnyH_take (i := 4) (v := undef) rfl (by kernel_rfl) (by kernel_rfl) (by kernel_rfl) (fun _ _ _ h => h) (Or.inr ⟨by rfl, rfl⟩) (by assumption) ?_)
      (try simp only [Act.put, List.getElem_toArray, List.getElem_cons_zero, List.getElem_cons_succ, List.setIfInBounds_toArray, List.set_cons_zero, List.set_cons_succ])
      first
        | (refine wpAnyH_take (i := 5) (v := ?_) rfl (by kernel_rfl) (by kernel_rfl) (by kernel_rfl) (fun _ _ _ h => h) (Or.inl ⟨by rfl, ?_⟩) (by assumption) ?_; rotate_left; · ((intro w hSw; (try dsimp only at hSw); go_simp); first | done | (with_reducible rfl)))
        | (refine wpAnyH_take (i := 5) (v := undef) rfl (by kernel_rfl) (by kernel_rfl) (by kernel_rfl) (fun _ _ _ h => h) (Or.inr ⟨by rfl, rfl⟩) (by assumption) ?_)
      (try simp only [Act.put, List.getElem_toArray, List.getElem_cons_zero, List.getElem_cons_succ, List.setIfInBounds_toArray, List.set_cons_zero, List.set_cons_succ])
      first
        | (refine wpAnyH_take (i := 7) (v := ?_) rfl (by kernel_rfl) (by kernel_rfl) (by kernel_rfl) (fun _ _ _ h => h) (Or.inl ⟨by rfl, ?_⟩) (by assumption) ?_; rotate_left; · ((intro w hSw; (try dsimp only at hSw); go_simp); first | done | (with_reducible rfl)))
        | (refine wpAnyH_take (i := 7) (v := undef) rfl (by kernel_rfl) (by kernel_rfl) (by kernel_rfl) (fun _ _ _ h => h) (Or.inr ⟨by rfl, rfl⟩) (by assumption) ?_)
      (try simp only [Act.put, List.getElem_toArray, List.getElem_cons_zero, List.getElem_cons_succ, List.setIfInBounds_toArray, List.set_cons_zero, List.set_cons_succ])
      first
        | (refine wpAnyH_take (i := 8) (v := ?_) rfl (by kernel_rfl) (by kernel_rfl) (by kernel_rfl) (fun _ _ _ h => h) (Or.inl ⟨by rfl, ?_⟩) (by assumption) ?_; rotate_left; · ((intro w hSw; (try dsimp only at hSw); go_simp); first | done | (with_reducible rfl)))
        | (refine wpAnyH_take (i := 8) (v := undef) rfl (by kernel_rfl) (by kernel_rfl) (by kernel_rfl) (fun _ _ _ h => h) (Or.inr ⟨by rfl, rfl⟩) (by assumption) ?_)
      (try simp only [Act.put, List.getElem_toArray, List.getElem_cons_zero, List.getElem_cons_succ, List.setIfInBounds_toArray, List.set_cons_zero, List.set_cons_succ])
      first
        | (refine wpAnyH_take (i := 9) (v := ?_) rfl (by kernel_rfl) (by kernel_rfl) (by kernel_rfl) (fun _ _ _ h => h) (Or.inl ⟨by rfl, ?_⟩) (by assumption) ?_; rotate_left; · ((intro w hSw; (try dsimp only at hSw); go_simp); first | done | (with_reducible rfl)))
        | (refine wpAnyH_take (i := 9) (v := undef) rfl (by kernel_rfl) (by kernel_rfl) (by kernel_rfl) (fun _ _ _ h => h) (Or.inr ⟨by rfl, rfl⟩) (by assumption) ?_)
      (try simp only [Act.put, List.getElem_toArray, List.getElem_cons_zero, List.getElem_cons_succ, List.setIfInBounds_toArray, List.set_cons_zero, List.set_cons_succ])
      first
        | (refine wpAnyH_take (i := 10) (v := ?_) rfl (by kernel_rfl) (by kernel_rfl) (by kernel_rfl) (fun _ _ _ h => h) (Or.inl ⟨by rfl, ?_⟩) (by assumption) ?_; rotate_left; · ((intro w hSw; (try dsimp only at hSw); go_simp); first | done | (with_reducible rfl)))
        | (refine wpAnyH_take (i := 10) (v := undef) rfl (by kernel_rfl) (by kernel_rfl) (by kernel_rfl) (fun _ _ _ h => h) (Or.inr ⟨by rfl, rfl⟩) (by assumption) ?_)
      (try simp only [Act.put, List.getElem_toArray, List.getElem_cons_zero, List.getElem_cons_succ, List.setIfInBounds_toArray, List.set_cons_zero, List.set_cons_succ])
      first
        | (refine wpAnyH_take (i := 11) (v := ?_) rfl (by kernel_rfl) (by kernel_rfl) (by kernel_rfl) (fun _ _ _ h => h) (Or.inl ⟨by rfl, ?_⟩) (by assumption) ?_; rotate_left; · ((intro w hSw; (try dsimp only at hSw); go_simp); first | done | (with_reducible rfl)))
        | (refine wpAnyH_take (i := 11) (v := undef) rfl (by kernel_rfl) (by kernel_rfl) (by kernel_rfl) (fun _ _ _ h => h) (Or.inr ⟨by rfl, rfl⟩) (by assumption) ?_)
      (try simp only [Act.put, List.getElem_toArray, List.getElem_cons_zero, List.getElem_cons_succ, List.setIfInBounds_toArray, List.set_cons_zero, List.set_cons_succ])
      refine wpAnyH_ready (rs := [6]) (by kernel_rfl) (by simp) (AllReadyH.cons rfl (fun K hK => ?_) AllReadyH.nil)
      (try go_simp)
      first
        | (refine hK.out _ _ ?_ (fun hNew => ?_))
        | (((first | (go_at_call 15; refine (StopColor_iT hv _ _ _ _ hHeld.2.2.2.2.2 hzl hca HCM.out hm k HPk.out).mono ?_; rw [f1, f2, f3, f4]; rintro e w5 ⟨rfl, hbz⟩; obtain ⟨hc1, hf1⟩ := bcell hbz; have hz1 := hbz.size; (try simp only [World.size_alloc, World.size_setCell, World.size_drew] at hz1); have z0w5 : bb < w5.heap.size := (by omega); have BB_ := Lib.hid (show Below wr.heap.size wr w5 from below_then (by have hhh := BB.out; go_grown) hbz); clear BB; have BB := BB_; clear BB_))); (try go_wp2_with fail); (refine hK.out _ _ ?_ (fun hNew => ?_)))
        | fail
      · (try dsimp only)
        first | ((try go_split_ands); (((repeat' apply And.intro) <;> (first | ((repeat (first | (with_reducible assumption) | (with_reducible refine cell_keepD ?_) | (with_reducible refine cell_keepA ?_ _) | (with_reducible refine (hc1 _ _ (by go_size)).trans ?_) | (with_reducible refine ints_back ?_ hbz) | (with_reducible refine Ints.alloc ?_ _) | (with_reducible refine Ints.drew ?_))); done) | (go_cell; done))))) | fail
      clear hK K hHeld
      have hHeld := hNew
      clear hNew
      (try clear hc1)
      (try clear hf1)
      (try simp only [Act.put, List.getElem_toArray, List.getElem_cons_zero, List.getElem_cons_succ, List.setIfInBounds_toArray, List.set_cons_zero, List.set_cons_succ])
      first
        | (refine wpAnyH_take (i := 12) (v := ?_) rfl (by kernel_rfl) (by kernel_rfl) (by kernel_rfl) (fun _ _ _ h => h) (Or.inl ⟨by rfl, ?_⟩) (by assumption) ?_; rotate_left; · ((intro w hSw; (try dsimp only at hSw); go_simp); first | done | (with_reducible rfl)))
        | (refine wpAnyH_take (i := 12) (v := undef) rfl (by kernel_rfl) (by kernel_rfl) (by kernel_rfl) (fun _ _ _ h => h) (Or.inr ⟨by rfl, rfl⟩) (by assumption) ?_)
      (try simp only [Act.put, List.getElem_toArray, List.getElem_cons_zero, List.getElem_cons_succ, List.setIfInBounds_toArray, List.set_cons_zero, List.set_cons_succ])
      (try dsimp only at hHeld)
      obtain ⟨s9_0, s9_1, s9_2, s9_3, s9_4, s9_5⟩ := hHeld
      refine wpAnyH_done (by kernel_rfl) ?_ _
      go_wp2
      go_roundw
      case rel => exact ⟨k + 1, by omega, by go_num, below_then HBel.out BB.out⟩
      case measure => simp [intOf]; omega
    · have hkn : (n : Int) ≤ (k : Int) := by omega
      obtain ⟨q0, q1, q2, q3, q4⟩ := five_cells (w := wr) hzl HCr.out (show 0 < n from hk1)
      simp only [Nat.zero_mul, Nat.add_zero, Nat.zero_add] at q0 q1 q2 q3 q4
      obtain ⟨r0, r1, r2, r3, r4⟩ := five_cells (w := wr) hzl HCr.out (show n - 1 < n by omega)
      have hj9 : IntKind.i64.wrap ((n : Int) - 1) = ((n - 1 : Nat) : Int) := by rw [IntWalk.i64_in _ (by omega)]; omega
      have hj1 : ((n - 1 : Nat) : Int) < (n : Int) := by omega
      have hj2 : (0 : Int) ≤ ((n - 1 : Nat) : Int) := by omega
      have hj3 : n - 1 < n := by omega
      have hn1 : (0 : Int) < (n : Int) := by omega
      have hn2 : 0 < n := by omega
      have hvc := HVC.out
      have g1 : vC (sR zs) zs n 0 (-1) = sR zs 0 := vC_zero _ _
      have g2 : vC (sG zs) zs n 0 (-1) = sG zs 0 := vC_zero _ _
      have g3 : vC (sB zs) zs n 0 (-1) = sB zs 0 := vC_zero _ _
      have g4 : vC (sA zs) zs n 0 (-1) = sA zs 0 := vC_zero _ _
      have h1 : vC (sR zs) zs n n 257 = sR zs (n - 1) := vC_last _ _ hk1
      have h2 : vC (sG zs) zs n n 257 = sG zs (n - 1) := vC_last _ _ hk1
      have h3 : vC (sB zs) zs n n 257 = sB zs (n - 1) := vC_last _ _ hk1
      have h4 : vC (sA zs) zs n n 257 = sA zs (n - 1) := vC_last _ _ hk1
      have hj0 := HMr.out
      have BB := Lib.hid (Below.refl wr.heap.size wr)
      go_wp2_with fail
      refine wp_region_held_drew (S := fun w' => w'.cell? ⟨w2.heap.size, 0, none⟩ = some (.int .i64 (vC (sR zs) zs n p t)) ∧ w'.cell? ⟨w2.heap.size, 1, none⟩ = some (.int .i64 (vC (sG zs) zs n p t)) ∧ w'.cell? ⟨w2.heap.size, 2, none⟩ = some (.int .i64 (vC (sB zs) zs n p t)) ∧ w'.cell? ⟨w2.heap.size, 3, none⟩ = some (.int .i64 (vC (sA zs) zs n p t)) ∧ w'.cell? ⟨bb, off + 1, none⟩ = some (.int .i64 (sR zs 0)) ∧ w'.cell? ⟨bb, off + 2, none⟩ = some (.int .i64 (sG zs 0)) ∧ w'.cell? ⟨bb, off + 3, none⟩ = some (.int .i64 (sB zs 0)) ∧ w'.cell? ⟨bb, off + 4, none⟩ = some (.int .i64 (sA zs 0)) ∧ w'.cell? ⟨bb, off + (n - 1) * 5 + 1, none⟩ = some (.int .i64 (sR zs (n - 1))) ∧ w'.cell? ⟨bb, off + (n - 1) * 5 + 2, none⟩ = some (.int .i64 (sG zs (n - 1))) ∧ w'.cell? ⟨bb, off + (n - 1) * 5 + 3, none⟩ = some (.int .i64 (sB zs (n - 1))) ∧ w'.cell? ⟨bb, off + (n - 1) * 5 + 4, none⟩ = some (.int .i64 (sA zs (n - 1))) ∧ Ints w' (some ⟨bb, off, none⟩) zs) (by kernel_rfl) ?_ (fun hHeld => ?_)
      · (try dsimp only)
        first | (((repeat' apply And.intro) <;> (first | ((repeat (first | (with_reducible assumption) | (with_reducible refine cell_keepD ?_) | (with_reducible refine cell_keepA ?_ _) | (with_reducible refine (hc1 _ _ (by go_size)).trans ?_) | (with_reducible refine ints_back ?_ hbz) | (with_reducible refine Ints.alloc ?_ _) | (with_reducible refine Ints.drew ?_))); done) | (go_cell; done)))) | fail
      first
        | (refine wpAnyH_take (i := 0) (v := ?_) rfl (by kernel_rfl) (by kernel_rfl) (by kernel_rfl) (fun _ _ _ h => h) (Or.inl ⟨by rfl, ?_⟩) (by assumption) ?_; rotate_left; · ((intro w hSw; (try dsimp only at hSw); go_simp); first | done | (with_reducible rfl)))
        | (refine wpAnyH_take (i := 0) (v := undef) rfl (by kernel_rfl) (by kernel_rfl) (by kernel_rfl) (fun _ _ _ h => h) (Or.inr ⟨by rfl, rfl⟩) (by assumption) ?_)
      (try simp only [Act.put, List.getElem_toArray, List.getElem_cons_zero, List.getElem_cons_succ, List.setIfInBounds_toArray, List.set_cons_zero, List.set_cons_succ])
      refine wpAnyH_ready (rs := [1]) (by kernel_rfl) (by simp) (AllReadyH.cons rfl (fun K hK => ?_) AllReadyH.nil)
      (try go_simp)
      first
        | (refine hK.out _ _ ?_ (fun hNew => ?_))
        | (((first | (go_at_call 19; refine (ValidColor_i _ _ _ _ _).mono ?_; rw [hvc]; rintro e w1 ⟨rfl, rfl⟩) | (go_at_call 15; with_reducible refine (StopColor_iT hv _ _ 257 _ hHeld.2.2.2.2.2.2.2.2.2.2.2.2 hzl hca HCM.out hm n HL1.out).mono ?_; rw [h1, h2, h3, h4]; rintro e w6 ⟨rfl, hbz⟩; obtain ⟨hc1, hf1⟩ := bcell hbz; have hz1 := hbz.size; (try simp only [World.size_alloc, World.size_setCell, World.size_drew] at hz1); have z0w6 : bb < w6.heap.size := (by omega); have z1w6 : w2.heap.size < w6.heap.size := (by omega); have BB_ := Lib.hid (show Below wr.heap.size wr w6 from below_then (by have hhh := BB.out; go_grown) hbz); clear BB; have BB := BB_; clear BB_) | (go_at_call 15; with_reducible refine (StopColor_iT hv _ _ (-1) _ hHeld.2.2.2.2.2.2.2.2.2.2.2.2 hzl hca HCM.out hm 0 HL0.out).mono ?_; rw [g1, g2, g3, g4]; rintro e w5 ⟨rfl, hbz⟩; obtain ⟨hc1, hf1⟩ := bcell hbz; have hz1 := hbz.size; (try simp only [World.size_alloc, World.size_setCell, World.size_drew] at hz1); have z0w5 : bb < w5.heap.size := (by omega); have z1w5 : w2.heap.size < w5.heap.size := (by omega); have BB_ := Lib.hid (show Below wr.heap.size wr w5 from below_then (by have hhh := BB.out; go_grown) hbz); clear BB; have BB := BB_; clear BB_))); (try go_wp2_with fail); (refine hK.out _ _ ?_ (fun hNew => ?_)))
        | fail
      · (try dsimp only)
        first | ((try go_split_ands); (((repeat' apply And.intro) <;> (first | ((repeat (first | (with_reducible assumption) | (with_reducible refine cell_keepD ?_) | (with_reducible refine cell_keepA ?_ _) | (with_reducible refine (hc1 _ _ (by go_size)).trans ?_) | (with_reducible refine ints_back ?_ hbz) | (with_reducible refine Ints.alloc ?_ _) | (with_reducible refine Ints.drew ?_))); done) | (go_cell; done))))) | fail
      clear hK K hHeld
      have hHeld := hNew
      clear hNew
      (try clear hc1)
      (try clear hf1)
      (try simp only [Act.put, List.getElem_toArray, List.getElem_cons_zero, List.getElem_cons_succ, List.setIfInBounds_toArray, List.set_cons_zero, List.set_cons_succ])
      first
        | (refine wpAnyH_take (i := 2) (v := ?_) rfl (by kernel_rfl) (by kernel_rfl) (by kernel_rfl) (fun _ _ _ h => h) (Or.inl ⟨by rfl, ?_⟩) (by assumption) ?_; rotate_left; · ((intro w hSw; (try dsimp only at hSw); go_simp); first | done | (with_reducible rfl)))
        | (refine wpAnyH_take (i := 2) (v := undef) rfl (by kernel_rfl) (by kernel_rfl) (by kernel_rfl) (fun _ _ _ h => h) (Or.inr ⟨by rfl, rfl⟩) (by assumption) ?_)
      (try simp only [Act.put, List.getElem_toArray, List.getElem_cons_zero, List.getElem_cons_succ, List.setIfInBounds_toArray, List.set_cons_zero, List.set_cons_succ])
      first
        | (refine wpAnyH_take (i := 3) (v := ?_) rfl (by kernel_rfl) (by kernel_rfl) (by kernel_rfl) (fun _ _ _ h => h) (Or.inl ⟨by rfl, ?_⟩) (by assumption) ?_; rotate_left; · ((intro w hSw; (try dsimp only at hSw); go_simp); first | done | (with_reducible rfl)))
        | (refine wpAnyH_take (i := 3) (v := undef) rfl (by kernel_rfl) (by kernel_rfl) (by kernel_rfl) (fun _ _ _ h => h) (Or.inr ⟨by rfl, rfl⟩) (by assumption) ?_)
      (try simp only [Act.put, List.getElem_toArray, List.getElem_cons_zero, List.getElem_cons_succ, List.setIfInBounds_toArray, List.set_cons_zero, List.set_cons_succ])
      first
        | (refine wpAnyH_take (i := 5) (v := ?_) rfl (by kernel_rfl) (by kernel_rfl) (by kernel_rfl) (fun _ _ _ h => h) (Or.inl ⟨by rfl, ?_⟩) (by assumption) ?_; rotate_left; · ((intro w hSw; (try dsimp only at hSw); go_simp); first | done | (with_reducible rfl)))
        | (refine wpAnyH_take (i := 5) (v := undef) rfl (by kernel_rfl) (by kernel_rfl) (by kernel_rfl) (fun _ _ _ h => h) (Or.inr ⟨by rfl, rfl⟩) (by assumption) ?_)
      (try simp only [Act.put, List.getElem_toArray, List.getElem_cons_zero, List.getElem_cons_succ, List.setIfInBounds_toArray, List.set_cons_zero, List.set_cons_succ])
      first
        | (refine wpAnyH_take (i := 6) (v := ?_) rfl (by kernel_rfl) (by kernel_rfl) (by kernel_rfl) (fun _ _ _ h => h) (Or.inl ⟨by rfl, ?_⟩) (by assumption) ?_; rotate_left; · ((intro w hSw; (try dsimp only at hSw); go_simp); first | done | (with_reducible rfl)))
        | (refine wpAnyH_take (i := 6) (v := undef) rfl (by kernel_rfl) (by kernel_rfl) (by kernel_rfl) (fun _ _ _ h => h) (Or.inr ⟨by rfl, rfl⟩) (by assumption) ?_)
      (try simp only [Act.put, List.getElem_toArray, List.getElem_cons_zero, List.getElem_cons_succ, List.setIfInBounds_toArray, List.set_cons_zero, List.set_cons_succ])
      first
        | (refine wpAnyH_take (i := 7) (v := ?_) rfl (by kernel_rfl) (by kernel_rfl) (by kernel_rfl) (fun _ _ _ h => h) (Or.inl ⟨by rfl, ?_⟩) (by assumption) ?_; rotate_left; · ((intro w hSw; (try dsimp only at hSw); go_simp); first | done | (with_reducible rfl)))
        | (refine wpAnyH_take (i := 7) (v := undef) rfl (by kernel_rfl) (by kernel_rfl) (by kernel_rfl) (fun _ _ _ h => h) (Or.inr ⟨by rfl, rfl⟩) (by assumption) ?_)
      (try simp only [Act.put, List.getElem_toArray, List.getElem_cons_zero, List.getElem_cons_succ, List.setIfInBounds_toArray, List.set_cons_zero, List.set_cons_succ])
      first
        | (refine wpAnyH_take (i := 8) (v := ?_) rfl (by kernel_rfl) (by kernel_rfl) (by kernel_rfl) (fun _ _ _ h => h) (Or.inl ⟨by rfl, ?_⟩) (by assumption) ?_; rotate_left; · ((intro w hSw; (try dsimp only at hSw); go_simp); first | done | (with_reducible rfl)))
        | (refine wpAnyH_take (i := 8) (v := undef) rfl (by kernel_rfl) (by kernel_rfl) (by kernel_rfl) (fun _ _ _ h => h) (Or.inr ⟨by rfl, rfl⟩) (by assumption) ?_)
      (try simp only [Act.put, List.getElem_toArray, List.getElem_cons_zero, List.getElem_cons_succ, List.setIfInBounds_toArray, List.set_cons_zero, List.set_cons_succ])
      refine wpAnyH_ready (rs := [4]) (by kernel_rfl) (by simp) (AllReadyH.cons rfl (fun K hK => ?_) AllReadyH.nil)
      (try go_simp)
      first
        | (refine hK.out _ _ ?_ (fun hNew => ?_))
        | (((first | (go_at_call 19; refine (ValidColor_i _ _ _ _ _).mono ?_; rw [hvc]; rintro e w1 ⟨rfl, rfl⟩) | (go_at_call 15; with_reducible refine (StopColor_iT hv _ _ 257 _ hHeld.2.2.2.2.2.2.2.2.2.2.2.2 hzl hca HCM.out hm n HL1.out).mono ?_; rw [h1, h2, h3, h4]; rintro e w6 ⟨rfl, hbz⟩; obtain ⟨hc1, hf1⟩ := bcell hbz; have hz1 := hbz.size; (try simp only [World.size_alloc, World.size_setCell, World.size_drew] at hz1); have z0w6 : bb < w6.heap.size := (by omega); have z1w6 : w2.heap.size < w6.heap.size := (by omega); have BB_ := Lib.hid (show Below wr.heap.size wr w6 from below_then (by have hhh := BB.out; go_grown) hbz); clear BB; have BB := BB_; clear BB_) | (go_at_call 15; with_reducible refine (StopColor_iT hv _ _ (-1) _ hHeld.2.2.2.2.2.2.2.2.2.2.2.2 hzl hca HCM.out hm 0 HL0.out).mono ?_; rw [g1, g2, g3, g4]; rintro e w5 ⟨rfl, hbz⟩; obtain ⟨hc1, hf1⟩ := bcell hbz; have hz1 := hbz.size; (try simp only [World.size_alloc, World.size_setCell, World.size_drew] at hz1); have z0w5 : bb < w5.heap.size := (by omega); have z1w5 : w2.heap.size < w5.heap.size := (by omega); have BB_ := Lib.hid (show Below wr.heap.size wr w5 from below_then (by have hhh := BB.out; go_grown) hbz); clear BB; have BB := BB_; clear BB_))); (try go_wp2_with fail); (refine hK.out _ _ ?_ (fun hNew => ?_)))
        | fail
      · (try dsimp only)
        first | ((try go_split_ands); (((repeat' apply And.intro) <;> (first | ((repeat (first | (with_reducible assumption) | (with_reducible refine cell_keepD ?_) | (with_reducible refine cell_keepA ?_ _) | (with_reducible refine (hc1 _ _ (by go_size)).trans ?_) | (with_reducible refine ints_back ?_ hbz) | (with_reducible refine Ints.alloc ?_ _) | (with_reducible refine Ints.drew ?_))); done) | (go_cell; done))))) | fail
      clear hK K hHeld
      have hHeld := hNew
      clear hNew
      (try clear hc1)
      (try clear hf1)
      (try simp only [Act.put, List.getElem_toArray, List.getElem_cons_zero, List.getElem_cons_succ, List.setIfInBounds_toArray, List.set_cons_zero, List.set_cons_succ])
      first
        | (refine wpAnyH_take (i := 9) (v := ?_) rfl (by kernel_rfl) (by kernel_rfl) (by kernel_rfl) (fun _ _ _ h => h) (Or.inl ⟨by rfl, ?_⟩) (by assumption) ?_; rotate_left; · ((intro w hSw; (try dsimp only at hSw); go_simp); first | done | (with_reducible rfl)))
        | (refine wpAnyH_take (i := 9) (v := undef) rfl (by kernel_rfl) (by kernel_rfl) (by kernel_rfl) (fun _ _ _ h => h) (Or.inr ⟨by rfl, rfl⟩) (by assumption) ?_)
      (try simp only [Act.put, List.getElem_toArray, List.getElem_cons_zero, List.getElem_cons_succ, List.setIfInBounds_toArray, List.set_cons_zero, List.set_cons_succ])
      first
        | (refine wpAnyH_take (i := 10) (v := ?_) rfl (by kernel_rfl) (by kernel_rfl) (by kernel_rfl) (fun _ _ _ h => h) (Or.inl ⟨by rfl, ?_⟩) (by assumption) ?_; rotate_left; · ((intro w hSw; (try dsimp only at hSw); go_simp); first | done | (with_reducible rfl)))
        | (refine wpAnyH_take (i := 10) (v := undef) rfl (by kernel_rfl) (by kernel_rfl) (by kernel_rfl) (fun _ _ _ h => h) (Or.inr ⟨by rfl, rfl⟩) (by assumption) ?_)
      (try simp only [Act.put, List.getElem_toArray, List.getElem_cons_zero, List.getElem_cons_succ, List.setIfInBounds_toArray, List.set_cons_zero, List.set_cons_succ])
      first
        | (refine wpAnyH_take (i := 11) (v := ?_) rfl (by kernel_rfl) (by kernel_rfl) (by kernel_rfl) (fun _ _ _ h => h) (Or.inl ⟨by rfl, ?_⟩) (by assumption) ?_; rotate_left; · ((intro w hSw; (try dsimp only at hSw); go_simp); first | done | (with_reducible rfl)))
        | (refine wpAnyH_take (i := 11) (v := undef) rfl (by kernel_rfl) (by kernel_rfl) (by kernel_rfl) (fun _ _ _ h => h) (Or.inr ⟨by rfl, rfl⟩) (by assumption) ?_)
      (try simp only [Act.put, List.getElem_toArray, List.getElem_cons_zero, List.getElem_cons_succ, List.setIfInBounds_toArray, List.set_cons_zero, List.set_cons_succ])
      first
        | (refine wpAnyH_take (i := 12) (v := ?_) rfl (by kernel_rfl) (by kernel_rfl) (by kernel_rfl) (fun _ _ _ h => h) (Or.inl ⟨by rfl, ?_⟩) (by assumption) ?_; rotate_left; · ((intro w hSw; (try dsimp only at hSw); go_simp); first | done | (with_reducible rfl)))
        | (refine wpAnyH_take (i := 12) (v := undef) rfl (by kernel_rfl) (by kernel_rfl) (by kernel_rfl) (fun _ _ _ h => h) (Or.inr ⟨by rfl, rfl⟩) (by assumption) ?_)
      (try simp only [Act.put, List.getElem_toArray, List.getElem_cons_zero, List.getElem_cons_succ, List.setIfInBounds_toArray, List.set_cons_zero, List.set_cons_succ])
      first
        | (refine wpAnyH_take (i := 14) (v := ?_) rfl (by kernel_rfl) (by kernel_rfl) (by kernel_rfl) (fun _ _ _ h => h) (Or.inl ⟨by rfl, ?_⟩) (by assumption) ?_; rotate_left; · ((intro w hSw; (try dsimp only at hSw); go_simp); first | done | (with_reducible rfl)))
        | (refine wpAnyH_take (i := 14) (v := undef) rfl (by kernel_rfl) (by kernel_rfl) (by kernel_rfl) (fun _ _ _ h => h) (Or.inr ⟨by rfl, rfl⟩) (by assumption) ?_)
      (try simp only [Act.put, List.getElem_toArray, List.getElem_cons_zero, List.getElem_cons_succ, List.setIfInBounds_toArray, List.set_cons_zero, List.set_cons_succ])
      first
        | (refine wpAnyH_take (i := 15) (v := ?_) rfl (by kernel_rfl) (by kernel_rfl) (by kernel_rfl) (fun _ _ _ h => h) (Or.inl ⟨by rfl, ?_⟩) (by assumption) ?_; rotate_left; · ((intro w hSw; (try dsimp only at hSw); go_simp); first | done | (with_reducible rfl)))
        | (refine wpAnyH_take (i := 15) (v := undef) rfl (by kernel_rfl) (by kernel_rfl) (by kernel_rfl) (fun _ _ _ h => h) (Or.inr ⟨by rfl, rfl⟩) (by assumption) ?_)
      (try simp only [Act.put, List.getElem_toArray, List.getElem_cons_zero, List.getElem_cons_succ, List.setIfInBounds_toArray, List.set_cons_zero, List.set_cons_succ])
      first
        | (refine wpAnyH_take (i := 16) (v := ?_) rfl (by kernel_rfl) (by kernel_rfl) (by kernel_rfl) (fun _ _ _ h => h) (Or.inl ⟨by rfl, ?_⟩) (by assumption) ?_; rotate_left; · ((intro w hSw; (try dsimp only at hSw); go_simp); first | done | (with_reducible rfl)))
        | (refine wpAnyH_take (i := 16) (v := undef) rfl (by kernel_rfl) (by kernel_rfl) (by kernel_rfl) (fun _ _ _ h => h) (Or.inr ⟨by rfl, rfl⟩) (by assumption) ?_)
      (try simp only [Act.put, List.getElem_toArray, List.getElem_cons_zero, List.getElem_cons_succ, List.setIfInBounds_toArray, List.set_cons_zero, List.set_cons_succ])
      first
        | (refine wpAnyH_take (i := 17) (v := ?_) rfl (by kernel_rfl) (by kernel_rfl) (by kernel_rfl) (fun _ _ _ h => h) (Or.inl ⟨by rfl, ?_⟩) (by assumption) ?_; rotate_left; · ((intro w hSw; (try dsimp only at hSw); go_simp); first | done | (with_reducible rfl)))
        | (refine wpAnyH_take (i := 17) (v := undef) rfl (by kernel_rfl) (by kernel_rfl) (by kernel_rfl) (fun _ _ _ h => h) (Or.inr ⟨by rfl, rfl⟩) (by assumption) ?_)
      (try simp only [Act.put, List.getElem_toArray, List.getElem_cons_zero, List.getElem_cons_succ, List.setIfInBounds_toArray, List.set_cons_zero, List.set_cons_succ])
      first
        | (refine wpAnyH_take (i := 18) (v := ?_) rfl (by kernel_rfl) (by kernel_rfl) (by kernel_rfl) (fun _ _ _ h => h) (Or.inl ⟨by rfl, ?_⟩) (by assumption) ?_; rotate_left; · ((intro w hSw; (try dsimp only at hSw); go_simp); first | done | (with_reducible rfl)))
        | (refine wpAnyH_take (i := 18) (v := undef) rfl (by kernel_rfl) (by kernel_rfl) (by kernel_rfl) (fun _ _ _ h => h) (Or.inr ⟨by rfl, rfl⟩) (by assumption) ?_)
      (try simp only [Act.put, List.getElem_toArray, List.getElem_cons_zero, List.getElem_cons_succ, List.setIfInBounds_toArray, List.set_cons_zero, List.set_cons_succ])
      first
        | (refine wpAnyH_take (i := 19) (v := ?_) rfl (by kernel_rfl) (by kernel_rfl) (by kernel_rfl) (fun _ _ _ h => h) (Or.inl ⟨by rfl, ?_⟩) (by assumption) ?_; rotate_left; · ((intro w hSw; (try dsimp only at hSw); go_simp); first | done | (with_reducible rfl)))
        | (refine wpAnyH_take (i := 19) (v := undef) rfl (by kernel_rfl) (by kernel_rfl) (by kernel_rfl) (fun _ _ _ h => h) (Or.inr ⟨by rfl, rfl⟩) (by assumption) ?_)
      (try simp only [Act.put, List.getElem_toArray, List.getElem_cons_zero, List.getElem_cons_succ, List.setIfInBounds_toArray, List.set_cons_zero, List.set_cons_succ])
      first
        | (refine wpAnyH_take (i := 20) (v := ?_) rfl (by kernel_rfl) (by kernel_rfl) (by kernel_rfl) (fun _ _ _ h => h) (Or.inl ⟨by rfl, ?_⟩) (by assumption) ?_; rotate_left; · ((intro w hSw; (try dsimp only at hSw); go_simp); first | done | (with_reducible rfl)))
        | (refine wpAnyH_take (i := 20) (v := undef) rfl (by kernel_rfl) (by kernel_rfl) (by kernel_rfl) (fun _ _ _ h => h) (Or.inr ⟨by rfl, rfl⟩) (by assumption) ?_)
      (try simp only [Act.put, List.getElem_toArray, List.getElem_cons_zero, List.getElem_cons_succ, List.setIfInBounds_toArray, List.set_cons_zero, List.set_cons_succ])
      refine wpAnyH_ready (rs := [13]) (by kernel_rfl) (by simp) (AllReadyH.cons rfl (fun K hK => ?_) AllReadyH.nil)
      (try go_simp)
      first
        | (refine hK.out _ _ ?_ (fun hNew => ?_))
        | (((first | (go_at_call 19; refine (ValidColor_i _ _ _ _ _).mono ?_; rw [hvc]; rintro e w1 ⟨rfl, rfl⟩) | (go_at_call 15; with_reducible refine (StopColor_iT hv _ _ 257 _ hHeld.2.2.2.2.2.2.2.2.2.2.2.2 hzl hca HCM.out hm n HL1.out).mono ?_; rw [h1, h2, h3, h4]; rintro e w6 ⟨rfl, hbz⟩; obtain ⟨hc1, hf1⟩ := bcell hbz; have hz1 := hbz.size; (try simp only [World.size_alloc, World.size_setCell, World.size_drew] at hz1); have z0w6 : bb < w6.heap.size := (by omega); have z1w6 : w2.heap.size < w6.heap.size := (by omega); have BB_ := Lib.hid (show Below wr.heap.size wr w6 from below_then (by have hhh := BB.out; go_grown) hbz); clear BB; have BB := BB_; clear BB_) | (go_at_call 15; with_reducible refine (StopColor_iT hv _ _ (-1) _ hHeld.2.2.2.2.2.2.2.2.2.2.2.2 hzl hca HCM.out hm 0 HL0.out).mono ?_; rw [g1, g2, g3, g4]; rintro e w5 ⟨rfl, hbz⟩; obtain ⟨hc1, hf1⟩ := bcell hbz; have hz1 := hbz.size; (try simp only [World.size_alloc, World.size_setCell, World.size_drew] at hz1); have z0w5 : bb < w5.heap.size := (by omega); have z1w5 : w2.heap.size < w5.heap.size := (by omega); have BB_ := Lib.hid (show Below wr.heap.size wr w5 from below_then (by have hhh := BB.out; go_grown) hbz); clear BB; have BB := BB_; clear BB_))); (try go_wp2_with fail); (refine hK.out _ _ ?_ (fun hNew => ?_)))
        | fail
      · (try dsimp only)
        first | ((try go_split_ands); (((repeat' apply And.intro) <;> (first | ((repeat (first | (with_reducible assumption) | (with_reducible refine cell_keepD ?_) | (with_reducible refine cell_keepA ?_ _) | (with_reducible refine (hc1 _ _ (by go_size)).trans ?_) | (with_reducible refine ints_back ?_ hbz) | (with_reducible refine Ints.alloc ?_ _) | (with_reducible refine Ints.drew ?_))); done) | (go_cell; done))))) | fail
      clear hK K hHeld
      have hHeld := hNew
      clear hNew
      (try clear hc1)
      (try clear hf1)
      (try simp only [Act.put, List.getElem_toArray, List.getElem_cons_zero, List.getElem_cons_succ, List.setIfInBounds_toArray, List.set_cons_zero, List.set_cons_succ])
      first
        | (refine wpAnyH_take (i := 21) (v := ?_) rfl (by kernel_rfl) (by kernel_rfl) (by kernel_rfl) (fun _ _ _ h => h) (Or.inl ⟨by rfl, ?_⟩) (by assumption) ?_; rotate_left; · ((intro w hSw; (try dsimp only at hSw); go_simp); first | done | (with_reducible rfl)))
        | (refine wpAnyH_take (i := 21) (v := undef) rfl (by kernel_rfl) (by kernel_rfl) (by kernel_rfl) (fun _ _ _ h => h) (Or.inr ⟨by rfl, rfl⟩) (by assumption) ?_)
      (try simp only [Act.put, List.getElem_toArray, List.getElem_cons_zero, List.getElem_cons_succ, List.setIfInBounds_toArray, List.set_cons_zero, List.set_cons_succ])
      first
        | (refine wpAnyH_take (i := 22) (v := ?_) rfl (by kernel_rfl) (by kernel_rfl) (by kernel_rfl) (fun _ _ _ h => h) (Or.inl ⟨by rfl, ?_⟩) (by assumption) ?_; rotate_left; · ((intro w hSw; (try dsimp only at hSw); go_simp); first | done | (with_reducible rfl)))
        | (refine wpAnyH_take (i := 22) (v := undef) rfl (by kernel_rfl) (by kernel_rfl) (by kernel_rfl) (fun _ _ _ h => h) (Or.inr ⟨by rfl, rfl⟩) (by assumption) ?_)
      (try simp only [Act.put, List.getElem_toArray, List.getElem_cons_zero, List.getElem_cons_succ, List.setIfInBounds_toArray, List.set_cons_zero, List.set_cons_succ])
      first
        | (refine wpAnyH_take (i := 23) (v := ?_) rfl (by kernel_rfl) (by kernel_rfl) (by kernel_rfl) (fun _ _ _ h => h) (Or.inl ⟨by rfl, ?_⟩) (by assumption) ?_; rotate_left; · ((intro w hSw; (try dsimp only at hSw); go_simp); first | done | (with_reducible rfl)))
        | (refine wpAnyH_take (i := 23) (v := undef) rfl (by kernel_rfl) (by kernel_rfl) (by kernel_rfl) (fun _ _ _ h => h) (Or.inr ⟨by rfl, rfl⟩) (by assumption) ?_)
      (try simp only [Act.put, List.getElem_toArray, List.getElem_cons_zero, List.getElem_cons_succ, List.setIfInBounds_toArray, List.set_cons_zero, List.set_cons_succ])
      (try dsimp only at hHeld)
      obtain ⟨s12_0, s12_1, s12_2, s12_3, s12_4, s12_5, s12_6, s12_7, s12_8, s12_9, s12_10, s12_11, s12_12⟩ := hHeld
      refine wpAnyH_done (by kernel_rfl) ?_ _
      go_wp2
      go_ret
      exact ⟨ret_b (by first | rfl | simp), below_then HB.out (below_then HBel.out BB.out)⟩

end Go.Proofs.Ytkihbfohdennjaa
