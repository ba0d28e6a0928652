/-
  The walk of FnStopColorBetween: it returns true for every code.
-/
import Derived.Test.YtkihbfohdennjaaStopCV
import Derived.Test.YtkihbfohdennjaaW4LValid
import Derived.Deep.RegionHeld3
import Derived.Deep.DrawnRows
import Derived.Deep.DeepCutAuto
namespace Go.Proofs.Ytkihbfohdennjaa
open Go.RowKit
set_option linter.unusedSimpArgs false
set_option linter.unusedVariables false

attribute [local go_sem ↓] Go.wp_at_zero Go.wp_at_succ
theorem vC_btw {zs : List Int} {n p i : Nat} {t : Int} (h : StopsOK zs n) (hp : Place zs n t p) (c : Nat → Int) (hk : i + 1 < n) (h1 : sAt zs i ≤ t) (h2 : t ≤ sAt zs (i + 1)) :
    min (c i) (c (i + 1)) ≤ vC c zs n p t ∧ vC c zs n p t ≤ max (c i) (c (i + 1)) := by
  by_cases e : t = sAt zs i
  · have hpi : p = i := hp.eq_of (by omega) (fun j hj => by rw [e]; exact h.lt hj (by omega)) (fun _ => by omega)
    subst hpi
    rw [e, vC_at h c (by omega)]; omega
  · have hpi : p = i + 1 := hp.eq_of (by omega) (fun j hj => by
      by_cases ej : j = i
      · subst ej; omega
      · have := h.lt (show j < i by omega) (by omega); omega) (fun _ => h2)
    subst hpi
    have hb := mid_bd h hk h1 h2
    rw [vC_mid c t hk]
    exact mx_between hb.1 hb.2
set_option maxRecDepth 100000 in
set_option maxHeartbeats 8000000 in
theorem walk_FnStopColorBetween (w : World) (a0 : Option Addr) (len0 cap0 : Nat) (z0 : List Int) (w0 : IsRow .u8 w a0 len0 cap0 z0) :
    Calls Try.prog 8 #[.slice a0 len0 cap0] w fun e w' => e = .returned (.bool true) ∧ Below w.heap.size w w' := by
  have HC := Lib.hid w0.code
  clear w0
  by_cases hl : 1048576 < len0
  · have hl2 : (1048576 : Int) < (len0 : Int) := by omega
    go_enter Try.func8, Try.ntmps8
    go_wp2
    go_ret
    exact ⟨rfl, Below.refl _ _⟩
  have hl2 : ¬ (1048576 : Int) < (len0 : Int) := by omega
  go_enter Try.func8, Try.ntmps8
  go_wp2_with fail
  refine (DrawStopColor_c _ _ _ _ HC.out).mono ?_
  rintro e w1 ⟨zs, A1, cap1, n, t, hn5, hzl, hca, hcb, t0, t1, rfl, hi1, hb1⟩
  have HM := Lib.hid hi1
  have HB := Lib.hid hb1
  have HCM := Lib.hid hcb
  have hcb2 := hcb
  unfold maxLen at hcb2
  clear hi1 hb1 hcb
  obtain ⟨p, hp⟩ := place_ex zs n t
  have HP := Lib.hid hp
  have hm : n ≤ 1000000000000 := by omega
  clear hp
  cases hv : stopsB zs n
  · go_wp2_with fail
    refine (StopColor_iF hv _ _ _ _ HM.out hzl hca HCM.out hm p HP.out).mono ?_
    rintro e w2 ⟨rfl, hbq⟩
    have hb := (show Below w1.heap.size w1 w2 from below_then (by go_grown) hbq)
    clear hbq
    have HM_ := Lib.hid (show Ints w2 A1 zs from HM.out.below hb)
    clear HM
    have HM := HM_
    clear HM_
    have HB_ := Lib.hid (show Below w.heap.size w w2 from below_then HB.out hb)
    clear HB
    have HB := HB_
    clear HB_
    have hsw2 := hb.size
    clear hb
    have BB := Lib.hid (Below.refl w2.heap.size w2)
    have hj0 := HM.out
    go_wp2_with fail
    refine wp_region_held_drew (S := fun w' => w'.cell? ⟨w2.heap.size, 0, none⟩ = some (.int .i64 0) ∧ w'.cell? ⟨w2.heap.size, 1, none⟩ = some (.int .i64 0) ∧ w'.cell? ⟨w2.heap.size, 2, none⟩ = some (.int .i64 0) ∧ w'.cell? ⟨w2.heap.size, 3, none⟩ = some (.int .i64 0) ∧ Ints w' A1 zs) (by kernel_rfl) ?_ (fun hHeld => ?_)
    · (try dsimp only)
      first | (((repeat' apply And.intro) <;> (first | ((repeat (first | (with_reducible assumption) | (with_reducible refine cell_keepD ?_) | (with_reducible refine cell_keepA ?_ _) | (with_reducible refine (hc1 _ _ (by go_size)).trans ?_) | (with_reducible refine ints_back ?_ hbz) | (with_reducible refine Ints.alloc ?_ _) | (with_reducible refine Ints.drew ?_))); done) | (go_cell; done)))) | fail
    first
      | (refine wpAnyH_take (i := 0) (v := ?_) rfl (by kernel_rfl) (by kernel_rfl) (by kernel_rfl) (fun _ _ _ h => h) (Or.inl ⟨by rfl, ?_⟩) (by assumption) ?_; rotate_left; · ((intro w hSw; (try dsimp only at hSw); go_simp); first | done | (with_reducible rfl)))
      | (refine wpAnyH_take (i := 0) (v := undef) rfl (by kernel_rfl) (by kernel_rfl) (by kernel_rfl) (fun _ _ _ h => h) (Or.inr ⟨by rfl, rfl⟩) (by assumption) ?_)
    (try simp only [Act.put, List.getElem_toArray, List.getElem_cons_zero, List.getElem_cons_succ, List.setIfInBounds_toArray, List.set_cons_zero, List.set_cons_succ])
    first
      | (refine wpAnyH_take (i := 1) (v := ?_) rfl (by kernel_rfl) (by kernel_rfl) (by kernel_rfl) (fun _ _ _ h => h) (Or.inl ⟨by rfl, ?_⟩) (by assumption) ?_; rotate_left; · ((intro w hSw; (try dsimp only at hSw); go_simp); first | done | (with_reducible rfl)))
      | (refine wpAnyH_take (i := 1) (v := undef) rfl (by kernel_rfl) (by kernel_rfl) (by kernel_rfl) (fun _ _ _ h => h) (Or.inr ⟨by rfl, rfl⟩) (by assumption) ?_)
    (try simp only [Act.put, List.getElem_toArray, List.getElem_cons_zero, List.getElem_cons_succ, List.setIfInBounds_toArray, List.set_cons_zero, List.set_cons_succ])
    first
      | (refine wpAnyH_take (i := 2) (v := ?_) rfl (by kernel_rfl) (by kernel_rfl) (by kernel_rfl) (fun _ _ _ h => h) (Or.inl ⟨by rfl, ?_⟩) (by assumption) ?_; rotate_left; · ((intro w hSw; (try dsimp only at hSw); go_simp); first | done | (with_reducible rfl)))
      | (refine wpAnyH_take (i := 2) (v := undef) rfl (by kernel_rfl) (by kernel_rfl) (by kernel_rfl) (fun _ _ _ h => h) (Or.inr ⟨by rfl, rfl⟩) (by assumption) ?_)
    (try simp only [Act.put, List.getElem_toArray, List.getElem_cons_zero, List.getElem_cons_succ, List.setIfInBounds_toArray, List.set_cons_zero, List.set_cons_succ])
    refine wpAnyH_ready (rs := [3]) (by kernel_rfl) (by simp) (AllReadyH.cons rfl (fun K hK => ?_) AllReadyH.nil)
    (try go_simp)
    first
      | (refine hK.out _ _ ?_ (fun hNew => ?_))
      | (((first | (go_at_call 14; refine (StopColor_sF hv _ _ _ _ hHeld.2.2.2.2 hzl hca HCM.out hm p HP.out).mono ?_; rintro e w3 ⟨rfl, hbz⟩; obtain ⟨hc1, hf1⟩ := bcell hbz; have hz1 := hbz.size; (try simp only [World.size_alloc, World.size_setCell, World.size_drew] at hz1); have z0w3 : w2.heap.size < w3.heap.size := (by omega); have BB_ := Lib.hid (show Below w2.heap.size w2 w3 from below_then (by have hhh := BB.out; go_grown) hbz); clear BB; have BB := BB_; clear BB_) | (go_at_call 12; refine (ValidStops_iF hv _ _ _ hHeld.2.2.2.2 hzl hm).mono ?_; rintro e w4 ⟨rfl, hbz⟩; obtain ⟨hc1, hf1⟩ := bcell hbz; have hz1 := hbz.size; (try simp only [World.size_alloc, World.size_setCell, World.size_drew] at hz1); have z0w4 : w2.heap.size < w4.heap.size := (by omega); have BB_ := Lib.hid (show Below w2.heap.size w2 w4 from below_then (by have hhh := BB.out; go_grown) hbz); clear BB; have BB := BB_; clear BB_))); (try go_wp2_with fail); (refine hK.out _ _ ?_ (fun hNew => ?_)))
      | fail
    · (try dsimp only)
      first | ((try go_split_ands); (((repeat' apply And.intro) <;> (first | ((repeat (first | (with_reducible assumption) | (with_reducible refine cell_keepD ?_) | (with_reducible refine cell_keepA ?_ _) | (with_reducible refine (hc1 _ _ (by go_size)).trans ?_) | (with_reducible refine ints_back ?_ hbz) | (with_reducible refine Ints.alloc ?_ _) | (with_reducible refine Ints.drew ?_))); done) | (go_cell; done))))) | fail
    clear hK K hHeld
    have hHeld := hNew
    clear hNew
    (try clear hc1)
    (try clear hf1)
    (try simp only [Act.put, List.getElem_toArray, List.getElem_cons_zero, List.getElem_cons_succ, List.setIfInBounds_toArray, List.set_cons_zero, List.set_cons_succ])
    first
      | (refine wpAnyH_take (i := 4) (v := ?_) rfl (by kernel_rfl) (by kernel_rfl) (by kernel_rfl) (fun _ _ _ h => h) (Or.inl ⟨by rfl, ?_⟩) (by assumption) ?_; rotate_left; · ((intro w hSw; (try dsimp only at hSw); go_simp); first | done | (with_reducible rfl)))
      | (refine wpAnyH_take (i := 4) (v := undef) rfl (by kernel_rfl) (by kernel_rfl) (by kernel_rfl) (fun _ _ _ h => h) (Or.inr ⟨by rfl, rfl⟩) (by assumption) ?_)
    (try simp only [Act.put, List.getElem_toArray, List.getElem_cons_zero, List.getElem_cons_succ, List.setIfInBounds_toArray, List.set_cons_zero, List.set_cons_succ])
    first
      | (refine wpAnyH_take (i := 5) (v := ?_) rfl (by kernel_rfl) (by kernel_rfl) (by kernel_rfl) (fun _ _ _ h => h) (Or.inl ⟨by rfl, ?_⟩) (by assumption) ?_; rotate_left; · ((intro w hSw; (try dsimp only at hSw); go_simp); first | done | (with_reducible rfl)))
      | (refine wpAnyH_take (i := 5) (v := undef) rfl (by kernel_rfl) (by kernel_rfl) (by kernel_rfl) (fun _ _ _ h => h) (Or.inr ⟨by rfl, rfl⟩) (by assumption) ?_)
    (try simp only [Act.put, List.getElem_toArray, List.getElem_cons_zero, List.getElem_cons_succ, List.setIfInBounds_toArray, List.set_cons_zero, List.set_cons_succ])
    first
      | (refine wpAnyH_take (i := 6) (v := ?_) rfl (by kernel_rfl) (by kernel_rfl) (by kernel_rfl) (fun _ _ _ h => h) (Or.inl ⟨by rfl, ?_⟩) (by assumption) ?_; rotate_left; · ((intro w hSw; (try dsimp only at hSw); go_simp); first | done | (with_reducible rfl)))
      | (refine wpAnyH_take (i := 6) (v := undef) rfl (by kernel_rfl) (by kernel_rfl) (by kernel_rfl) (fun _ _ _ h => h) (Or.inr ⟨by rfl, rfl⟩) (by assumption) ?_)
    (try simp only [Act.put, List.getElem_toArray, List.getElem_cons_zero, List.getElem_cons_succ, List.setIfInBounds_toArray, List.set_cons_zero, List.set_cons_succ])
    refine wpAnyH_ready (rs := [7]) (by kernel_rfl) (by simp) (AllReadyH.cons rfl (fun K hK => ?_) AllReadyH.nil)
    (try go_simp)
    first
      | (refine hK.out _ _ ?_ (fun hNew => ?_))
      | (((first | (go_at_call 14; refine (StopColor_sF hv _ _ _ _ hHeld.2.2.2.2 hzl hca HCM.out hm p HP.out).mono ?_; rintro e w3 ⟨rfl, hbz⟩; obtain ⟨hc1, hf1⟩ := bcell hbz; have hz1 := hbz.size; (try simp only [World.size_alloc, World.size_setCell, World.size_drew] at hz1); have z0w3 : w2.heap.size < w3.heap.size := (by omega); have BB_ := Lib.hid (show Below w2.heap.size w2 w3 from below_then (by have hhh := BB.out; go_grown) hbz); clear BB; have BB := BB_; clear BB_) | (go_at_call 12; refine (ValidStops_iF hv _ _ _ hHeld.2.2.2.2 hzl hm).mono ?_; rintro e w4 ⟨rfl, hbz⟩; obtain ⟨hc1, hf1⟩ := bcell hbz; have hz1 := hbz.size; (try simp only [World.size_alloc, World.size_setCell, World.size_drew] at hz1); have z0w4 : w2.heap.size < w4.heap.size := (by omega); have BB_ := Lib.hid (show Below w2.heap.size w2 w4 from below_then (by have hhh := BB.out; go_grown) hbz); clear BB; have BB := BB_; clear BB_))); (try go_wp2_with fail); (refine hK.out _ _ ?_ (fun hNew => ?_)))
      | fail
    · (try dsimp only)
      first | ((try go_split_ands); (((repeat' apply And.intro) <;> (first | ((repeat (first | (with_reducible assumption) | (with_reducible refine cell_keepD ?_) | (with_reducible refine cell_keepA ?_ _) | (with_reducible refine (hc1 _ _ (by go_size)).trans ?_) | (with_reducible refine ints_back ?_ hbz) | (with_reducible refine Ints.alloc ?_ _) | (with_reducible refine Ints.drew ?_))); done) | (go_cell; done))))) | fail
    clear hK K hHeld
    have hHeld := hNew
    clear hNew
    (try clear hc1)
    (try clear hf1)
    (try simp only [Act.put, List.getElem_toArray, List.getElem_cons_zero, List.getElem_cons_succ, List.setIfInBounds_toArray, List.set_cons_zero, List.set_cons_succ])
    first
      | (refine wpAnyH_take (i := 8) (v := ?_) rfl (by kernel_rfl) (by kernel_rfl) (by kernel_rfl) (fun _ _ _ h => h) (Or.inl ⟨by rfl, ?_⟩) (by assumption) ?_; rotate_left; · ((intro w hSw; (try dsimp only at hSw); go_simp); first | done | (with_reducible rfl)))
      | (refine wpAnyH_take (i := 8) (v := undef) rfl (by kernel_rfl) (by kernel_rfl) (by kernel_rfl) (fun _ _ _ h => h) (Or.inr ⟨by rfl, rfl⟩) (by assumption) ?_)
    (try simp only [Act.put, List.getElem_toArray, List.getElem_cons_zero, List.getElem_cons_succ, List.setIfInBounds_toArray, List.set_cons_zero, List.set_cons_succ])
    first
      | (refine wpAnyH_take (i := 9) (v := ?_) rfl (by kernel_rfl) (by kernel_rfl) (by kernel_rfl) (fun _ _ _ h => h) (Or.inl ⟨by rfl, ?_⟩) (by assumption) ?_; rotate_left; · ((intro w hSw; (try dsimp only at hSw); go_simp); first | done | (with_reducible rfl)))
      | (refine wpAnyH_take (i := 9) (v := undef) rfl (by kernel_rfl) (by kernel_rfl) (by kernel_rfl) (fun _ _ _ h => h) (Or.inr ⟨by rfl, rfl⟩) (by assumption) ?_)
    (try simp only [Act.put, List.getElem_toArray, List.getElem_cons_zero, List.getElem_cons_succ, List.setIfInBounds_toArray, List.set_cons_zero, List.set_cons_succ])
    (try dsimp only at hHeld)
    obtain ⟨s5_0, s5_1, s5_2, s5_3, s5_4⟩ := hHeld
    refine wpAnyH_done (by kernel_rfl) ?_ _
    have hb := BB.out
    clear BB hj0
    have HM_ := Lib.hid (show Ints w4 A1 zs from HM.out.below hb)
    clear HM
    have HM := HM_
    clear HM_
    have HB_ := Lib.hid (show Below w.heap.size w w4 from below_then HB.out hb)
    clear HB
    have HB := HB_
    clear HB_
    have hsw4 := hb.size
    clear hb
    have BB := Lib.hid (Below.refl w4.heap.size w4)
    have hj0 := HM.out
    go_wp2_with fail
    refine wp_region_held_drew (S := fun w' => w'.cell? ⟨w2.heap.size, 0, none⟩ = some (.int .i64 0) ∧ w'.cell? ⟨w2.heap.size, 1, none⟩ = some (.int .i64 0) ∧ w'.cell? ⟨w2.heap.size, 2, none⟩ = some (.int .i64 0) ∧ w'.cell? ⟨w2.heap.size, 3, none⟩ = some (.int .i64 0) ∧ Ints w' A1 zs) (by kernel_rfl) ?_ (fun hHeld => ?_)
    · (try dsimp only)
      first | (((repeat' apply And.intro) <;> (first | ((repeat (first | (with_reducible assumption) | (with_reducible refine cell_keepD ?_) | (with_reducible refine cell_keepA ?_ _) | (with_reducible refine (hc1 _ _ (by go_size)).trans ?_) | (with_reducible refine ints_back ?_ hbz) | (with_reducible refine Ints.alloc ?_ _) | (with_reducible refine Ints.drew ?_))); done) | (go_cell; done)))) | fail
    first
      | (refine wpAnyH_take (i := 0) (v := ?_) rfl (by kernel_rfl) (by kernel_rfl) (by kernel_rfl) (fun _ _ _ h => h) (Or.inl ⟨by rfl, ?_⟩) (by assumption) ?_; rotate_left; · ((intro w hSw; (try dsimp only at hSw); go_simp); first | done | (with_reducible rfl)))
      | (refine wpAnyH_take (i := 0) (v := undef) rfl (by kernel_rfl) (by kernel_rfl) (by kernel_rfl) (fun _ _ _ h => h) (Or.inr ⟨by rfl, rfl⟩) (by assumption) ?_)
    (try simp only [Act.put, List.getElem_toArray, List.getElem_cons_zero, List.getElem_cons_succ, List.setIfInBounds_toArray, List.set_cons_zero, List.set_cons_succ])
    first
      | (refine wpAnyH_take (i := 1) (v := ?_) rfl (by kernel_rfl) (by kernel_rfl) (by kernel_rfl) (fun _ _ _ h => h) (Or.inl ⟨by rfl, ?_⟩) (by assumption) ?_; rotate_left; · ((intro w hSw; (try dsimp only at hSw); go_simp); first | done | (with_reducible rfl)))
      | (refine wpAnyH_take (i := 1) (v := undef) rfl (by kernel_rfl) (by kernel_rfl) (by kernel_rfl) (fun _ _ _ h => h) (Or.inr ⟨by rfl, rfl⟩) (by assumption) ?_)
    (try simp only [Act.put, List.getElem_toArray, List.getElem_cons_zero, List.getElem_cons_succ, List.setIfInBounds_toArray, List.set_cons_zero, List.set_cons_succ])
    first
      | (refine wpAnyH_take (i := 2) (v := ?_) rfl (by kernel_rfl) (by kernel_rfl) (by kernel_rfl) (fun _ _ _ h => h) (Or.inl ⟨by rfl, ?_⟩) (by assumption) ?_; rotate_left; · ((intro w hSw; (try dsimp only at hSw); go_simp); first | done | (with_reducible rfl)))
      | (refine wpAnyH_take (i := 2) (v := undef) rfl (by kernel_rfl) (by kernel_rfl) (by kernel_rfl) (fun _ _ _ h => h) (Or.inr ⟨by rfl, rfl⟩) (by assumption) ?_)
    (try simp only [Act.put, List.getElem_toArray, List.getElem_cons_zero, List.getElem_cons_succ, List.setIfInBounds_toArray, List.set_cons_zero, List.set_cons_succ])
    refine wpAnyH_ready (rs := [3]) (by kernel_rfl) (by simp) (AllReadyH.cons rfl (fun K hK => ?_) AllReadyH.nil)
    (try go_simp)
    first
      | (refine hK.out _ _ ?_ (fun hNew => ?_))
      | (((first | (go_at_call 14; refine (StopColor_sF hv _ _ _ _ hHeld.2.2.2.2 hzl hca HCM.out hm p HP.out).mono ?_; rintro e w5 ⟨rfl, hbz⟩; obtain ⟨hc1, hf1⟩ := bcell hbz; have hz1 := hbz.size; (try simp only [World.size_alloc, World.size_setCell, World.size_drew] at hz1); have z0w5 : w2.heap.size < w5.heap.size := (by omega); have BB_ := Lib.hid (show Below w4.heap.size w4 w5 from below_then (by have hhh := BB.out; go_grown) hbz); clear BB; have BB := BB_; clear BB_))); (try go_wp2_with fail); (refine hK.out _ _ ?_ (fun hNew => ?_)))
      | fail
    · (try dsimp only)
      first | ((try go_split_ands); (((repeat' apply And.intro) <;> (first | ((repeat (first | (with_reducible assumption) | (with_reducible refine cell_keepD ?_) | (with_reducible refine cell_keepA ?_ _) | (with_reducible refine (hc1 _ _ (by go_size)).trans ?_) | (with_reducible refine ints_back ?_ hbz) | (with_reducible refine Ints.alloc ?_ _) | (with_reducible refine Ints.drew ?_))); done) | (go_cell; done))))) | fail
    clear hK K hHeld
    have hHeld := hNew
    clear hNew
    (try clear hc1)
    (try clear hf1)
    (try simp only [Act.put, List.getElem_toArray, List.getElem_cons_zero, List.getElem_cons_succ, List.setIfInBounds_toArray, List.set_cons_zero, List.set_cons_succ])
    first
      | (refine wpAnyH_take (i := 4) (v := ?_) rfl (by kernel_rfl) (by kernel_rfl) (by kernel_rfl) (fun _ _ _ h => h) (Or.inl ⟨by rfl, ?_⟩) (by assumption) ?_; rotate_left; · ((intro w hSw; (try dsimp only at hSw); go_simp); first | done | (with_reducible rfl)))
      | (refine wpAnyH_take (i := 4) (v := undef) rfl (by kernel_rfl) (by kernel_rfl) (by kernel_rfl) (fun _ _ _ h => h) (Or.inr ⟨by rfl, rfl⟩) (by assumption) ?_)
    (try simp only [Act.put, List.getElem_toArray, List.getElem_cons_zero, List.getElem_cons_succ, List.setIfInBounds_toArray, List.set_cons_zero, List.set_cons_succ])
    first
      | (refine wpAnyH_take (i := 5) (v := ?_) rfl (by kernel_rfl) (by kernel_rfl) (by kernel_rfl) (fun _ _ _ h => h) (Or.inl ⟨by rfl, ?_⟩) (by assumption) ?_; rotate_left; · ((intro w hSw; (try dsimp only at hSw); go_simp); first | done | (with_reducible rfl)))
      | (refine wpAnyH_take (i := 5) (v := undef) rfl (by kernel_rfl) (by kernel_rfl) (by kernel_rfl) (fun _ _ _ h => h) (Or.inr ⟨by rfl, rfl⟩) (by assumption) ?_)
    (try simp only [Act.put, List.getElem_toArray, List.getElem_cons_zero, List.getElem_cons_succ, List.setIfInBounds_toArray, List.set_cons_zero, List.set_cons_succ])
    (try dsimp only at hHeld)
    obtain ⟨s6_0, s6_1, s6_2, s6_3, s6_4⟩ := hHeld
    refine wpAnyH_done (by kernel_rfl) ?_ _
    have hb := BB.out
    clear BB hj0
    have HM_ := Lib.hid (show Ints w5 A1 zs from HM.out.below hb)
    clear HM
    have HM := HM_
    clear HM_
    have HB_ := Lib.hid (show Below w.heap.size w w5 from below_then HB.out hb)
    clear HB
    have HB := HB_
    clear HB_
    have hsw5 := hb.size
    clear hb
    go_wp2
    go_ret
    exact ⟨ret_b (by first | rfl | simp), HB.out⟩
  go_wp2_with fail
  refine (StopColor_iT hv _ _ _ _ HM.out hzl hca HCM.out hm p HP.out).mono ?_
  rintro e w2 ⟨rfl, hbq⟩
  have hb := (show Below w1.heap.size w1 w2 from below_then (by go_grown) hbq)
  clear hbq
  have HM_ := Lib.hid (show Ints w2 A1 zs from HM.out.below hb)
  clear HM
  have HM := HM_
  clear HM_
  have HB_ := Lib.hid (show Below w.heap.size w w2 from below_then HB.out hb)
  clear HB
  have HB := HB_
  clear HB_
  have hsw2 := hb.size
  clear hb
  have BB := Lib.hid (Below.refl w2.heap.size w2)
  have hj0 := HM.out
  go_wp2_with fail
  refine wp_region_held_drew (S := fun w' => w'.cell? ⟨w2.heap.size, 0, none⟩ = some (.int .i64 (vC (sR zs) zs n p t)) ∧ w'.cell? ⟨w2.heap.size, 1, none⟩ = some (.int .i64 (vC (sG zs) zs n p t)) ∧ w'.cell? ⟨w2.heap.size, 2, none⟩ = some (.int .i64 (vC (sB zs) zs n p t)) ∧ w'.cell? ⟨w2.heap.size, 3, none⟩ = some (.int .i64 (vC (sA zs) zs n p t)) ∧ Ints w' A1 zs) (by kernel_rfl) ?_ (fun hHeld => ?_)
  · (try dsimp only)
    first | (((repeat' apply And.intro) <;> (first | ((repeat (first | (with_reducible assumption) | (with_reducible refine cell_keepD ?_) | (with_reducible refine cell_keepA ?_ _) | (with_reducible refine (hc1 _ _ (by go_size)).trans ?_) | (with_reducible refine ints_back ?_ hbz) | (with_reducible refine Ints.alloc ?_ _) | (with_reducible refine Ints.drew ?_))); done) | (go_cell; done)))) | fail
  first
    | (refine wpAnyH_take (i := 0) (v := ?_) rfl (by kernel_rfl) (by kernel_rfl) (by kernel_rfl) (fun _ _ _ h => h) (Or.inl ⟨by rfl, ?_⟩) (by assumption) ?_; rotate_left; · ((intro w hSw; (try dsimp only at hSw); go_simp); first | done | (with_reducible rfl)))
    | (refine wpAnyH_take (i := 0) (v := undef) rfl (by kernel_rfl) (by kernel_rfl) (by kernel_rfl) (fun _ _ _ h => h) (Or.inr ⟨by rfl, rfl⟩) (by assumption) ?_)
  (try simp only [Act.put, List.getElem_toArray, List.getElem_cons_zero, List.getElem_cons_succ, List.setIfInBounds_toArray, List.set_cons_zero, List.set_cons_succ])
  first
    | (refine wpAnyH_take (i := 1) (v := ?_) rfl (by kernel_rfl) (by kernel_rfl) (by kernel_rfl) (fun _ _ _ h => h) (Or.inl ⟨by rfl, ?_⟩) (by assumption) ?_; rotate_left; · ((intro w hSw; (try dsimp only at hSw); go_simp); first | done | (with_reducible rfl)))
    | (refine wpAnyH_take (i := 1) (v := undef) rfl (by kernel_rfl) (by kernel_rfl) (by kernel_rfl) (fun _ _ _ h => h) (Or.inr ⟨by rfl, rfl⟩) (by assumption) ?_)
  (try simp only [Act.put, List.getElem_toArray, List.getElem_cons_zero, List.getElem_cons_succ, List.setIfInBounds_toArray, List.set_cons_zero, List.set_cons_succ])
  first
    | (refine wpAnyH_take (i := 2) (v := ?_) rfl (by kernel_rfl) (by kernel_rfl) (by kernel_rfl) (fun _ _ _ h => h) (Or.inl ⟨by rfl, ?_⟩) (by assumption) ?_; rotate_left; · ((intro w hSw; (try dsimp only at hSw); go_simp); first | done | (with_reducible rfl)))
    | (refine wpAnyH_take (i := 2) (v := undef) rfl (by kernel_rfl) (by kernel_rfl) (by kernel_rfl) (fun _ _ _ h => h) (Or.inr ⟨by rfl, rfl⟩) (by assumption) ?_)
  (try simp only [Act.put, List.getElem_toArray, List.getElem_cons_zero, List.getElem_cons_succ, List.setIfInBounds_toArray, List.set_cons_zero, List.set_cons_succ])
  refine wpAnyH_ready (rs := [3]) (by kernel_rfl) (by simp) (AllReadyH.cons rfl (fun K hK => ?_) AllReadyH.nil)
  (try go_simp)
  first
    | (refine hK.out _ _ ?_ (fun hNew => ?_))
    | (((first | (go_at_call 14; refine (StopColor_sT hv _ _ _ _ hHeld.2.2.2.2 hzl hca HCM.out hm p HP.out).mono ?_; rintro e w3 ⟨rfl, hbz⟩; obtain ⟨hc1, hf1⟩ := bcell hbz; have hz1 := hbz.size; (try simp only [World.size_alloc, World.size_setCell, World.size_drew] at hz1); have z0w3 : w2.heap.size < w3.heap.size := (by omega); have BB_ := Lib.hid (show Below w2.heap.size w2 w3 from below_then (by have hhh := BB.out; go_grown) hbz); clear BB; have BB := BB_; clear BB_) | (go_at_call 12; refine (ValidStops_iT hv _ _ _ hHeld.2.2.2.2 hzl hm).mono ?_; rintro e w4 ⟨rfl, hbz⟩; obtain ⟨hc1, hf1⟩ := bcell hbz; have hz1 := hbz.size; (try simp only [World.size_alloc, World.size_setCell, World.size_drew] at hz1); have z0w4 : w2.heap.size < w4.heap.size := (by omega); have BB_ := Lib.hid (show Below w2.heap.size w2 w4 from below_then (by have hhh := BB.out; go_grown) hbz); clear BB; have BB := BB_; clear BB_))); (try go_wp2_with fail); (refine hK.out _ _ ?_ (fun hNew => ?_)))
    | fail
  · (try dsimp only)
    first | ((try go_split_ands); (((repeat' apply And.intro) <;> (first | ((repeat (first | (with_reducible assumption) | (with_reducible refine cell_keepD ?_) | (with_reducible refine cell_keepA ?_ _) | (with_reducible refine (hc1 _ _ (by go_size)).trans ?_) | (with_reducible refine ints_back ?_ hbz) | (with_reducible refine Ints.alloc ?_ _) | (with_reducible refine Ints.drew ?_))); done) | (go_cell; done))))) | fail
  clear hK K hHeld
  have hHeld := hNew
  clear hNew
  (try clear hc1)
  (try clear hf1)
  (try simp only [Act.put, List.getElem_toArray, List.getElem_cons_zero, List.getElem_cons_succ, List.setIfInBounds_toArray, List.set_cons_zero, List.set_cons_succ])
  first
    | (refine wpAnyH_take (i := 4) (v := ?_) rfl (by kernel_rfl) (by kernel_rfl) (by kernel_rfl) (fun _ _ _ h => h) (Or.inl ⟨by rfl, ?_⟩) (by assumption) ?_; rotate_left; · ((intro w hSw; (try dsimp only at hSw); go_simp); first | done | (with_reducible rfl)))
    | (refine wpAnyH_take (i := 4) (v := undef) rfl (by kernel_rfl) (by kernel_rfl) (by kernel_rfl) (fun _ _ _ h => h) (Or.inr ⟨by rfl, rfl⟩) (by assumption) ?_)
  (try simp only [Act.put, List.getElem_toArray, List.getElem_cons_zero, List.getElem_cons_succ, List.setIfInBounds_toArray, List.set_cons_zero, List.set_cons_succ])
  first
    | (refine wpAnyH_take (i := 5) (v := ?_) rfl (by kernel_rfl) (by kernel_rfl) (by kernel_rfl) (fun _ _ _ h => h) (Or.inl ⟨by rfl, ?_⟩) (by assumption) ?_; rotate_left; · ((intro w hSw; (try dsimp only at hSw); go_simp); first | done | (with_reducible rfl)))
    | (refine wpAnyH_take (i := 5) (v := undef) rfl (by kernel_rfl) (by kernel_rfl) (by kernel_rfl) (fun _ _ _ h => h) (Or.inr ⟨by rfl, rfl⟩) (by assumption) ?_)
  (try simp only [Act.put, List.getElem_toArray, List.getElem_cons_zero, List.getElem_cons_succ, List.setIfInBounds_toArray, List.set_cons_zero, List.set_cons_succ])
  first
    | (refine wpAnyH_take (i := 6) (v := ?_) rfl (by kernel_rfl) (by kernel_rfl) (by kernel_rfl) (fun _ _ _ h => h) (Or.inl ⟨by rfl, ?_⟩) (by assumption) ?_; rotate_left; · ((intro w hSw; (try dsimp only at hSw); go_simp); first | done | (with_reducible rfl)))
    | (refine wpAnyH_take (i := 6) (v := undef) rfl (by kernel_rfl) (by kernel_rfl) (by kernel_rfl) (fun _ _ _ h => h) (Or.inr ⟨by rfl, rfl⟩) (by assumption) ?_)
  (try simp only [Act.put, List.getElem_toArray, List.getElem_cons_zero, List.getElem_cons_succ, List.setIfInBounds_toArray, List.set_cons_zero, List.set_cons_succ])
  refine wpAnyH_ready (rs := [7]) (by kernel_rfl) (by simp) (AllReadyH.cons rfl (fun K hK => ?_) AllReadyH.nil)
  (try go_simp)
  first
    | (refine hK.out _ _ ?_ (fun hNew => ?_))
    | (((first | (go_at_call 14; refine (StopColor_sT hv _ _ _ _ hHeld.2.2.2.2 hzl hca HCM.out hm p HP.out).mono ?_; rintro e w3 ⟨rfl, hbz⟩; obtain ⟨hc1, hf1⟩ := bcell hbz; have hz1 := hbz.size; (try simp only [World.size_alloc, World.size_setCell, World.size_drew] at hz1); have z0w3 : w2.heap.size < w3.heap.size := (by omega); have BB_ := Lib.hid (show Below w2.heap.size w2 w3 from below_then (by have hhh := BB.out; go_grown) hbz); clear BB; have BB := BB_; clear BB_) | (go_at_call 12; refine (ValidStops_iT hv _ _ _ hHeld.2.2.2.2 hzl hm).mono ?_; rintro e w4 ⟨rfl, hbz⟩; obtain ⟨hc1, hf1⟩ := bcell hbz; have hz1 := hbz.size; (try simp only [World.size_alloc, World.size_setCell, World.size_drew] at hz1); have z0w4 : w2.heap.size < w4.heap.size := (by omega); have BB_ := Lib.hid (show Below w2.heap.size w2 w4 from below_then (by have hhh := BB.out; go_grown) hbz); clear BB; have BB := BB_; clear BB_))); (try go_wp2_with fail); (refine hK.out _ _ ?_ (fun hNew => ?_)))
    | fail
  · (try dsimp only)
    first | ((try go_split_ands); (((repeat' apply And.intro) <;> (first | ((repeat (first | (with_reducible assumption) | (with_reducible refine cell_keepD ?_) | (with_reducible refine cell_keepA ?_ _) | (with_reducible refine (hc1 _ _ (by go_size)).trans ?_) | (with_reducible refine ints_back ?_ hbz) | (with_reducible refine Ints.alloc ?_ _) | (with_reducible refine Ints.drew ?_))); done) | (go_cell; done))))) | fail
  clear hK K hHeld
  have hHeld := hNew
  clear hNew
  (try clear hc1)
  (try clear hf1)
  (try simp only [Act.put, List.getElem_toArray, List.getElem_cons_zero, List.getElem_cons_succ, List.setIfInBounds_toArray, List.set_cons_zero, List.set_cons_succ])
  first
    | (refine wpAnyH_take (i := 8) (v := ?_) rfl (by kernel_rfl) (by kernel_rfl) (by kernel_rfl) (fun _ _ _ h => h) (Or.inl ⟨by rfl, ?_⟩) (by assumption) ?_; rotate_left; · ((intro w hSw; (try dsimp only at hSw); go_simp); first | done | (with_reducible rfl)))
    | (refine wpAnyH_take (i := 8) (v := undef) rfl (by kernel_rfl) (by kernel_rfl) (by kernel_rfl) (fun _ _ _ h => h) (Or.inr ⟨by rfl, rfl⟩) (by assumption) ?_)
  (try simp only [Act.put, List.getElem_toArray, List.getElem_cons_zero, List.getElem_cons_succ, List.setIfInBounds_toArray, List.set_cons_zero, List.set_cons_succ])
  first
    | (refine wpAnyH_take (i := 9) (v := ?_) rfl (by kernel_rfl) (by kernel_rfl) (by kernel_rfl) (fun _ _ _ h => h) (Or.inl ⟨by rfl, ?_⟩) (by assumption) ?_; rotate_left; · ((intro w hSw; (try dsimp only at hSw); go_simp); first | done | (with_reducible rfl)))
    | (refine wpAnyH_take (i := 9) (v := undef) rfl (by kernel_rfl) (by kernel_rfl) (by kernel_rfl) (fun _ _ _ h => h) (Or.inr ⟨by rfl, rfl⟩) (by assumption) ?_)
  (try simp only [Act.put, List.getElem_toArray, List.getElem_cons_zero, List.getElem_cons_succ, List.setIfInBounds_toArray, List.set_cons_zero, List.set_cons_succ])
  (try dsimp only at hHeld)
  obtain ⟨s5_0, s5_1, s5_2, s5_3, s5_4⟩ := hHeld
  refine wpAnyH_done (by kernel_rfl) ?_ _
  have hb := BB.out
  clear BB hj0
  have HM_ := Lib.hid (show Ints w4 A1 zs from HM.out.below hb)
  clear HM
  have HM := HM_
  clear HM_
  have HB_ := Lib.hid (show Below w.heap.size w w4 from below_then HB.out hb)
  clear HB
  have HB := HB_
  clear HB_
  have hsw4 := hb.size
  clear hb
  have hok := stops_ok hv
  have hk1 := hok.n1
  have HOK := Lib.hid hok
  clear hok
  obtain ⟨bb, off, rfl, hbb, hcc⟩ := HM.out (by omega)
  have HCC := Lib.hid hcc
  clear hcc
  have zb : bb < w4.heap.size := hbb
  go_wp2
  go_loopw [6] (fun i wr => ∃ k : Nat, 0 < k ∧ k ≤ n ∧ i = .int .i64 k ∧ Below w4.heap.size w4 wr) (fun i _ => n - (intOf i).toNat)
  case atStart => exact ⟨1, Nat.one_pos, hk1, rfl, Below.refl _ _⟩
  case round =>
    obtain ⟨k, hk0, hk, rfl, hbel⟩ := hrel
    have HBel := Lib.hid hbel
    have hsr := hbel.size
    have m0 := (hbel.cell (p := ⟨w2.heap.size, 0, none⟩) (by show w2.heap.size < _; omega)).trans s5_0
    have m1 := (hbel.cell (p := ⟨w2.heap.size, 1, none⟩) (by show w2.heap.size < _; omega)).trans s5_1
    have m2 := (hbel.cell (p := ⟨w2.heap.size, 2, none⟩) (by show w2.heap.size < _; omega)).trans s5_2
    have m3 := (hbel.cell (p := ⟨w2.heap.size, 3, none⟩) (by show w2.heap.size < _; omega)).trans s5_3
    have hbr : bb < wr.heap.size := by omega
    have hcr2 : w2.heap.size < wr.heap.size := by omega
    have HCr := Lib.hid (show ∀ i, i < zs.length → wr.cell? ⟨bb, off + i, none⟩ = some (.int .i64 (nth zs i)) from fun i hi => (hbel.cell (p := ⟨bb, off + i, none⟩) hbb).trans (HCC.out i hi))
    clear hbel
    by_cases hlt : k < n
    · obtain ⟨m, rfl⟩ : ∃ m, k = m + 1 := ⟨k - 1, by omega⟩
      obtain ⟨q0, q1, q2, q3, q4⟩ := five_cells (w := wr) hzl HCr.out hlt
      obtain ⟨r0, r1, r2, r3, r4⟩ := five_cells (w := wr) hzl HCr.out (show m < n by omega)
      have hj : IntKind.i64.wrap (((m + 1 : Nat) : Int) - 1) = (m : Int) := by rw [IntWalk.i64_in _ (by omega)]; omega
      have hj0 : (0 : Int) ≤ (m : Int) := by omega
      have hj1 : (m : Int) < (n : Int) := by omega
      have hj2 : m < n := by omega
      have hk2 : (0 : Int) ≤ ((m + 1 : Nat) : Int) := by omega
      have hk3 : ((m + 1 : Nat) : Int) < (n : Int) := by omega
      by_cases x1 : sAt zs m ≤ t
      · by_cases x2 : t ≤ sAt zs (m + 1)
        · obtain ⟨bA1, bA2⟩ := vC_btw HOK.out HP.out (sA zs) hlt x1 x2
          obtain ⟨bR1, bR2⟩ := vC_btw HOK.out HP.out (sR zs) hlt x1 x2
          have nA : (if sA zs (m + 1) < sA zs m then sA zs (m + 1) else sA zs m) = min (sA zs m) (sA zs (m + 1)) := by split <;> omega
          have xA : (if sA zs m < sA zs (m + 1) then sA zs (m + 1) else sA zs m) = max (sA zs m) (sA zs (m + 1)) := by split <;> omega
          have nR : (if sR zs (m + 1) < sR zs m then sR zs (m + 1) else sR zs m) = min (sR zs m) (sR zs (m + 1)) := by split <;> omega
          have xR : (if sR zs m < sR zs (m + 1) then sR zs (m + 1) else sR zs m) = max (sR zs m) (sR zs (m + 1)) := by split <;> omega
          obtain ⟨mnA, hmnA⟩ : ∃ x, x = min (sA zs m) (sA zs (m + 1)) := ⟨_, rfl⟩
          obtain ⟨mxA, hmxA⟩ : ∃ x, x = max (sA zs m) (sA zs (m + 1)) := ⟨_, rfl⟩
          obtain ⟨mnR, hmnR⟩ : ∃ x, x = min (sR zs m) (sR zs (m + 1)) := ⟨_, rfl⟩
          obtain ⟨mxR, hmxR⟩ : ∃ x, x = max (sR zs m) (sR zs (m + 1)) := ⟨_, rfl⟩
          rw [← hmnA] at nA bA1
          rw [← hmxA] at xA bA2
          rw [← hmnR] at nR bR1
          rw [← hmxR] at xR bR2
          have d1 : decide (vC (sA zs) zs n p t < mnA) = false := by simp; omega
          have d2 : decide (mxA < vC (sA zs) zs n p t) = false := by simp; omega
          have d3 : decide (vC (sR zs) zs n p t < mnR) = false := by simp; omega
          have d4 : decide (mxR < vC (sR zs) zs n p t) = false := by simp; omega
          clear hmnA hmxA hmnR hmxR
          go_wp2
          go_roundw
          case rel => exact ⟨m + 1 + 1, by omega, by omega, by go_num, by have hhh := HBel.out; go_grown⟩
          case measure => simp [intOf]; omega
        · go_wp2
          go_roundw
          case rel => exact ⟨m + 1 + 1, by omega, by omega, by go_num, by have hhh := HBel.out; go_grown⟩
          case measure => simp [intOf]; omega
      · go_wp2
        go_roundw
        case rel => exact ⟨m + 1 + 1, by omega, by omega, by go_num, by have hhh := HBel.out; go_grown⟩
        case measure => simp [intOf]; omega
    · have hkn : (n : Int) ≤ (k : Int) := by omega
      go_wp2
      go_ret
      exact ⟨rfl, below_then HB.out HBel.out⟩

end Go.Proofs.Ytkihbfohdennjaa
