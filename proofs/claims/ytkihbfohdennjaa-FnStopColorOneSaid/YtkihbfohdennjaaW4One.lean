/-
  The walk of FnStopColorOne: it returns true for every code.
-/
import Derived.Test.YtkihbfohdennjaaStopCV
import Derived.Test.YtkihbfohdennjaaW4LValid
import Derived.Deep.RegionHeld3
import Derived.Deep.DrawnRows
import Derived.Deep.DeepCutAuto
namespace Go.Proofs.Ytkihbfohdennjaa
open Go.RowKit
set_option linter.unusedSimpArgs false
set_option linter.unusedVariables false

attribute [local go_sem ↓] Go.wp_at_zero Go.wp_at_succ
set_option maxHeartbeats 8000000 in
theorem walk_FnStopColorOne (w : World) (a0 : Option Addr) (len0 cap0 : Nat) (z0 : List Int) (w0 : IsRow .u8 w a0 len0 cap0 z0) :
    Calls Try.prog 7 #[.slice a0 len0 cap0] w fun e w' => e = .returned (.bool true) ∧ Below w.heap.size w w' := by
  have HC := Lib.hid w0.code
  clear w0
  by_cases hl : 1048576 < len0
  · have hl2 : (1048576 : Int) < (len0 : Int) := by omega
    go_enter Try.func7, Try.ntmps7
    go_wp2
    go_ret
    exact ⟨rfl, Below.refl _ _⟩
  have hl2 : ¬ (1048576 : Int) < (len0 : Int) := by omega
  go_enter Try.func7, Try.ntmps7
  go_wp2_with fail
  refine (DrawStopColor_c _ _ _ _ HC.out).mono ?_
  rintro e w1 ⟨zs, A1, cap1, n, t, hn5, hzl, hca, hcb, t0, t1, rfl, hi1, hb1⟩
  have HM := Lib.hid hi1
  have HB := Lib.hid hb1
  have HCM := Lib.hid hcb
  have hcb2 := hcb
  unfold maxLen at hcb2
  clear hi1 hb1 hcb
  obtain ⟨p, hp⟩ := place_ex zs n t
  have HP := Lib.hid hp
  have hm : n ≤ 1000000000000 := by omega
  clear hp
  cases hv : stopsB zs n
  · go_wp2_with fail
    refine (StopColor_iF hv _ _ _ _ HM.out hzl hca HCM.out hm p HP.out).mono ?_
    rintro e w2 ⟨rfl, hbq⟩
    have hb := (show Below w1.heap.size w1 w2 from below_then (by go_grown) hbq)
    clear hbq
    have HM_ := Lib.hid (show Ints w2 A1 zs from HM.out.below hb)
    clear HM
    have HM := HM_
    clear HM_
    have HB_ := Lib.hid (show Below w.heap.size w w2 from below_then HB.out hb)
    clear HB
    have HB := HB_
    clear HB_
    have hsw2 := hb.size
    clear hb
    have BB := Lib.hid (Below.refl w2.heap.size w2)
    have hj0 := HM.out
    go_wp2_with fail
    refine wp_region_held_drew (S := fun w' => w'.cell? ⟨w2.heap.size, 0, none⟩ = some (.int .i64 0) ∧ w'.cell? ⟨w2.heap.size, 1, none⟩ = some (.int .i64 0) ∧ w'.cell? ⟨w2.heap.size, 2, none⟩ = some (.int .i64 0) ∧ w'.cell? ⟨w2.heap.size, 3, none⟩ = some (.int .i64 0) ∧ Ints w' A1 zs) (by kernel_rfl) ?_ (fun hHeld => ?_)
    · (try dsimp only)
      first | (((repeat' apply And.intro) <;> (first | ((repeat (first | (with_reducible assumption) | (with_reducible refine cell_keepD ?_) | (with_reducible refine cell_keepA ?_ _) | (with_reducible refine (hc1 _ _ (by go_size)).trans ?_) | (with_reducible refine ints_back ?_ hbz) | (with_reducible refine Ints.alloc ?_ _) | (with_reducible refine Ints.drew ?_))); done) | (go_cell; done)))) | fail
    first
      | (refine wpAnyH_take (i := 0) (v := ?_) rfl (by kernel_rfl) (by kernel_rfl) (by kernel_rfl) (fun _ _ _ h => h) (Or.inl ⟨by rfl, ?_⟩) (by assumption) ?_; rotate_left; · ((intro w hSw; (try dsimp only at hSw); go_simp); first | done | (with_reducible rfl)))
      | (refine wpAnyH_take (i := 0) (v := undef) rfl (by kernel_rfl) (by kernel_rfl) (by kernel_rfl) (fun _ _ _ h => h) (Or.inr ⟨by rfl, rfl⟩) (by assumption) ?_)
    (try simp only [Act.put, List.getElem_toArray, List.getElem_cons_zero, List.getElem_cons_succ, List.setIfInBounds_toArray, List.set_cons_zero, List.set_cons_succ])
    first
      | (refine wpAnyH_take (i := 1) (v := ?_) rfl (by kernel_rfl) (by kernel_rfl) (by kernel_rfl) (fun _ _ _ h => h) (Or.inl ⟨by rfl, ?_⟩) (by assumption) ?_; rotate_left; · ((intro w hSw; (try dsimp only at hSw); go_simp); first | done | (with_reducible rfl)))
      | (refine wpAnyH_take (i := 1) (v := undef) rfl (by kernel_rfl) (by kernel_rfl) (by kernel_rfl) (fun _ _ _ h => h) (Or.inr ⟨by rfl, rfl⟩) (by assumption) ?_)
    (try simp only [Act.put, List.getElem_toArray, List.getElem_cons_zero, List.getElem_cons_succ, List.setIfInBounds_toArray, List.set_cons_zero, List.set_cons_succ])
    first
      | (refine wpAnyH_take (i := 2) (v := ?_) rfl (by kernel_rfl) (by kernel_rfl) (by kernel_rfl) (fun _ _ _ h => h) (Or.inl ⟨by rfl, ?_⟩) (by assumption) ?_; rotate_left; · ((intro w hSw; (try dsimp only at hSw); go_simp); first | done | (with_reducible rfl)))
      | (refine wpAnyH_take (i := 2) (v := undef) rfl (by kernel_rfl) (by kernel_rfl) (by kernel_rfl) (fun _ _ _ h => h) (Or.inr ⟨by rfl, rfl⟩) (by assumption) ?_)
    (try simp only [Act.put, List.getElem_toArray, List.getElem_cons_zero, List.getElem_cons_succ, List.setIfInBounds_toArray, List.set_cons_zero, List.set_cons_succ])
    refine wpAnyH_ready (rs := [3]) (by kernel_rfl) (by simp) (AllReadyH.cons rfl (fun K hK => ?_) AllReadyH.nil)
    (try go_simp)
    first
      | (refine hK.out _ _ ?_ (fun hNew => ?_))
      | (((first | (go_at_call 14; refine (StopColor_sF hv _ _ _ _ hHeld.2.2.2.2 hzl hca HCM.out hm p HP.out).mono ?_; rintro e w3 ⟨rfl, hbz⟩; obtain ⟨hc1, hf1⟩ := bcell hbz; have hz1 := hbz.size; (try simp only [World.size_alloc, World.size_setCell, World.size_drew] at hz1); have z0w3 : w2.heap.size < w3.heap.size := (by omega); have BB_ := Lib.hid (show Below w2.heap.size w2 w3 from below_then (by have hhh := BB.out; go_grown) hbz); clear BB; have BB := BB_; clear BB_) | (go_at_call 12; refine (ValidStops_iF hv _ _ _ hHeld.2.2.2.2 hzl hm).mono ?_; rintro e w4 ⟨rfl, hbz⟩; obtain ⟨hc1, hf1⟩ := bcell hbz; have hz1 := hbz.size; (try simp only [World.size_alloc, World.size_setCell, World.size_drew] at hz1); have z0w4 : w2.heap.size < w4.heap.size := (by omega); have BB_ := Lib.hid (show Below w2.heap.size w2 w4 from below_then (by have hhh := BB.out; go_grown) hbz); clear BB; have BB := BB_; clear BB_))); (try go_wp2_with fail); (refine hK.out _ _ ?_ (fun hNew => ?_)))
      | fail
    · (try dsimp only)
      first | ((try go_split_ands); (((repeat' apply And.intro) <;> (first | ((repeat (first | (with_reducible assumption) | (with_reducible refine cell_keepD ?_) | (with_reducible refine cell_keepA ?_ _) | (with_reducible refine (hc1 _ _ (by go_size)).trans ?_) | (with_reducible refine ints_back ?_ hbz) | (with_reducible refine Ints.alloc ?_ _) | (with_reducible refine Ints.drew ?_))); done) | (go_cell; done))))) | fail
    clear hK K hHeld
    have hHeld := hNew
    clear hNew
    (try clear hc1)
    (try clear hf1)
    (try simp only [Act.put, List.getElem_toArray, List.getElem_cons_zero, List.getElem_cons_succ, List.setIfInBounds_toArray, List.set_cons_zero, List.set_cons_succ])
    first
      | (refine wpAnyH_take (i := 4) (v := ?_) rfl (by kernel_rfl) (by kernel_rfl) (by kernel_rfl) (fun _ _ _ h => h) (Or.inl ⟨by rfl, ?_⟩) (by assumption) ?_; rotate_left; · ((intro w hSw; (try dsimp only at hSw); go_simp); first | done | (with_reducible rfl)))
      | (refine wpAnyH_take (i := 4) (v := undef) rfl (by kernel_rfl) (by kernel_rfl) (by kernel_rfl) (fun _ _ _ h => h) (Or.inr ⟨by rfl, rfl⟩) (by assumption) ?_)
    (try simp only [Act.put, List.getElem_toArray, List.getElem_cons_zero, List.getElem_cons_succ, List.setIfInBounds_toArray, List.set_cons_zero, List.set_cons_succ])
    first
      | (refine wpAnyH_take (i := 5) (v := ?_) rfl (by kernel_rfl) (by kernel_rfl) (by kernel_rfl) (fun _ _ _ h => h) (Or.inl ⟨by rfl, ?_⟩) (by assumption) ?_; rotate_left; · ((intro w hSw; (try dsimp only at hSw); go_simp); first | done | (with_reducible rfl)))
      | (refine wpAnyH_take (i := 5) (v := undef) rfl (by kernel_rfl) (by kernel_rfl) (by kernel_rfl) (fun _ _ _ h => h) (Or.inr ⟨by rfl, rfl⟩) (by assumption) ?_)
    (try simp only [Act.put, List.getElem_toArray, List.getElem_cons_zero, List.getElem_cons_succ, List.setIfInBounds_toArray, List.set_cons_zero, List.set_cons_succ])
    first
      | (refine wpAnyH_take (i := 6) (v := ?_) rfl (by kernel_rfl) (by kernel_rfl) (by kernel_rfl) (fun _ _ _ h => h) (Or.inl ⟨by rfl, ?_⟩) (by assumption) ?_; rotate_left; · ((intro w hSw; (try dsimp only at hSw); go_simp); first | done | (with_reducible rfl)))
      | (refine wpAnyH_take (i := 6) (v := undef) rfl (by kernel_rfl) (by kernel_rfl) (by kernel_rfl) (fun _ _ _ h => h) (Or.inr ⟨by rfl, rfl⟩) (by assumption) ?_)
    (try simp only [Act.put, List.getElem_toArray, List.getElem_cons_zero, List.getElem_cons_succ, List.setIfInBounds_toArray, List.set_cons_zero, List.set_cons_succ])
    refine wpAnyH_ready (rs := [7]) (by kernel_rfl) (by simp) (AllReadyH.cons rfl (fun K hK => ?_) AllReadyH.nil)
    (try go_simp)
    first
      | (refine hK.out _ _ ?_ (fun hNew => ?_))
      | (((first | (go_at_call 14; refine (StopColor_sF hv _ _ _ _ hHeld.2.2.2.2 hzl hca HCM.out hm p HP.out).mono ?_; rintro e w3 ⟨rfl, hbz⟩; obtain ⟨hc1, hf1⟩ := bcell hbz; have hz1 := hbz.size; (try simp only [World.size_alloc, World.size_setCell, World.size_drew] at hz1); have z0w3 : w2.heap.size < w3.heap.size := (by omega); have BB_ := Lib.hid (show Below w2.heap.size w2 w3 from below_then (by have hhh := BB.out; go_grown) hbz); clear BB; have BB := BB_; clear BB_) | (go_at_call 12; refine (ValidStops_iF hv _ _ _ hHeld.2.2.2.2 hzl hm).mono ?_; rintro e w4 ⟨rfl, hbz⟩; obtain ⟨hc1, hf1⟩ := bcell hbz; have hz1 := hbz.size; (try simp only [World.size_alloc, World.size_setCell, World.size_drew] at hz1); have z0w4 : w2.heap.size < w4.heap.size := (by omega); have BB_ := Lib.hid (show Below w2.heap.size w2 w4 from below_then (by have hhh := BB.out; go_grown) hbz); clear BB; have BB := BB_; clear BB_))); (try go_wp2_with fail); (refine hK.out _ _ ?_ (fun hNew => ?_)))
      | fail
    · (try dsimp only)
      first | ((try go_split_ands); (((repeat' apply And.intro) <;> (first | ((repeat (first | (with_reducible assumption) | (with_reducible refine cell_keepD ?_) | (with_reducible refine cell_keepA ?_ _) | (with_reducible refine (hc1 _ _ (by go_size)).trans ?_) | (with_reducible refine ints_back ?_ hbz) | (with_reducible refine Ints.alloc ?_ _) | (with_reducible refine Ints.drew ?_))); done) | (go_cell; done))))) | fail
    clear hK K hHeld
    have hHeld := hNew
    clear hNew
    (try clear hc1)
    (try clear hf1)
    (try simp only [Act.put, List.getElem_toArray, List.getElem_cons_zero, List.getElem_cons_succ, List.setIfInBounds_toArray, List.set_cons_zero, List.set_cons_succ])
    first
      | (refine wpAnyH_take (i := 8) (v := ?_) rfl (by kernel_rfl) (by kernel_rfl) (by kernel_rfl) (fun _ _ _ h => h) (Or.inl ⟨by rfl, ?_⟩) (by assumption) ?_; rotate_left; · ((intro w hSw; (try dsimp only at hSw); go_simp); first | done | (with_reducible rfl)))
      | (refine wpAnyH_take (i := 8) (v := undef) rfl (by kernel_rfl) (by kernel_rfl) (by kernel_rfl) (fun _ _ _ h => h) (Or.inr ⟨by rfl, rfl⟩) (by assumption) ?_)
    (try simp only [Act.put, List.getElem_toArray, List.getElem_cons_zero, List.getElem_cons_succ, List.setIfInBounds_toArray, List.set_cons_zero, List.set_cons_succ])
    first
      | (refine wpAnyH_take (i := 9) (v := ?_) rfl (by kernel_rfl) (by kernel_rfl) (by kernel_rfl) (fun _ _ _ h => h) (Or.inl ⟨by rfl, ?_⟩) (by assumption) ?_; rotate_left; · ((intro w hSw; (try dsimp only at hSw); go_simp); first | done | (with_reducible rfl)))
      | (refine wpAnyH_take (i := 9) (v := undef) rfl (by kernel_rfl) (by kernel_rfl) (by kernel_rfl) (fun _ _ _ h => h) (Or.inr ⟨by rfl, rfl⟩) (by assumption) ?_)
    (try simp only [Act.put, List.getElem_toArray, List.getElem_cons_zero, List.getElem_cons_succ, List.setIfInBounds_toArray, List.set_cons_zero, List.set_cons_succ])
    (try dsimp only at hHeld)
    obtain ⟨s5_0, s5_1, s5_2, s5_3, s5_4⟩ := hHeld
    refine wpAnyH_done (by kernel_rfl) ?_ _
    have hb := BB.out
    clear BB hj0
    have HM_ := Lib.hid (show Ints w4 A1 zs from HM.out.below hb)
    clear HM
    have HM := HM_
    clear HM_
    have HB_ := Lib.hid (show Below w.heap.size w w4 from below_then HB.out hb)
    clear HB
    have HB := HB_
    clear HB_
    have hsw4 := hb.size
    clear hb
    have BB := Lib.hid (Below.refl w4.heap.size w4)
    have hj0 := HM.out
    go_wp2_with fail
    refine wp_region_held_drew (S := fun w' => w'.cell? ⟨w2.heap.size, 0, none⟩ = some (.int .i64 0) ∧ w'.cell? ⟨w2.heap.size, 1, none⟩ = some (.int .i64 0) ∧ w'.cell? ⟨w2.heap.size, 2, none⟩ = some (.int .i64 0) ∧ w'.cell? ⟨w2.heap.size, 3, none⟩ = some (.int .i64 0) ∧ Ints w' A1 zs) (by kernel_rfl) ?_ (fun hHeld => ?_)
    · (try dsimp only)
      first | (((repeat' apply And.intro) <;> (first | ((repeat (first | (with_reducible assumption) | (with_reducible refine cell_keepD ?_) | (with_reducible refine cell_keepA ?_ _) | (with_reducible refine (hc1 _ _ (by go_size)).trans ?_) | (with_reducible refine ints_back ?_ hbz) | (with_reducible refine Ints.alloc ?_ _) | (with_reducible refine Ints.drew ?_))); done) | (go_cell; done)))) | fail
    first
      | (refine wpAnyH_take (i := 0) (v := ?_) rfl (by kernel_rfl) (by kernel_rfl) (by kernel_rfl) (fun _ _ _ h => h) (Or.inl ⟨by rfl, ?_⟩) (by assumption) ?_; rotate_left; · ((intro w hSw; (try dsimp only at hSw); go_simp); first | done | (with_reducible rfl)))
      | (refine wpAnyH_take (i := 0) (v := undef) rfl (by kernel_rfl) (by kernel_rfl) (by kernel_rfl) (fun _ _ _ h => h) (Or.inr ⟨by rfl, rfl⟩) (by assumption) ?_)
    (try simp only [Act.put, List.getElem_toArray, List.getElem_cons_zero, List.getElem_cons_succ, List.setIfInBounds_toArray, List.set_cons_zero, List.set_cons_succ])
    first
      | (refine wpAnyH_take (i := 1) (v := ?_) rfl (by kernel_rfl) (by kernel_rfl) (by kernel_rfl) (fun _ _ _ h => h) (Or.inl ⟨by rfl, ?_⟩) (by assumption) ?_; rotate_left; · ((intro w hSw; (try dsimp only at hSw); go_simp); first | done | (with_reducible rfl)))
      | (refine wpAnyH_take (i := 1) (v := undef) rfl (by kernel_rfl) (by kernel_rfl) (by kernel_rfl) (fun _ _ _ h => h) (Or.inr ⟨by rfl, rfl⟩) (by assumption) ?_)
    (try simp only [Act.put, List.getElem_toArray, List.getElem_cons_zero, List.getElem_cons_succ, List.setIfInBounds_toArray, List.set_cons_zero, List.set_cons_succ])
    first
      | (refine wpAnyH_take (i := 2) (v := ?_) rfl (by kernel_rfl) (by kernel_rfl) (by kernel_rfl) (fun _ _ _ h => h) (Or.inl ⟨by rfl, ?_⟩) (by assumption) ?_; rotate_left; · ((intro w hSw; (try dsimp only at hSw); go_simp); first | done | (with_reducible rfl)))
      | (refine wpAnyH_take (i := 2) (v := undef) rfl (by kernel_rfl) (by kernel_rfl) (by kernel_rfl) (fun _ _ _ h => h) (Or.inr ⟨by rfl, rfl⟩) (by assumption) ?_)
    (try simp only [Act.put, List.getElem_toArray, List.getElem_cons_zero, List.getElem_cons_succ, List.setIfInBounds_toArray, List.set_cons_zero, List.set_cons_succ])
    refine wpAnyH_ready (rs := [3]) (by kernel_rfl) (by simp) (AllReadyH.cons rfl (fun K hK => ?_) AllReadyH.nil)
    (try go_simp)
    first
      | (refine hK.out _ _ ?_ (fun hNew => ?_))
      | (((first | (go_at_call 14; refine (StopColor_sF hv _ _ _ _ hHeld.2.2.2.2 hzl hca HCM.out hm p HP.out).mono ?_; rintro e w5 ⟨rfl, hbz⟩; obtain ⟨hc1, hf1⟩ := bcell hbz; have hz1 := hbz.size; (try simp only [World.size_alloc, World.size_setCell, World.size_drew] at hz1); have z0w5 : w2.heap.size < w5.heap.size := (by omega); have BB_ := Lib.hid (show Below w4.heap.size w4 w5 from below_then (by have hhh := BB.out; go_grown) hbz); clear BB; have BB := BB_; clear BB_))); (try go_wp2_with fail); (refine hK.out _ _ ?_ (fun hNew => ?_)))
      | fail
    · (try dsimp only)
      first | ((try go_split_ands); (((repeat' apply And.intro) <;> (first | ((repeat (first | (with_reducible assumption) | (with_reducible refine cell_keepD ?_) | (with_reducible refine cell_keepA ?_ _) | (with_reducible refine (hc1 _ _ (by go_size)).trans ?_) | (with_reducible refine ints_back ?_ hbz) | (with_reducible refine Ints.alloc ?_ _) | (with_reducible refine Ints.drew ?_))); done) | (go_cell; done))))) | fail
    clear hK K hHeld
    have hHeld := hNew
    clear hNew
    (try clear hc1)
    (try clear hf1)
    (try simp only [Act.put, List.getElem_toArray, List.getElem_cons_zero, List.getElem_cons_succ, List.setIfInBounds_toArray, List.set_cons_zero, List.set_cons_succ])
    first
      | (refine wpAnyH_take (i := 4) (v := ?_) rfl (by kernel_rfl) (by kernel_rfl) (by kernel_rfl) (fun _ _ _ h => h) (Or.inl ⟨by rfl, ?_⟩) (by assumption) ?_; rotate_left; · ((intro w hSw; (try dsimp only at hSw); go_simp); first | done | (with_reducible rfl)))
      | (refine wpAnyH_take (i := 4) (v := undef) rfl (by kernel_rfl) (by kernel_rfl) (by kernel_rfl) (fun _ _ _ h => h) (Or.inr ⟨by rfl, rfl⟩) (by assumption) ?_)
    (try simp only [Act.put, List.getElem_toArray, List.getElem_cons_zero, List.getElem_cons_succ, List.setIfInBounds_toArray, List.set_cons_zero, List.set_cons_succ])
    first
      | (refine wpAnyH_take (i := 5) (v := ?_) rfl (by kernel_rfl) (by kernel_rfl) (by kernel_rfl) (fun _ _ _ h => h) (Or.inl ⟨by rfl, ?_⟩) (by assumption) ?_; rotate_left; · ((intro w hSw; (try dsimp only at hSw); go_simp); first | done | (with_reducible rfl)))
      | (refine wpAnyH_take (i := 5) (v := undef) rfl (by kernel_rfl) (by kernel_rfl) (by kernel_rfl) (fun _ _ _ h => h) (Or.inr ⟨by rfl, rfl⟩) (by assumption) ?_)
    (try simp only [Act.put, List.getElem_toArray, List.getElem_cons_zero, List.getElem_cons_succ, List.setIfInBounds_toArray, List.set_cons_zero, List.set_cons_succ])
    (try dsimp only at hHeld)
    obtain ⟨s6_0, s6_1, s6_2, s6_3, s6_4⟩ := hHeld
    refine wpAnyH_done (by kernel_rfl) ?_ _
    have hb := BB.out
    clear BB hj0
    have HM_ := Lib.hid (show Ints w5 A1 zs from HM.out.below hb)
    clear HM
    have HM := HM_
    clear HM_
    have HB_ := Lib.hid (show Below w.heap.size w w5 from below_then HB.out hb)
    clear HB
    have HB := HB_
    clear HB_
    have hsw5 := hb.size
    clear hb
    go_wp2
    go_ret
    exact ⟨ret_b (by first | rfl | simp), HB.out⟩
  go_wp2_with fail
  refine (StopColor_iT hv _ _ _ _ HM.out hzl hca HCM.out hm p HP.out).mono ?_
  rintro e w2 ⟨rfl, hbq⟩
  have hb := (show Below w1.heap.size w1 w2 from below_then (by go_grown) hbq)
  clear hbq
  have HM_ := Lib.hid (show Ints w2 A1 zs from HM.out.below hb)
  clear HM
  have HM := HM_
  clear HM_
  have HB_ := Lib.hid (show Below w.heap.size w w2 from below_then HB.out hb)
  clear HB
  have HB := HB_
  clear HB_
  have hsw2 := hb.size
  clear hb
  have BB := Lib.hid (Below.refl w2.heap.size w2)
  have hj0 := HM.out
  go_wp2_with fail
  refine wp_region_held_drew (S := fun w' => w'.cell? ⟨w2.heap.size, 0, none⟩ = some (.int .i64 (vC (sR zs) zs n p t)) ∧ w'.cell? ⟨w2.heap.size, 1, none⟩ = some (.int .i64 (vC (sG zs) zs n p t)) ∧ w'.cell? ⟨w2.heap.size, 2, none⟩ = some (.int .i64 (vC (sB zs) zs n p t)) ∧ w'.cell? ⟨w2.heap.size, 3, none⟩ = some (.int .i64 (vC (sA zs) zs n p t)) ∧ Ints w' A1 zs) (by kernel_rfl) ?_ (fun hHeld => ?_)
  · (try dsimp only)
    first | (((repeat' apply And.intro) <;> (first | ((repeat (first | (with_reducible assumption) | (with_reducible refine cell_keepD ?_) | (with_reducible refine cell_keepA ?_ _) | (with_reducible refine (hc1 _ _ (by go_size)).trans ?_) | (with_reducible refine ints_back ?_ hbz) | (with_reducible refine Ints.alloc ?_ _) | (with_reducible refine Ints.drew ?_))); done) | (go_cell; done)))) | fail
  first
    | (refine wpAnyH_take (i := 0) (v := ?_) rfl (by kernel_rfl) (by kernel_rfl) (by kernel_rfl) (fun _ _ _ h => h) (Or.inl ⟨by rfl, ?_⟩) (by assumption) ?_; rotate_left; · ((intro w hSw; (try dsimp only at hSw); go_simp); first | done | (with_reducible rfl)))
    | (refine wpAnyH_take (i := 0) (v := undef) rfl (by kernel_rfl) (by kernel_rfl) (by kernel_rfl) (fun _ _ _ h => h) (Or.inr ⟨by rfl, rfl⟩) (by assumption) ?_)
  (try simp only [Act.put, List.getElem_toArray, List.getElem_cons_zero, List.getElem_cons_succ, List.setIfInBounds_toArray, List.set_cons_zero, List.set_cons_succ])
  first
    | (refine wpAnyH_take (i := 1) (v := ?_) rfl (by kernel_rfl) (by kernel_rfl) (by kernel_rfl) (fun _ _ _ h => h) (Or.inl ⟨by rfl, ?_⟩) (by assumption) ?_; rotate_left; · ((intro w hSw; (try dsimp only at hSw); go_simp); first | done | (with_reducible rfl)))
    | (refine wpAnyH_take (i := 1) (v := undef) rfl (by kernel_rfl) (by kernel_rfl) (by kernel_rfl) (fun _ _ _ h => h) (Or.inr ⟨by rfl, rfl⟩) (by assumption) ?_)
  (try simp only [Act.put, List.getElem_toArray, List.getElem_cons_zero, List.getElem_cons_succ, List.setIfInBounds_toArray, List.set_cons_zero, List.set_cons_succ])
  first
    | (refine wpAnyH_take (i := 2) (v := ?_) rfl (by kernel_rfl) (by kernel_rfl) (by kernel_rfl) (fun _ _ _ h => h) (Or.inl ⟨by rfl, ?_⟩) (by assumption) ?_; rotate_left; · ((intro w hSw; (try dsimp only at hSw); go_simp); first | done | (with_reducible rfl)))
    | (refine wpAnyH_take (i := 2) (v := undef) rfl (by kernel_rfl) (by kernel_rfl) (by kernel_rfl) (fun _ _ _ h => h) (Or.inr ⟨by rfl, rfl⟩) (by assumption) ?_)
  (try simp only [Act.put, List.getElem_toArray, List.getElem_cons_zero, List.getElem_cons_succ, List.setIfInBounds_toArray, List.set_cons_zero, List.set_cons_succ])
  refine wpAnyH_ready (rs := [3]) (by kernel_rfl) (by simp) (AllReadyH.cons rfl (fun K hK => ?_) AllReadyH.nil)
  (try go_simp)
  first
    | (refine hK.out _ _ ?_ (fun hNew => ?_))
    | (((first | (go_at_call 14; refine (StopColor_sT hv _ _ _ _ hHeld.2.2.2.2 hzl hca HCM.out hm p HP.out).mono ?_; rintro e w3 ⟨rfl, hbz⟩; obtain ⟨hc1, hf1⟩ := bcell hbz; have hz1 := hbz.size; (try simp only [World.size_alloc, World.size_setCell, World.size_drew] at hz1); have z0w3 : w2.heap.size < w3.heap.size := (by omega); have BB_ := Lib.hid (show Below w2.heap.size w2 w3 from below_then (by have hhh := BB.out; go_grown) hbz); clear BB; have BB := BB_; clear BB_) | (go_at_call 12; refine (ValidStops_iT hv _ _ _ hHeld.2.2.2.2 hzl hm).mono ?_; rintro e w4 ⟨rfl, hbz⟩; obtain ⟨hc1, hf1⟩ := bcell hbz; have hz1 := hbz.size; (try simp only [World.size_alloc, World.size_setCell, World.size_drew] at hz1); have z0w4 : w2.heap.size < w4.heap.size := (by omega); have BB_ := Lib.hid (show Below w2.heap.size w2 w4 from below_then (by have hhh := BB.out; go_grown) hbz); clear BB; have BB := BB_; clear BB_))); (try go_wp2_with fail); (refine hK.out _ _ ?_ (fun hNew => ?_)))
    | fail
  · (try dsimp only)
    first | ((try go_split_ands); (((repeat' apply And.intro) <;> (first | ((repeat (first | (with_reducible assumption) | (with_reducible refine cell_keepD ?_) | (with_reducible refine cell_keepA ?_ _) | (with_reducible refine (hc1 _ _ (by go_size)).trans ?_) | (with_reducible refine ints_back ?_ hbz) | (with_reducible refine Ints.alloc ?_ _) | (with_reducible refine Ints.drew ?_))); done) | (go_cell; done))))) | fail
  clear hK K hHeld
  have hHeld := hNew
  clear hNew
  (try clear hc1)
  (try clear hf1)
  (try simp only [Act.put, List.getElem_toArray, List.getElem_cons_zero, List.getElem_cons_succ, List.setIfInBounds_toArray, List.set_cons_zero, List.set_cons_succ])
  first
    | (refine wpAnyH_take (i := 4) (v := ?_) rfl (by kernel_rfl) (by kernel_rfl) (by kernel_rfl) (fun _ _ _ h => h) (Or.inl ⟨by rfl, ?_⟩) (by assumption) ?_; rotate_left; · ((intro w hSw; (try dsimp only at hSw); go_simp); first | done | (with_reducible rfl)))
    | (refine wpAnyH_take (i := 4) (v := undef) rfl (by kernel_rfl) (by kernel_rfl) (by kernel_rfl) (fun _ _ _ h => h) (Or.inr ⟨by rfl, rfl⟩) (by assumption) ?_)
  (try simp only [Act.put, List.getElem_toArray, List.getElem_cons_zero, List.getElem_cons_succ, List.setIfInBounds_toArray, List.set_cons_zero, List.set_cons_succ])
  first
    | (refine wpAnyH_take (i := 5) (v := ?_) rfl (by kernel_rfl) (by kernel_rfl) (by kernel_rfl) (fun _ _ _ h => h) (Or.inl ⟨by rfl, ?_⟩) (by assumption) ?_; rotate_left; · ((intro w hSw; (try dsimp only at hSw); go_simp); first | done | (with_reducible rfl)))
    | (refine wpAnyH_take (i := 5) (v := undef) rfl (by kernel_rfl) (by kernel_rfl) (by kernel_rfl) (fun _ _ _ h => h) (Or.inr ⟨by rfl, rfl⟩) (by assumption) ?_)
  (try simp only [Act.put, List.getElem_toArray, List.getElem_cons_zero, List.getElem_cons_succ, List.setIfInBounds_toArray, List.set_cons_zero, List.set_cons_succ])
  first
    | (refine wpAnyH_take (i := 6) (v := ?_) rfl (by kernel_rfl) (by kernel_rfl) (by kernel_rfl) (fun _ _ _ h => h) (Or.inl ⟨by rfl, ?_⟩) (by assumption) ?_; rotate_left; · ((intro w hSw; (try dsimp only at hSw); go_simp); first | done | (with_reducible rfl)))
    | (refine wpAnyH_take (i := 6) (v := undef) rfl (by kernel_rfl) (by kernel_rfl) (by kernel_rfl) (fun _ _ _ h => h) (Or.inr ⟨by rfl, rfl⟩) (by assumption) ?_)
  (try simp only [Act.put, List.getElem_toArray, List.getElem_cons_zero, List.getElem_cons_succ, List.setIfInBounds_toArray, List.set_cons_zero, List.set_cons_succ])
  refine wpAnyH_ready (rs := [7]) (by kernel_rfl) (by simp) (AllReadyH.cons rfl (fun K hK => ?_) AllReadyH.nil)
  (try go_simp)
  first
    | (refine hK.out _ _ ?_ (fun hNew => ?_))
    | (((first | (go_at_call 14; refine (StopColor_sT hv _ _ _ _ hHeld.2.2.2.2 hzl hca HCM.out hm p HP.out).mono ?_; rintro e w3 ⟨rfl, hbz⟩; obtain ⟨hc1, hf1⟩ := bcell hbz; have hz1 := hbz.size; (try simp only [World.size_alloc, World.size_setCell, World.size_drew] at hz1); have z0w3 : w2.heap.size < w3.heap.size := (by omega); have BB_ := Lib.hid (show Below w2.heap.size w2 w3 from below_then (by have hhh := BB.out; go_grown) hbz); clear BB; have BB := BB_; clear BB_) | (go_at_call 12; refine (ValidStops_iT hv _ _ _ hHeld.2.2.2.2 hzl hm).mono ?_; rintro e w4 ⟨rfl, hbz⟩; obtain ⟨hc1, hf1⟩ := bcell hbz; have hz1 := hbz.size; (try simp only [World.size_alloc, World.size_setCell, World.size_drew] at hz1); have z0w4 : w2.heap.size < w4.heap.size := (by omega); have BB_ := Lib.hid (show Below w2.heap.size w2 w4 from below_then (by have hhh := BB.out; go_grown) hbz); clear BB; have BB := BB_; clear BB_))); (try go_wp2_with fail); (refine hK.out _ _ ?_ (fun hNew => ?_)))
    | fail
  · (try dsimp only)
    first | ((try go_split_ands); (((repeat' apply And.intro) <;> (first | ((repeat (first | (with_reducible assumption) | (with_reducible refine cell_keepD ?_) | (with_reducible refine cell_keepA ?_ _) | (with_reducible refine (hc1 _ _ (by go_size)).trans ?_) | (with_reducible refine ints_back ?_ hbz) | (with_reducible refine Ints.alloc ?_ _) | (with_reducible refine Ints.drew ?_))); done) | (go_cell; done))))) | fail
  clear hK K hHeld
  have hHeld := hNew
  clear hNew
  (try clear hc1)
  (try clear hf1)
  (try simp only [Act.put, List.getElem_toArray, List.getElem_cons_zero, List.getElem_cons_succ, List.setIfInBounds_toArray, List.set_cons_zero, List.set_cons_succ])
  first
    | (refine wpAnyH_take (i := 8) (v := ?_) rfl (by kernel_rfl) (by kernel_rfl) (by kernel_rfl) (fun _ _ _ h => h) (Or.inl ⟨by rfl, ?_⟩) (by assumption) ?_; rotate_left; · ((intro w hSw; (try dsimp only at hSw); go_simp); first | done | (with_reducible rfl)))
    | (refine wpAnyH_take (i := 8) (v := undef) rfl (by kernel_rfl) (by kernel_rfl) (by kernel_rfl) (fun _ _ _ h => h) (Or.inr ⟨by rfl, rfl⟩) (by assumption) ?_)
  (try simp only [Act.put, List.getElem_toArray, List.getElem_cons_zero, List.getElem_cons_succ, List.setIfInBounds_toArray, List.set_cons_zero, List.set_cons_succ])
  first
    | (refine wpAnyH_take (i := 9) (v := ?_) rfl (by kernel_rfl) (by kernel_rfl) (by kernel_rfl) (fun _ _ _ h => h) (Or.inl ⟨by rfl, ?_⟩) (by assumption) ?_; rotate_left; · ((intro w hSw; (try dsimp only at hSw); go_simp); first | done | (with_reducible rfl)))
    | (refine wpAnyH_take (i := 9) (v := undef) rfl (by kernel_rfl) (by kernel_rfl) (by kernel_rfl) (fun _ _ _ h => h) (Or.inr ⟨by rfl, rfl⟩) (by assumption) ?_)
  (try simp only [Act.put, List.getElem_toArray, List.getElem_cons_zero, List.getElem_cons_succ, List.setIfInBounds_toArray, List.set_cons_zero, List.set_cons_succ])
  (try dsimp only at hHeld)
  obtain ⟨s5_0, s5_1, s5_2, s5_3, s5_4⟩ := hHeld
  refine wpAnyH_done (by kernel_rfl) ?_ _
  have hb := BB.out
  clear BB hj0
  have HM_ := Lib.hid (show Ints w4 A1 zs from HM.out.below hb)
  clear HM
  have HM := HM_
  clear HM_
  have HB_ := Lib.hid (show Below w.heap.size w w4 from below_then HB.out hb)
  clear HB
  have HB := HB_
  clear HB_
  have hsw4 := hb.size
  clear hb
  have hok := stops_ok hv
  have hk1 := hok.n1
  have HOK := Lib.hid hok
  clear hok
  obtain ⟨bb, off, rfl, hbb, hcc⟩ := HM.out (by omega)
  have HCC := Lib.hid hcc
  clear hcc
  obtain ⟨q0, q1, q2, q3, q4⟩ := five_cells (w := w4) hzl HCC.out (show 0 < n from hk1)
  simp only [Nat.zero_mul, Nat.add_zero, Nat.zero_add] at q0 q1 q2 q3 q4
  have hT := stops_take (m := 1) hv (Nat.le_refl _) hk1
  obtain ⟨p1, hp1⟩ := place_ex (zs.take (5 * 1)) 1 t
  have HP1 := Lib.hid hp1
  obtain ⟨tk0, tk1, tk2, tk3, tk4⟩ := take_at (zs := zs) (m := 1) (k := 0) (by omega)
  have one : ∀ c : Nat → Int, vC c (zs.take (5 * 1)) 1 p1 t = c 0 := fun c => by
    have := hp1.le
    by_cases e : p1 = 0
    · rw [e]; exact vC_zero c _
    · rw [show p1 = 1 by omega]; exact vC_last c _ (Nat.le_refl _)
  have f1 : vC (sR (zs.take (5 * 1))) (zs.take (5 * 1)) 1 p1 t = sR zs 0 := (one _).trans tk1
  have f2 : vC (sG (zs.take (5 * 1))) (zs.take (5 * 1)) 1 p1 t = sG zs 0 := (one _).trans tk2
  have f3 : vC (sB (zs.take (5 * 1))) (zs.take (5 * 1)) 1 p1 t = sB zs 0 := (one _).trans tk3
  have f4 : vC (sA (zs.take (5 * 1))) (zs.take (5 * 1)) 1 p1 t = sA zs 0 := (one _).trans tk4
  have htl : (zs.take (5 * 1)).length = 5 * 1 := by rw [List.length_take]; omega
  have hcap0 : ¬ cap1 = 0 := by omega
  have hcap1 : 1 ≤ cap1 := by omega
  have hcap2 : (1 : Int) ≤ (cap1 : Int) := by omega
  have hn1 : (0 : Int) < (n : Int) := by omega
  have hn2 : 0 < n := by omega
  clear one tk0 tk1 tk2 tk3 tk4 hp1 q0
  have zb : bb < w4.heap.size := hbb
  have BB := Lib.hid (Below.refl w4.heap.size w4)
  have hj0 := HM.out
  go_wp2_with fail
  refine wp_region_held_drew (S := fun w' => w'.cell? ⟨bb, off + 1, none⟩ = some (.int .i64 (sR zs 0)) ∧ w'.cell? ⟨bb, off + 2, none⟩ = some (.int .i64 (sG zs 0)) ∧ w'.cell? ⟨bb, off + 3, none⟩ = some (.int .i64 (sB zs 0)) ∧ w'.cell? ⟨bb, off + 4, none⟩ = some (.int .i64 (sA zs 0)) ∧ Ints w' (some ⟨bb, off, none⟩) zs) (by kernel_rfl) ?_ (fun hHeld => ?_)
  · (try dsimp only)
    first | (((repeat' apply And.intro) <;> (first | ((repeat (first | (with_reducible assumption) | (with_reducible refine cell_keepD ?_) | (with_reducible refine cell_keepA ?_ _) | (with_reducible refine (hc1 _ _ (by go_size)).trans ?_) | (with_reducible refine ints_back ?_ hbz) | (with_reducible refine Ints.alloc ?_ _) | (with_reducible refine Ints.drew ?_))); done) | (go_cell; done)))) | fail
  first
    | (refine wpAnyH_take (i := 0) (v := ?_) rfl (by kernel_rfl) (by kernel_rfl) (by kernel_rfl) (fun _ _ _ h => h) (Or.inl ⟨by rfl, ?_⟩) (by assumption) ?_; rotate_left; · ((intro w hSw; (try dsimp only at hSw); go_simp); first | done | (with_reducible rfl)))
    | (refine wpAnyH_take (i := 0) (v := undef) rfl (by kernel_rfl) (by kernel_rfl) (by kernel_rfl) (fun _ _ _ h => h) (Or.inr ⟨by rfl, rfl⟩) (by assumption) ?_)
  (try simp only [Act.put, List.getElem_toArray, List.getElem_cons_zero, List.getElem_cons_succ, List.setIfInBounds_toArray, List.set_cons_zero, List.set_cons_succ])
  first
    | (refine wpAnyH_take (i := 1) (v := ?_) rfl (by kernel_rfl) (by kernel_rfl) (by kernel_rfl) (fun _ _ _ h => h) (Or.inl ⟨by rfl, ?_⟩) (by assumption) ?_; rotate_left; · ((intro w hSw; (try dsimp only at hSw); go_simp); first | done | (with_reducible rfl)))
    | (refine wpAnyH_take (i := 1) (v := undef) rfl (by kernel_rfl) (by kernel_rfl) (by kernel_rfl) (fun _ _ _ h => h) (Or.inr ⟨by rfl, rfl⟩) (by assumption) ?_)
  (try simp only [Act.put, List.getElem_toArray, List.getElem_cons_zero, List.getElem_cons_succ, List.setIfInBounds_toArray, List.set_cons_zero, List.set_cons_succ])
  first
    | (refine wpAnyH_take (i := 2) (v := ?_) rfl (by kernel_rfl) (by kernel_rfl) (by kernel_rfl) (fun _ _ _ h => h) (Or.inl ⟨by rfl, ?_⟩) (by assumption) ?_; rotate_left; · ((intro w hSw; (try dsimp only at hSw); go_simp); first | done | (with_reducible rfl)))
    | (refine wpAnyH_take (i := 2) (v := undef) rfl (by kernel_rfl) (by kernel_rfl) (by kernel_rfl) (fun _ _ _ h => h) (Or.inr ⟨by rfl, rfl⟩) (by assumption) ?_)
  (try simp only [Act.put, List.getElem_toArray, List.getElem_cons_zero, List.getElem_cons_succ, List.setIfInBounds_toArray, List.set_cons_zero, List.set_cons_succ])
  first
    | (refine wpAnyH_take (i := 4) (v := ?_) rfl (by kernel_rfl) (by kernel_rfl) (by kernel_rfl) (fun _ _ _ h => h) (Or.inl ⟨by rfl, ?_⟩) (by assumption) ?_; rotate_left; · ((intro w hSw; (try dsimp only at hSw); go_simp); first | done | (with_reducible rfl)))
    | (refine wpAnyH_take (i := 4) (v := undef) rfl (by kernel_rfl) (by kernel_rfl) (by kernel_rfl) (fun _ _ _ h => h) (Or.inr ⟨by rfl, rfl⟩) (by assumption) ?_)
  (try simp only [Act.put, List.getElem_toArray, List.getElem_cons_zero, List.getElem_cons_succ, List.setIfInBounds_toArray, List.set_cons_zero, List.set_cons_succ])
  first
    | (refine wpAnyH_take (i := 5) (v := ?_) rfl (by kernel_rfl) (by kernel_rfl) (by kernel_rfl) (fun _ _ _ h => h) (Or.inl ⟨by rfl, ?_⟩) (by assumption) ?_; rotate_left; · ((intro w hSw; (try dsimp only at hSw); go_simp); first | done | (with_reducible rfl)))
    | (refine wpAnyH_take (i := 5) (v := undef) rfl (by kernel_rfl) (by kernel_rfl) (by kernel_rfl) (fun _ _ _ h => h) (Or.inr ⟨by rfl, rfl⟩) (by assumption) ?_)
  (try simp only [Act.put, List.getElem_toArray, List.getElem_cons_zero, List.getElem_cons_succ, List.setIfInBounds_toArray, List.set_cons_zero, List.set_cons_succ])
  first
    | (refine wpAnyH_take (i := 6) (v := ?_) rfl (by kernel_rfl) (by kernel_rfl) (by kernel_rfl) (fun _ _ _ h => h) (Or.inl ⟨by rfl, ?_⟩) (by assumption) ?_; rotate_left; · ((intro w hSw; (try dsimp only at hSw); go_simp); first | done | (with_reducible rfl)))
    | (refine wpAnyH_take (i := 6) (v := undef) rfl (by kernel_rfl) (by kernel_rfl) (by kernel_rfl) (fun _ _ _ h => h) (Or.inr ⟨by rfl, rfl⟩) (by assumption) ?_)
  (try simp only [Act.put, List.getElem_toArray, List.getElem_cons_zero, List.getElem_cons_succ, List.setIfInBounds_toArray, List.set_cons_zero, List.set_cons_succ])
  first
    | (refine wpAnyH_take (i := 7) (v := ?_) rfl (by kernel_rfl) (by kernel_rfl) (by kernel_rfl) (fun _ _ _ h => h) (Or.inl ⟨by rfl, ?_⟩) (by assumption) ?_; rotate_left; · ((intro w hSw; (try dsimp only at hSw); go_simp); first | done | (with_reducible rfl)))
    | (refine wpAnyH_take (i := 7) (v := undef) rfl (by kernel_rfl) (by kernel_rfl) (by kernel_rfl) (fun _ _ _ h => h) (Or.inr ⟨by rfl, rfl⟩) (by assumption) ?_)
  (try simp only [Act.put, List.getElem_toArray, List.getElem_cons_zero, List.getElem_cons_succ, List.setIfInBounds_toArray, List.set_cons_zero, List.set_cons_succ])
  refine wpAnyH_ready (rs := [3]) (by kernel_rfl) (by simp) (AllReadyH.cons rfl (fun K hK => ?_) AllReadyH.nil)
  (try go_simp)
  first
    | (refine hK.out _ _ ?_ (fun hNew => ?_))
    | (((first | (go_at_call 15; refine (StopColor_iT hT _ _ _ _ (hHeld.2.2.2.2.take5 _) htl hcap1 HCM.out (by omega) p1 HP1.out).mono ?_; rw [f1, f2, f3, f4]; rintro e w5 ⟨rfl, hbz⟩; obtain ⟨hc1, hf1⟩ := bcell hbz; have hz1 := hbz.size; (try simp only [World.size_alloc, World.size_setCell, World.size_drew] at hz1); have z0w5 : bb < w5.heap.size := (by omega); have BB_ := Lib.hid (show Below w4.heap.size w4 w5 from below_then (by have hhh := BB.out; go_grown) hbz); clear BB; have BB := BB_; clear BB_))); (try go_wp2_with fail); (refine hK.out _ _ ?_ (fun hNew => ?_)))
    | fail
  · (try dsimp only)
    first | ((try go_split_ands); (((repeat' apply And.intro) <;> (first | ((repeat (first | (with_reducible assumption) | (with_reducible refine cell_keepD ?_) | (with_reducible refine cell_keepA ?_ _) | (with_reducible refine (hc1 _ _ (by go_size)).trans ?_) | (with_reducible refine ints_back ?_ hbz) | (with_reducible refine Ints.alloc ?_ _) | (with_reducible refine Ints.drew ?_))); done) | (go_cell; done))))) | fail
  clear hK K hHeld
  have hHeld := hNew
  clear hNew
  (try clear hc1)
  (try clear hf1)
  (try simp only [Act.put, List.getElem_toArray, List.getElem_cons_zero, List.getElem_cons_succ, List.setIfInBounds_toArray, List.set_cons_zero, List.set_cons_succ])
  first
    | (refine wpAnyH_take (i := 8) (v := ?_) rfl (by kernel_rfl) (by kernel_rfl) (by kernel_rfl) (fun _ _ _ h => h) (Or.inl ⟨by rfl, ?_⟩) (by assumption) ?_; rotate_left; · ((intro w hSw; (try dsimp only at hSw); go_simp); first | done | (with_reducible rfl)))
    | (refine wpAnyH_take (i := 8) (v := undef) rfl (by kernel_rfl) (by kernel_rfl) (by kernel_rfl) (fun _ _ _ h => h) (Or.inr ⟨by rfl, rfl⟩) (by assumption) ?_)
  (try simp only [Act.put, List.getElem_toArray, List.getElem_cons_zero, List.getElem_cons_succ, List.setIfInBounds_toArray, List.set_cons_zero, List.set_cons_succ])
  first
    | (refine wpAnyH_take (i := 9) (v := ?_) rfl (by kernel_rfl) (by kernel_rfl) (by kernel_rfl) (fun _ _ _ h => h) (Or.inl ⟨by rfl, ?_⟩) (by assumption) ?_; rotate_left; · ((intro w hSw; (try dsimp only at hSw); go_simp); first | done | (with_reducible rfl)))
    | (refine wpAnyH_take (i := 9) (v := undef) rfl (by kernel_rfl) (by kernel_rfl) (by kernel_rfl) (fun _ _ _ h => h) (Or.inr ⟨by rfl, rfl⟩) (by assumption) ?_)
  (try simp only [Act.put, List.getElem_toArray, List.getElem_cons_zero, List.getElem_cons_succ, List.setIfInBounds_toArray, List.set_cons_zero, List.set_cons_succ])
  (try dsimp only at hHeld)
  obtain ⟨s7_0, s7_1, s7_2, s7_3, s7_4⟩ := hHeld
  refine wpAnyH_done (by kernel_rfl) ?_ _
  have hb := BB.out
  clear BB hj0
  have HM_ := Lib.hid (show Ints w5 (some ⟨bb, off, none⟩) zs from HM.out.below hb)
  clear HM
  have HM := HM_
  clear HM_
  have HB_ := Lib.hid (show Below w.heap.size w w5 from below_then HB.out hb)
  clear HB
  have HB := HB_
  clear HB_
  have hsw5 := hb.size
  clear hb
  go_wp2
  go_ret
  exact ⟨ret_b (by first | rfl | simp), HB.out⟩

end Go.Proofs.Ytkihbfohdennjaa
