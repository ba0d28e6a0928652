/-
  The walk of FnCoverColor: it returns true for every code.
-/
import Derived.Test.YtmdkfeojkjlpeaaColorB
import Derived.Test.YtmdkfeojkjlpeaaDrawD
import Derived.Deep.DeepCutAuto
namespace Go.Proofs.Ytmdkfeojkjlpeaa
open Go.RowKit
set_option linter.unusedSimpArgs false
set_option linter.unusedVariables false

set_option maxHeartbeats 40000000 in
theorem walk_FnCoverColor (w : World) (a0 : Option Addr) (len0 cap0 : Nat) (z0 : List Int) (w0 : IsRow .u8 w a0 len0 cap0 z0) :
    Calls Try.prog 8 #[.slice a0 len0 cap0] w fun e w' => e = .returned (.bool true) ∧ Below w.heap.size w w' := by
  have HC := Lib.hid w0.code
  clear w0
  by_cases hl : 1048576 < len0
  · have hl2 : (1048576 : Int) < (len0 : Int) := by omega
    go_enter Try.func8, Try.ntmps8
    go_wp2
    go_ret
    exact ⟨rfl, Below.refl _ _⟩
  have hl2 : ¬ (1048576 : Int) < (len0 : Int) := by omega
  go_enter Try.func8, Try.ntmps8
  go_wp2_with fail
  refine (DrawCoverColor_c _ _ _ _ HC.out).mono ?_
  rintro e w1 ⟨r, g, b, a, t, q1, q3, q4, rfl, hb1⟩
  have HB1 := Lib.hid hb1
  have hs1 := hb1.size
  clear hb1
  unfold ColBd at *
  cases h1 : colB r g b a
  · have HHx : (colB r g b a && inB t 0 16) = false := by simp [h1]
    have HH := Lib.hid HHx
    clear HHx
    go_wp2_with fail
    refine (CoverColor_i0 _ _ _ _ _ _ HH.out).mono ?_
    rintro e w2 ⟨rfl, hb2⟩
    have A2 := Lib.hid (show Row w2 (w1.heap.size) 25 4 (col r g b a) from Row.below (row_col1 _ _ _ _ _ _ _ (by go_size)) hb2 (by go_size))
    have HB2 := Lib.hid (show Below w.heap.size w w2 from below_then (by have hhh := HB1.out; go_grown) hb2)
    have hs2 := hb2.size
    (try simp only [World.size_alloc, World.size_setCell, World.size_drew] at hs2)
    clear hb2
    obtain ⟨⟨cA2_0, cA2_1, cA2_2, cA2_3⟩, fA2_0, fA2_1, fA2_2, fA2_3⟩ := col_cells A2.out
    go_wp2_with fail
    refine wp_region_held_drew (S := fun w' => w'.cell? ⟨w1.heap.size, 0, none⟩ = some (.int .i64 r) ∧ w'.cell? ⟨w1.heap.size, 1, none⟩ = some (.int .i64 g) ∧ w'.cell? ⟨w1.heap.size, 2, none⟩ = some (.int .i64 b) ∧ w'.cell? ⟨w1.heap.size, 3, none⟩ = some (.int .i64 a) ∧ w'.cell? ⟨w2.heap.size, 0, none⟩ = some (.int .i64 0) ∧ w'.cell? ⟨w2.heap.size, 1, none⟩ = some (.int .i64 0) ∧ w'.cell? ⟨w2.heap.size, 2, none⟩ = some (.int .i64 0) ∧ w'.cell? ⟨w2.heap.size, 3, none⟩ = some (.int .i64 0)) (by kernel_rfl) ?_ (fun hHeld => ?_)
    · (try dsimp only)
      first | (((repeat' apply And.intro) <;> (first | ((repeat (first | (with_reducible assumption) | (with_reducible refine cell_keepD ?_) | (with_reducible refine cell_keepA ?_ _) | (with_reducible refine cell_keepS ?_ _ (by simp only []; omega)) | (with_reducible refine (hc1 _ _ (by go_size)).trans ?_))); done) | (go_cell; done)))) | fail
    first
      | (refine wpAnyH_take (i := 0) (v := ?_) rfl (by kernel_rfl) (by kernel_rfl) (by kernel_rfl) (fun _ _ _ h => h) (Or.inl ⟨by rfl, ?_⟩) (by assumption) ?_; rotate_left; · ((intro w hSw; (try dsimp only at hSw); go_simp); first | done | (with_reducible rfl)))
      | (refine wpAnyH_take (i := 0) (v := undef) rfl (by kernel_rfl) (by kernel_rfl) (by kernel_rfl) (fun _ _ _ h => h) (Or.inr ⟨by rfl, rfl⟩) (by assumption) ?_)
    (try simp only [Act.put, List.getElem_toArray, List.getElem_cons_zero, List.getElem_cons_succ, List.setIfInBounds_toArray, List.set_cons_zero, List.set_cons_succ])
    first
      | (refine wpAnyH_take (i := 1) (v := ?_) rfl (by kernel_rfl) (by kernel_rfl) (by kernel_rfl) (fun _ _ _ h => h) (Or.inl ⟨by rfl, ?_⟩) (by assumption) ?_; rotate_left; · ((intro w hSw; (try dsimp only at hSw); go_simp); first | done | (with_reducible rfl)))
      | (refine wpAnyH_take (i := 1) (v := undef) rfl (by kernel_rfl) (by kernel_rfl) (by kernel_rfl) (fun _ _ _ h => h) (Or.inr ⟨by rfl, rfl⟩) (by assumption) ?_)
    (try simp only [Act.put, List.getElem_toArray, List.getElem_cons_zero, List.getElem_cons_succ, List.setIfInBounds_toArray, List.set_cons_zero, List.set_cons_succ])
    first
      | (refine wpAnyH_take (i := 2) (v := ?_) rfl (by kernel_rfl) (by kernel_rfl) (by kernel_rfl) (fun _ _ _ h => h) (Or.inl ⟨by rfl, ?_⟩) (by assumption) ?_; rotate_left; · ((intro w hSw; (try dsimp only at hSw); go_simp); first | done | (with_reducible rfl)))
      | (refine wpAnyH_take (i := 2) (v := undef) rfl (by kernel_rfl) (by kernel_rfl) (by kernel_rfl) (fun _ _ _ h => h) (Or.inr ⟨by rfl, rfl⟩) (by assumption) ?_)
    (try simp only [Act.put, List.getElem_toArray, List.getElem_cons_zero, List.getElem_cons_succ, List.setIfInBounds_toArray, List.set_cons_zero, List.set_cons_succ])
    refine wpAnyH_ready (rs := [3]) (by kernel_rfl) (by simp) (AllReadyH.cons rfl (fun K hK => ?_) AllReadyH.nil)
    (try go_simp)
    first
      | (refine hK.out _ _ ?_ (fun hNew => ?_))
      | (((first | (go_at_call 17; refine (CoverColor_s0 _ _ _ _ _ _ HH.out).mono ?_; rintro e wz ⟨rfl, hbz⟩; obtain ⟨hc1, hf1⟩ := bcell hbz; have hz1 := hbz.size; (try simp only [World.size_alloc, World.size_setCell, World.size_drew] at hz1); have z0a : w1.heap.size < wz.heap.size := (by omega); have z0b : w1.heap.size < wz.heap.size + 1 := (by omega); have z0c : w1.heap.size < wz.heap.size + 1 + 1 := (by omega); have z0d : w1.heap.size < wz.heap.size + 1 + 1 + 1 := (by omega); have z1a : w2.heap.size < wz.heap.size := (by omega); have z1b : w2.heap.size < wz.heap.size + 1 := (by omega); have z1c : w2.heap.size < wz.heap.size + 1 + 1 := (by omega); have z1d : w2.heap.size < wz.heap.size + 1 + 1 + 1 := (by omega); have BZ : Below w.heap.size w wz := below_then (by first | (have hhh := HB3.out; go_grown; done) | (have hhh := HB2.out; go_grown; done) | fail) hbz) | (go_at_call 16; refine (ValidColor_i _ _ _ _ _).mono ?_; rintro e wz ⟨rfl, rfl⟩))); (try go_wp2_with fail); (refine hK.out _ _ ?_ (fun hNew => ?_)))
      | fail
    · (try dsimp only)
      first | ((try go_split_ands); (((repeat' apply And.intro) <;> (first | ((repeat (first | (with_reducible assumption) | (with_reducible refine cell_keepD ?_) | (with_reducible refine cell_keepA ?_ _) | (with_reducible refine cell_keepS ?_ _ (by simp only []; omega)) | (with_reducible refine (hc1 _ _ (by go_size)).trans ?_))); done) | (go_cell; done))))) | fail
    clear hK K hHeld
    have hHeld := hNew
    clear hNew
    (try simp only [Act.put, List.getElem_toArray, List.getElem_cons_zero, List.getElem_cons_succ, List.setIfInBounds_toArray, List.set_cons_zero, List.set_cons_succ])
    first
      | (refine wpAnyH_take (i := 4) (v := ?_) rfl (by kernel_rfl) (by kernel_rfl) (by kernel_rfl) (fun _ _ _ h => h) (Or.inl ⟨by rfl, ?_⟩) (by assumption) ?_; rotate_left; · ((intro w hSw; (try dsimp only at hSw); go_simp); first | done | (with_reducible rfl)))
      | (refine wpAnyH_take (i := 4) (v := undef) rfl (by kernel_rfl) (by kernel_rfl) (by kernel_rfl) (fun _ _ _ h => h) (Or.inr ⟨by rfl, rfl⟩) (by assumption) ?_)
    (try simp only [Act.put, List.getElem_toArray, List.getElem_cons_zero, List.getElem_cons_succ, List.setIfInBounds_toArray, List.set_cons_zero, List.set_cons_succ])
    first
      | (refine wpAnyH_take (i := 5) (v := ?_) rfl (by kernel_rfl) (by kernel_rfl) (by kernel_rfl) (fun _ _ _ h => h) (Or.inl ⟨by rfl, ?_⟩) (by assumption) ?_; rotate_left; · ((intro w hSw; (try dsimp only at hSw); go_simp); first | done | (with_reducible rfl)))
      | (refine wpAnyH_take (i := 5) (v := undef) rfl (by kernel_rfl) (by kernel_rfl) (by kernel_rfl) (fun _ _ _ h => h) (Or.inr ⟨by rfl, rfl⟩) (by assumption) ?_)
    (try simp only [Act.put, List.getElem_toArray, List.getElem_cons_zero, List.getElem_cons_succ, List.setIfInBounds_toArray, List.set_cons_zero, List.set_cons_succ])
    first
      | (refine wpAnyH_take (i := 6) (v := ?_) rfl (by kernel_rfl) (by kernel_rfl) (by kernel_rfl) (fun _ _ _ h => h) (Or.inl ⟨by rfl, ?_⟩) (by assumption) ?_; rotate_left; · ((intro w hSw; (try dsimp only at hSw); go_simp); first | done | (with_reducible rfl)))
      | (refine wpAnyH_take (i := 6) (v := undef) rfl (by kernel_rfl) (by kernel_rfl) (by kernel_rfl) (fun _ _ _ h => h) (Or.inr ⟨by rfl, rfl⟩) (by assumption) ?_)
    (try simp only [Act.put, List.getElem_toArray, List.getElem_cons_zero, List.getElem_cons_succ, List.setIfInBounds_toArray, List.set_cons_zero, List.set_cons_succ])
    refine wpAnyH_ready (rs := [7]) (by kernel_rfl) (by simp) (AllReadyH.cons rfl (fun K hK => ?_) AllReadyH.nil)
    (try go_simp)
    first
      | (refine hK.out _ _ ?_ (fun hNew => ?_))
      | (((first | (go_at_call 17; refine (CoverColor_s0 _ _ _ _ _ _ HH.out).mono ?_; rintro e wz ⟨rfl, hbz⟩; obtain ⟨hc1, hf1⟩ := bcell hbz; have hz1 := hbz.size; (try simp only [World.size_alloc, World.size_setCell, World.size_drew] at hz1); have z0a : w1.heap.size < wz.heap.size := (by omega); have z0b : w1.heap.size < wz.heap.size + 1 := (by omega); have z0c : w1.heap.size < wz.heap.size + 1 + 1 := (by omega); have z0d : w1.heap.size < wz.heap.size + 1 + 1 + 1 := (by omega); have z1a : w2.heap.size < wz.heap.size := (by omega); have z1b : w2.heap.size < wz.heap.size + 1 := (by omega); have z1c : w2.heap.size < wz.heap.size + 1 + 1 := (by omega); have z1d : w2.heap.size < wz.heap.size + 1 + 1 + 1 := (by omega); have BZ : Below w.heap.size w wz := below_then (by first | (have hhh := HB3.out; go_grown; done) | (have hhh := HB2.out; go_grown; done) | fail) hbz) | (go_at_call 16; refine (ValidColor_i _ _ _ _ _).mono ?_; rintro e wz ⟨rfl, rfl⟩))); (try go_wp2_with fail); (refine hK.out _ _ ?_ (fun hNew => ?_)))
      | fail
    · (try dsimp only)
      first | ((try go_split_ands); (((repeat' apply And.intro) <;> (first | ((repeat (first | (with_reducible assumption) | (with_reducible refine cell_keepD ?_) | (with_reducible refine cell_keepA ?_ _) | (with_reducible refine cell_keepS ?_ _ (by simp only []; omega)) | (with_reducible refine (hc1 _ _ (by go_size)).trans ?_))); done) | (go_cell; done))))) | fail
    clear hK K hHeld
    have hHeld := hNew
    clear hNew
    (try simp only [Act.put, List.getElem_toArray, List.getElem_cons_zero, List.getElem_cons_succ, List.setIfInBounds_toArray, List.set_cons_zero, List.set_cons_succ])
    first
      | (refine wpAnyH_take (i := 8) (v := ?_) rfl (by kernel_rfl) (by kernel_rfl) (by kernel_rfl) (fun _ _ _ h => h) (Or.inl ⟨by rfl, ?_⟩) (by assumption) ?_; rotate_left; · ((intro w hSw; (try dsimp only at hSw); go_simp); first | done | (with_reducible rfl)))
      | (refine wpAnyH_take (i := 8) (v := undef) rfl (by kernel_rfl) (by kernel_rfl) (by kernel_rfl) (fun _ _ _ h => h) (Or.inr ⟨by rfl, rfl⟩) (by assumption) ?_)
    (try simp only [Act.put, List.getElem_toArray, List.getElem_cons_zero, List.getElem_cons_succ, List.setIfInBounds_toArray, List.set_cons_zero, List.set_cons_succ])
    first
      | (refine wpAnyH_take (i := 9) (v := ?_) rfl (by kernel_rfl) (by kernel_rfl) (by kernel_rfl) (fun _ _ _ h => h) (Or.inl ⟨by rfl, ?_⟩) (by assumption) ?_; rotate_left; · ((intro w hSw; (try dsimp only at hSw); go_simp); first | done | (with_reducible rfl)))
      | (refine wpAnyH_take (i := 9) (v := undef) rfl (by kernel_rfl) (by kernel_rfl) (by kernel_rfl) (fun _ _ _ h => h) (Or.inr ⟨by rfl, rfl⟩) (by assumption) ?_)
    (try simp only [Act.put, List.getElem_toArray, List.getElem_cons_zero, List.getElem_cons_succ, List.setIfInBounds_toArray, List.set_cons_zero, List.set_cons_succ])
    first
      | (refine wpAnyH_take (i := 10) (v := ?_) rfl (by kernel_rfl) (by kernel_rfl) (by kernel_rfl) (fun _ _ _ h => h) (Or.inl ⟨by rfl, ?_⟩) (by assumption) ?_; rotate_left; · ((intro w hSw; (try dsimp only at hSw); go_simp); first | done | (with_reducible rfl)))
      | (refine wpAnyH_take (i := 10) (v := undef) rfl (by kernel_rfl) (by kernel_rfl) (by kernel_rfl) (fun _ _ _ h => h) (Or.inr ⟨by rfl, rfl⟩) (by assumption) ?_)
    (try simp only [Act.put, List.getElem_toArray, List.getElem_cons_zero, List.getElem_cons_succ, List.setIfInBounds_toArray, List.set_cons_zero, List.set_cons_succ])
    first
      | (refine wpAnyH_take (i := 11) (v := ?_) rfl (by kernel_rfl) (by kernel_rfl) (by kernel_rfl) (fun _ _ _ h => h) (Or.inl ⟨by rfl, ?_⟩) (by assumption) ?_; rotate_left; · ((intro w hSw; (try dsimp only at hSw); go_simp); first | done | (with_reducible rfl)))
      | (refine wpAnyH_take (i := 11) (v := undef) rfl (by kernel_rfl) (by kernel_rfl) (by kernel_rfl) (fun _ _ _ h => h) (Or.inr ⟨by rfl, rfl⟩) (by assumption) ?_)
    (try simp only [Act.put, List.getElem_toArray, List.getElem_cons_zero, List.getElem_cons_succ, List.setIfInBounds_toArray, List.set_cons_zero, List.set_cons_succ])
    first
      | (refine wpAnyH_take (i := 12) (v := ?_) rfl (by kernel_rfl) (by kernel_rfl) (by kernel_rfl) (fun _ _ _ h => h) (Or.inl ⟨by rfl, ?_⟩) (by assumption) ?_; rotate_left; · ((intro w hSw; (try dsimp only at hSw); go_simp); first | done | (with_reducible rfl)))
      | (refine wpAnyH_take (i := 12) (v := undef) rfl (by kernel_rfl) (by kernel_rfl) (by kernel_rfl) (fun _ _ _ h => h) (Or.inr ⟨by rfl, rfl⟩) (by assumption) ?_)
    (try simp only [Act.put, List.getElem_toArray, List.getElem_cons_zero, List.getElem_cons_succ, List.setIfInBounds_toArray, List.set_cons_zero, List.set_cons_succ])
    first
      | (refine wpAnyH_take (i := 13) (v := ?_) rfl (by kernel_rfl) (by kernel_rfl) (by kernel_rfl) (fun _ _ _ h => h) (Or.inl ⟨by rfl, ?_⟩) (by assumption) ?_; rotate_left; · ((intro w hSw; (try dsimp only at hSw); go_simp); first | done | (with_reducible rfl)))
      | (refine wpAnyH_take (i := 13) (v := undef) rfl (by kernel_rfl) (by kernel_rfl) (by kernel_rfl) (fun _ _ _ h => h) (Or.inr ⟨by rfl, rfl⟩) (by assumption) ?_)
    (try simp only [Act.put, List.getElem_toArray, List.getElem_cons_zero, List.getElem_cons_succ, List.setIfInBounds_toArray, List.set_cons_zero, List.set_cons_succ])
    first
      | (refine wpAnyH_take (i := 14) (v := ?_) rfl (by kernel_rfl) (by kernel_rfl) (by kernel_rfl) (fun _ _ _ h => h) (Or.inl ⟨by rfl, ?_⟩) (by assumption) ?_; rotate_left; · ((intro w hSw; (try dsimp only at hSw); go_simp); first | done | (with_reducible rfl)))
      | (refine wpAnyH_take (i := 14) (v := undef) rfl (by kernel_rfl) (by kernel_rfl) (by kernel_rfl) (fun _ _ _ h => h) (Or.inr ⟨by rfl, rfl⟩) (by assumption) ?_)
    (try simp only [Act.put, List.getElem_toArray, List.getElem_cons_zero, List.getElem_cons_succ, List.setIfInBounds_toArray, List.set_cons_zero, List.set_cons_succ])
    first
      | (refine wpAnyH_take (i := 15) (v := ?_) rfl (by kernel_rfl) (by kernel_rfl) (by kernel_rfl) (fun _ _ _ h => h) (Or.inl ⟨by rfl, ?_⟩) (by assumption) ?_; rotate_left; · ((intro w hSw; (try dsimp only at hSw); go_simp); first | done | (with_reducible rfl)))
      | (refine wpAnyH_take (i := 15) (v := undef) rfl (by kernel_rfl) (by kernel_rfl) (by kernel_rfl) (fun _ _ _ h => h) (Or.inr ⟨by rfl, rfl⟩) (by assumption) ?_)
    (try simp only [Act.put, List.getElem_toArray, List.getElem_cons_zero, List.getElem_cons_succ, List.setIfInBounds_toArray, List.set_cons_zero, List.set_cons_succ])
    first
      | (refine wpAnyH_take (i := 16) (v := ?_) rfl (by kernel_rfl) (by kernel_rfl) (by kernel_rfl) (fun _ _ _ h => h) (Or.inl ⟨by rfl, ?_⟩) (by assumption) ?_; rotate_left; · ((intro w hSw; (try dsimp only at hSw); go_simp); first | done | (with_reducible rfl)))
      | (refine wpAnyH_take (i := 16) (v := undef) rfl (by kernel_rfl) (by kernel_rfl) (by kernel_rfl) (fun _ _ _ h => h) (Or.inr ⟨by rfl, rfl⟩) (by assumption) ?_)
    (try simp only [Act.put, List.getElem_toArray, List.getElem_cons_zero, List.getElem_cons_succ, List.setIfInBounds_toArray, List.set_cons_zero, List.set_cons_succ])
    first
      | (refine wpAnyH_take (i := 17) (v := ?_) rfl (by kernel_rfl) (by kernel_rfl) (by kernel_rfl) (fun _ _ _ h => h) (Or.inl ⟨by rfl, ?_⟩) (by assumption) ?_; rotate_left; · ((intro w hSw; (try dsimp only at hSw); go_simp); first | done | (with_reducible rfl)))
      | (refine wpAnyH_take (i := 17) (v := undef) rfl (by kernel_rfl) (by kernel_rfl) (by kernel_rfl) (fun _ _ _ h => h) (Or.inr ⟨by rfl, rfl⟩) (by assumption) ?_)
    (try simp only [Act.put, List.getElem_toArray, List.getElem_cons_zero, List.getElem_cons_succ, List.setIfInBounds_toArray, List.set_cons_zero, List.set_cons_succ])
    (try dsimp only at hHeld)
    go_split_ands
    refine wpAnyH_done (by kernel_rfl) ?_ _
    go_wp2_with fail
    refine wp_region_held_drew (S := fun w' => w'.cell? ⟨w1.heap.size, 0, none⟩ = some (.int .i64 r) ∧ w'.cell? ⟨w1.heap.size, 1, none⟩ = some (.int .i64 g) ∧ w'.cell? ⟨w1.heap.size, 2, none⟩ = some (.int .i64 b) ∧ w'.cell? ⟨w1.heap.size, 3, none⟩ = some (.int .i64 a) ∧ w'.cell? ⟨w2.heap.size, 0, none⟩ = some (.int .i64 0) ∧ w'.cell? ⟨w2.heap.size, 1, none⟩ = some (.int .i64 0) ∧ w'.cell? ⟨w2.heap.size, 2, none⟩ = some (.int .i64 0) ∧ w'.cell? ⟨w2.heap.size, 3, none⟩ = some (.int .i64 0)) (by kernel_rfl) ?_ (fun hHeld => ?_)
    · (try dsimp only)
      first | (((repeat' apply And.intro) <;> (first | ((repeat (first | (with_reducible assumption) | (with_reducible refine cell_keepD ?_) | (with_reducible refine cell_keepA ?_ _) | (with_reducible refine cell_keepS ?_ _ (by simp only []; omega)) | (with_reducible refine (hc1 _ _ (by go_size)).trans ?_))); done) | (go_cell; done)))) | fail
    first
      | (refine wpAnyH_take (i := 0) (v := ?_) rfl (by kernel_rfl) (by kernel_rfl) (by kernel_rfl) (fun _ _ _ h => h) (Or.inl ⟨by rfl, ?_⟩) (by assumption) ?_; rotate_left; · ((intro w hSw; (try dsimp only at hSw); go_simp); first | done | (with_reducible rfl)))
      | (refine wpAnyH_take (i := 0) (v := undef) rfl (by kernel_rfl) (by kernel_rfl) (by kernel_rfl) (fun _ _ _ h => h) (Or.inr ⟨by rfl, rfl⟩) (by assumption) ?_)
    (try simp only [Act.put, List.getElem_toArray, List.getElem_cons_zero, List.getElem_cons_succ, List.setIfInBounds_toArray, List.set_cons_zero, List.set_cons_succ])
    first
      | (refine wpAnyH_take (i := 1) (v := ?_) rfl (by kernel_rfl) (by kernel_rfl) (by kernel_rfl) (fun _ _ _ h => h) (Or.inl ⟨by rfl, ?_⟩) (by assumption) ?_; rotate_left; · ((intro w hSw; (try dsimp only at hSw); go_simp); first | done | (with_reducible rfl)))
      | (refine wpAnyH_take (i := 1) (v := undef) rfl (by kernel_rfl) (by kernel_rfl) (by kernel_rfl) (fun _ _ _ h => h) (Or.inr ⟨by rfl, rfl⟩) (by assumption) ?_)
    (try simp only [Act.put, List.getElem_toArray, List.getElem_cons_zero, List.getElem_cons_succ, List.setIfInBounds_toArray, List.set_cons_zero, List.set_cons_succ])
    first
      | (refine wpAnyH_take (i := 2) (v := ?_) rfl (by kernel_rfl) (by kernel_rfl) (by kernel_rfl) (fun _ _ _ h => h) (Or.inl ⟨by rfl, ?_⟩) (by assumption) ?_; rotate_left; · ((intro w hSw; (try dsimp only at hSw); go_simp); first | done | (with_reducible rfl)))
      | (refine wpAnyH_take (i := 2) (v := undef) rfl (by kernel_rfl) (by kernel_rfl) (by kernel_rfl) (fun _ _ _ h => h) (Or.inr ⟨by rfl, rfl⟩) (by assumption) ?_)
    (try simp only [Act.put, List.getElem_toArray, List.getElem_cons_zero, List.getElem_cons_succ, List.setIfInBounds_toArray, List.set_cons_zero, List.set_cons_succ])
    refine wpAnyH_ready (rs := [3]) (by kernel_rfl) (by simp) (AllReadyH.cons rfl (fun K hK => ?_) AllReadyH.nil)
    (try go_simp)
    first
      | (refine hK.out _ _ ?_ (fun hNew => ?_))
      | (((first | (go_at_call 17; refine (CoverColor_s0 _ _ _ _ _ _ HH.out).mono ?_; rintro e wz ⟨rfl, hbz⟩; obtain ⟨hc1, hf1⟩ := bcell hbz; have hz1 := hbz.size; (try simp only [World.size_alloc, World.size_setCell, World.size_drew] at hz1); have z0a : w1.heap.size < wz.heap.size := (by omega); have z0b : w1.heap.size < wz.heap.size + 1 := (by omega); have z0c : w1.heap.size < wz.heap.size + 1 + 1 := (by omega); have z0d : w1.heap.size < wz.heap.size + 1 + 1 + 1 := (by omega); have z1a : w2.heap.size < wz.heap.size := (by omega); have z1b : w2.heap.size < wz.heap.size + 1 := (by omega); have z1c : w2.heap.size < wz.heap.size + 1 + 1 := (by omega); have z1d : w2.heap.size < wz.heap.size + 1 + 1 + 1 := (by omega); have BZ : Below w.heap.size w wz := below_then (by first | (have hhh := HB3.out; go_grown; done) | (have hhh := HB2.out; go_grown; done) | fail) hbz) | (go_at_call 16; refine (ValidColor_i _ _ _ _ _).mono ?_; rintro e wz ⟨rfl, rfl⟩))); (try go_wp2_with fail); (refine hK.out _ _ ?_ (fun hNew => ?_)))
      | fail
    · (try dsimp only)
      first | ((try go_split_ands); (((repeat' apply And.intro) <;> (first | ((repeat (first | (with_reducible assumption) | (with_reducible refine cell_keepD ?_) | (with_reducible refine cell_keepA ?_ _) | (with_reducible refine cell_keepS ?_ _ (by simp only []; omega)) | (with_reducible refine (hc1 _ _ (by go_size)).trans ?_))); done) | (go_cell; done))))) | fail
    clear hK K hHeld
    have hHeld := hNew
    clear hNew
    (try simp only [Act.put, List.getElem_toArray, List.getElem_cons_zero, List.getElem_cons_succ, List.setIfInBounds_toArray, List.set_cons_zero, List.set_cons_succ])
    first
      | (refine wpAnyH_take (i := 4) (v := ?_) rfl (by kernel_rfl) (by kernel_rfl) (by kernel_rfl) (fun _ _ _ h => h) (Or.inl ⟨by rfl, ?_⟩) (by assumption) ?_; rotate_left; · ((intro w hSw; (try dsimp only at hSw); go_simp); first | done | (with_reducible rfl)))
      | (refine wpAnyH_take (i := 4) (v := undef) rfl (by kernel_rfl) (by kernel_rfl) (by kernel_rfl) (fun _ _ _ h => h) (Or.inr ⟨by rfl, rfl⟩) (by assumption) ?_)
    (try simp only [Act.put, List.getElem_toArray, List.getElem_cons_zero, List.getElem_cons_succ, List.setIfInBounds_toArray, List.set_cons_zero, List.set_cons_succ])
    first
      | (refine wpAnyH_take (i := 5) (v := ?_) rfl (by kernel_rfl) (by kernel_rfl) (by kernel_rfl) (fun _ _ _ h => h) (Or.inl ⟨by rfl, ?_⟩) (by assumption) ?_; rotate_left; · ((intro w hSw; (try dsimp only at hSw); go_simp); first | done | (with_reducible rfl)))
      | (refine wpAnyH_take (i := 5) (v := undef) rfl (by kernel_rfl) (by kernel_rfl) (by kernel_rfl) (fun _ _ _ h => h) (Or.inr ⟨by rfl, rfl⟩) (by assumption) ?_)
    (try simp only [Act.put, List.getElem_toArray, List.getElem_cons_zero, List.getElem_cons_succ, List.setIfInBounds_toArray, List.set_cons_zero, List.set_cons_succ])
    (try dsimp only at hHeld)
    go_split_ands
    refine wpAnyH_done (by kernel_rfl) ?_ _
    go_wp2_with (first | (go_at_call 16; refine (ValidColor_i _ _ _ _ _).mono ?_; rintro e wz ⟨rfl, rfl⟩) | fail)
    all_goals
      go_ret
      exact ⟨ret_b (by first | rfl | (simp; done) | (simp [*]; done) | (simp; omega)), by have hhh := HB2.out; go_grown⟩
  by_cases h3 : t < 0
  · have HHx : (colB r g b a && inB t 0 16) = false := by simp [h1, inB]; omega
    have HH := Lib.hid HHx
    clear HHx
    go_wp2_with fail
    refine (CoverColor_i0 _ _ _ _ _ _ HH.out).mono ?_
    rintro e w2 ⟨rfl, hb2⟩
    have A2 := Lib.hid (show Row w2 (w1.heap.size) 25 4 (col r g b a) from Row.below (row_col1 _ _ _ _ _ _ _ (by go_size)) hb2 (by go_size))
    have HB2 := Lib.hid (show Below w.heap.size w w2 from below_then (by have hhh := HB1.out; go_grown) hb2)
    have hs2 := hb2.size
    (try simp only [World.size_alloc, World.size_setCell, World.size_drew] at hs2)
    clear hb2
    obtain ⟨⟨cA2_0, cA2_1, cA2_2, cA2_3⟩, fA2_0, fA2_1, fA2_2, fA2_3⟩ := col_cells A2.out
    go_wp2_with fail
    refine wp_region_held_drew (S := fun w' => w'.cell? ⟨w1.heap.size, 0, none⟩ = some (.int .i64 r) ∧ w'.cell? ⟨w1.heap.size, 1, none⟩ = some (.int .i64 g) ∧ w'.cell? ⟨w1.heap.size, 2, none⟩ = some (.int .i64 b) ∧ w'.cell? ⟨w1.heap.size, 3, none⟩ = some (.int .i64 a) ∧ w'.cell? ⟨w2.heap.size, 0, none⟩ = some (.int .i64 0) ∧ w'.cell? ⟨w2.heap.size, 1, none⟩ = some (.int .i64 0) ∧ w'.cell? ⟨w2.heap.size, 2, none⟩ = some (.int .i64 0) ∧ w'.cell? ⟨w2.heap.size, 3, none⟩ = some (.int .i64 0)) (by kernel_rfl) ?_ (fun hHeld => ?_)
    · (try dsimp only)
      first | (((repeat' apply And.intro) <;> (first | ((repeat (first | (with_reducible assumption) | (with_reducible refine cell_keepD ?_) | (with_reducible refine cell_keepA ?_ _) | (with_reducible refine cell_keepS ?_ _ (by simp only []; omega)) | (with_reducible refine (hc1 _ _ (by go_size)).trans ?_))); done) | (go_cell; done)))) | fail
    first
      | (refine wpAnyH_take (i := 0) (v := ?_) rfl (by kernel_rfl) (by kernel_rfl) (by kernel_rfl) (fun _ _ _ h => h) (Or.inl ⟨by rfl, ?_⟩) (by assumption) ?_; rotate_left; · ((intro w hSw; (try dsimp only at hSw); go_simp); first | done | (with_reducible rfl)))
      | (refine wpAnyH_take (i := 0) (v := undef) rfl (by kernel_rfl) (by kernel_rfl) (by kernel_rfl) (fun _ _ _ h => h) (Or.inr ⟨by rfl, rfl⟩) (by assumption) ?_)
    (try simp only [Act.put, List.getElem_toArray, List.getElem_cons_zero, List.getElem_cons_succ, List.setIfInBounds_toArray, List.set_cons_zero, List.set_cons_succ])
    first
      | (refine wpAnyH_take (i := 1) (v := ?_) rfl (by kernel_rfl) (by kernel_rfl) (by kernel_rfl) (fun _ _ _ h => h) (Or.inl ⟨by rfl, ?_⟩) (by assumption) ?_; rotate_left; · ((intro w hSw; (try dsimp only at hSw); go_simp); first | done | (with_reducible rfl)))
      | (refine wpAnyH_take (i := 1) (v := undef) rfl (by kernel_rfl) (by kernel_rfl) (by kernel_rfl) (fun _ _ _ h => h) (Or.inr ⟨by rfl, rfl⟩) (by assumption) ?_)
    (try simp only [Act.put, List.getElem_toArray, List.getElem_cons_zero, List.getElem_cons_succ, List.setIfInBounds_toArray, List.set_cons_zero, List.set_cons_succ])
    first
      | (refine wpAnyH_take (i := 2) (v := ?_) rfl (by kernel_rfl) (by kernel_rfl) (by kernel_rfl) (fun _ _ _ h => h) (Or.inl ⟨by rfl, ?_⟩) (by assumption) ?_; rotate_left; · ((intro w hSw; (try dsimp only at hSw); go_simp); first | done | (with_reducible rfl)))
      | (refine wpAnyH_take (i := 2) (v := undef) rfl (by kernel_rfl) (by kernel_rfl) (by kernel_rfl) (fun _ _ _ h => h) (Or.inr ⟨by rfl, rfl⟩) (by assumption) ?_)
    (try simp only [Act.put, List.getElem_toArray, List.getElem_cons_zero, List.getElem_cons_succ, List.setIfInBounds_toArray, List.set_cons_zero, List.set_cons_succ])
    refine wpAnyH_ready (rs := [3]) (by kernel_rfl) (by simp) (AllReadyH.cons rfl (fun K hK => ?_) AllReadyH.nil)
    (try go_simp)
    first
      | (refine hK.out _ _ ?_ (fun hNew => ?_))
      | (((first | (go_at_call 17; refine (CoverColor_s0 _ _ _ _ _ _ HH.out).mono ?_; rintro e wz ⟨rfl, hbz⟩; obtain ⟨hc1, hf1⟩ := bcell hbz; have hz1 := hbz.size; (try simp only [World.size_alloc, World.size_setCell, World.size_drew] at hz1); have z0a : w1.heap.size < wz.heap.size := (by omega); have z0b : w1.heap.size < wz.heap.size + 1 := (by omega); have z0c : w1.heap.size < wz.heap.size + 1 + 1 := (by omega); have z0d : w1.heap.size < wz.heap.size + 1 + 1 + 1 := (by omega); have z1a : w2.heap.size < wz.heap.size := (by omega); have z1b : w2.heap.size < wz.heap.size + 1 := (by omega); have z1c : w2.heap.size < wz.heap.size + 1 + 1 := (by omega); have z1d : w2.heap.size < wz.heap.size + 1 + 1 + 1 := (by omega); have BZ : Below w.heap.size w wz := below_then (by first | (have hhh := HB3.out; go_grown; done) | (have hhh := HB2.out; go_grown; done) | fail) hbz) | (go_at_call 16; refine (ValidColor_i _ _ _ _ _).mono ?_; rintro e wz ⟨rfl, rfl⟩))); (try go_wp2_with fail); (refine hK.out _ _ ?_ (fun hNew => ?_)))
      | fail
    · (try dsimp only)
      first | ((try go_split_ands); (((repeat' apply And.intro) <;> (first | ((repeat (first | (with_reducible assumption) | (with_reducible refine cell_keepD ?_) | (with_reducible refine cell_keepA ?_ _) | (with_reducible refine cell_keepS ?_ _ (by simp only []; omega)) | (with_reducible refine (hc1 _ _ (by go_size)).trans ?_))); done) | (go_cell; done))))) | fail
    clear hK K hHeld
    have hHeld := hNew
    clear hNew
    (try simp only [Act.put, List.getElem_toArray, List.getElem_cons_zero, List.getElem_cons_succ, List.setIfInBounds_toArray, List.set_cons_zero, List.set_cons_succ])
    first
      | (refine wpAnyH_take (i := 4) (v := ?_) rfl (by kernel_rfl) (by kernel_rfl) (by kernel_rfl) (fun _ _ _ h => h) (Or.inl ⟨by rfl, ?_⟩) (by assumption) ?_; rotate_left; · ((intro w hSw; (try dsimp only at hSw); go_simp); first | done | (with_reducible rfl)))
      | (refine wpAnyH_take (i := 4) (v := undef) rfl (by kernel_rfl) (by kernel_rfl) (by kernel_rfl) (fun _ _ _ h => h) (Or.inr ⟨by rfl, rfl⟩) (by assumption) ?_)
    (try simp only [Act.put, List.getElem_toArray, List.getElem_cons_zero, List.getElem_cons_succ, List.setIfInBounds_toArray, List.set_cons_zero, List.set_cons_succ])
    first
      | (refine wpAnyH_take (i := 5) (v := ?_) rfl (by kernel_rfl) (by kernel_rfl) (by kernel_rfl) (fun _ _ _ h => h) (Or.inl ⟨by rfl, ?_⟩) (by assumption) ?_; rotate_left; · ((intro w hSw; (try dsimp only at hSw); go_simp); first | done | (with_reducible rfl)))
      | (refine wpAnyH_take (i := 5) (v := undef) rfl (by kernel_rfl) (by kernel_rfl) (by kernel_rfl) (fun _ _ _ h => h) (Or.inr ⟨by rfl, rfl⟩) (by assumption) ?_)
    (try simp only [Act.put, List.getElem_toArray, List.getElem_cons_zero, List.getElem_cons_succ, List.setIfInBounds_toArray, List.set_cons_zero, List.set_cons_succ])
    first
      | (refine wpAnyH_take (i := 6) (v := ?_) rfl (by kernel_rfl) (by kernel_rfl) (by kernel_rfl) (fun _ _ _ h => h) (Or.inl ⟨by rfl, ?_⟩) (by assumption) ?_; rotate_left; · ((intro w hSw; (try dsimp only at hSw); go_simp); first | done | (with_reducible rfl)))
      | (refine wpAnyH_take (i := 6) (v := undef) rfl (by kernel_rfl) (by kernel_rfl) (by kernel_rfl) (fun _ _ _ h => h) (Or.inr ⟨by rfl, rfl⟩) (by assumption) ?_)
    (try simp only [Act.put, List.getElem_toArray, List.getElem_cons_zero, List.getElem_cons_succ, List.setIfInBounds_toArray, List.set_cons_zero, List.set_cons_succ])
    refine wpAnyH_ready (rs := [7]) (by kernel_rfl) (by simp) (AllReadyH.cons rfl (fun K hK => ?_) AllReadyH.nil)
    (try go_simp)
    first
      | (refine hK.out _ _ ?_ (fun hNew => ?_))
      | (((first | (go_at_call 17; refine (CoverColor_s0 _ _ _ _ _ _ HH.out).mono ?_; rintro e wz ⟨rfl, hbz⟩; obtain ⟨hc1, hf1⟩ := bcell hbz; have hz1 := hbz.size; (try simp only [World.size_alloc, World.size_setCell, World.size_drew] at hz1); have z0a : w1.heap.size < wz.heap.size := (by omega); have z0b : w1.heap.size < wz.heap.size + 1 := (by omega); have z0c : w1.heap.size < wz.heap.size + 1 + 1 := (by omega); have z0d : w1.heap.size < wz.heap.size + 1 + 1 + 1 := (by omega); have z1a : w2.heap.size < wz.heap.size := (by omega); have z1b : w2.heap.size < wz.heap.size + 1 := (by omega); have z1c : w2.heap.size < wz.heap.size + 1 + 1 := (by omega); have z1d : w2.heap.size < wz.heap.size + 1 + 1 + 1 := (by omega); have BZ : Below w.heap.size w wz := below_then (by first | (have hhh := HB3.out; go_grown; done) | (have hhh := HB2.out; go_grown; done) | fail) hbz) | (go_at_call 16; refine (ValidColor_i _ _ _ _ _).mono ?_; rintro e wz ⟨rfl, rfl⟩))); (try go_wp2_with fail); (refine hK.out _ _ ?_ (fun hNew => ?_)))
      | fail
    · (try dsimp only)
      first | ((try go_split_ands); (((repeat' apply And.intro) <;> (first | ((repeat (first | (with_reducible assumption) | (with_reducible refine cell_keepD ?_) | (with_reducible refine cell_keepA ?_ _) | (with_reducible refine cell_keepS ?_ _ (by simp only []; omega)) | (with_reducible refine (hc1 _ _ (by go_size)).trans ?_))); done) | (go_cell; done))))) | fail
    clear hK K hHeld
    have hHeld := hNew
    clear hNew
    (try simp only [Act.put, List.getElem_toArray, List.getElem_cons_zero, List.getElem_cons_succ, List.setIfInBounds_toArray, List.set_cons_zero, List.set_cons_succ])
    first
      | (refine wpAnyH_take (i := 8) (v := ?_) rfl (by kernel_rfl) (by kernel_rfl) (by kernel_rfl) (fun _ _ _ h => h) (Or.inl ⟨by rfl, ?_⟩) (by assumption) ?_; rotate_left; · ((intro w hSw; (try dsimp only at hSw); go_simp); first | done | (with_reducible rfl)))
      | (refine wpAnyH_take (i := 8) (v := undef) rfl (by kernel_rfl) (by kernel_rfl) (by kernel_rfl) (fun _ _ _ h => h) (Or.inr ⟨by rfl, rfl⟩) (by assumption) ?_)
    (try simp only [Act.put, List.getElem_toArray, List.getElem_cons_zero, List.getElem_cons_succ, List.setIfInBounds_toArray, List.set_cons_zero, List.set_cons_succ])
    first
      | (refine wpAnyH_take (i := 9) (v := ?_) rfl (by kernel_rfl) (by kernel_rfl) (by kernel_rfl) (fun _ _ _ h => h) (Or.inl ⟨by rfl, ?_⟩) (by assumption) ?_; rotate_left; · ((intro w hSw; (try dsimp only at hSw); go_simp); first | done | (with_reducible rfl)))
      | (refine wpAnyH_take (i := 9) (v := undef) rfl (by kernel_rfl) (by kernel_rfl) (by kernel_rfl) (fun _ _ _ h => h) (Or.inr ⟨by rfl, rfl⟩) (by assumption) ?_)
    (try simp only [Act.put, List.getElem_toArray, List.getElem_cons_zero, List.getElem_cons_succ, List.setIfInBounds_toArray, List.set_cons_zero, List.set_cons_succ])
    first
      | (refine wpAnyH_take (i := 10) (v := ?_) rfl (by kernel_rfl) (by kernel_rfl) (by kernel_rfl) (fun _ _ _ h => h) (Or.inl ⟨by rfl, ?_⟩) (by assumption) ?_; rotate_left; · ((intro w hSw; (try dsimp only at hSw); go_simp); first | done | (with_reducible rfl)))
      | (refine wpAnyH_take (i := 10) (v := undef) rfl (by kernel_rfl) (by kernel_rfl) (by kernel_rfl) (fun _ _ _ h => h) (Or.inr ⟨by rfl, rfl⟩) (by assumption) ?_)
    (try simp only [Act.put, List.getElem_toArray, List.getElem_cons_zero, List.getElem_cons_succ, List.setIfInBounds_toArray, List.set_cons_zero, List.set_cons_succ])
    first
      | (refine wpAnyH_take (i := 11) (v := ?_) rfl (by kernel_rfl) (by kernel_rfl) (by kernel_rfl) (fun _ _ _ h => h) (Or.inl ⟨by rfl, ?_⟩) (by assumption) ?_; rotate_left; · ((intro w hSw; (try dsimp only at hSw); go_simp); first | done | (with_reducible rfl)))
      | (refine wpAnyH_take (i := 11) (v := undef) rfl (by kernel_rfl) (by kernel_rfl) (by kernel_rfl) (fun _ _ _ h => h) (Or.inr ⟨by rfl, rfl⟩) (by assumption) ?_)
    (try simp only [Act.put, List.getElem_toArray, List.getElem_cons_zero, List.getElem_cons_succ, List.setIfInBounds_toArray, List.set_cons_zero, List.set_cons_succ])
    first
      | (refine wpAnyH_take (i := 12) (v := ?_) rfl (by kernel_rfl) (by kernel_rfl) (by kernel_rfl) (fun _ _ _ h => h) (Or.inl ⟨by rfl, ?_⟩) (by assumption) ?_; rotate_left; · ((intro w hSw; (try dsimp only at hSw); go_simp); first | done | (with_reducible rfl)))
      | (refine wpAnyH_take (i := 12) (v := undef) rfl (by kernel_rfl) (by kernel_rfl) (by kernel_rfl) (fun _ _ _ h => h) (Or.inr ⟨by rfl, rfl⟩) (by assumption) ?_)
    (try simp only [Act.put, List.getElem_toArray, List.getElem_cons_zero, List.getElem_cons_succ, List.setIfInBounds_toArray, List.set_cons_zero, List.set_cons_succ])
    first
      | (refine wpAnyH_take (i := 13) (v := ?_) rfl (by kernel_rfl) (by kernel_rfl) (by kernel_rfl) (fun _ _ _ h => h) (Or.inl ⟨by rfl, ?_⟩) (by assumption) ?_; rotate_left; · ((intro w hSw; (try dsimp only at hSw); go_simp); first | done | (with_reducible rfl)))
      | (refine wpAnyH_take (i := 13) (v := undef) rfl (by kernel_rfl) (by kernel_rfl) (by kernel_rfl) (fun _ _ _ h => h) (Or.inr ⟨by rfl, rfl⟩) (by assumption) ?_)
    (try simp only [Act.put, List.getElem_toArray, List.getElem_cons_zero, List.getElem_cons_succ, List.setIfInBounds_toArray, List.set_cons_zero, List.set_cons_succ])
    first
      | (refine wpAnyH_take (i := 14) (v := ?_) rfl (by kernel_rfl) (by kernel_rfl) (by kernel_rfl) (fun _ _ _ h => h) (Or.inl ⟨by rfl, ?_⟩) (by assumption) ?_; rotate_left; · ((intro w hSw; (try dsimp only at hSw); go_simp); first | done | (with_reducible rfl)))
      | (refine wpAnyH_take (i := 14) (v := undef) rfl (by kernel_rfl) (by kernel_rfl) (by kernel_rfl) (fun _ _ _ h => h) (Or.inr ⟨by rfl, rfl⟩) (by assumption) ?_)
    (try simp only [Act.put, List.getElem_toArray, List.getElem_cons_zero, List.getElem_cons_succ, List.setIfInBounds_toArray, List.set_cons_zero, List.set_cons_succ])
    first
      | (refine wpAnyH_take (i := 15) (v := ?_) rfl (by kernel_rfl) (by kernel_rfl) (by kernel_rfl) (fun _ _ _ h => h) (Or.inl ⟨by rfl, ?_⟩) (by assumption) ?_; rotate_left; · ((intro w hSw; (try dsimp only at hSw); go_simp); first | done | (with_reducible rfl)))
      | (refine wpAnyH_take (i := 15) (v := undef) rfl (by kernel_rfl) (by kernel_rfl) (by kernel_rfl) (fun _ _ _ h => h) (Or.inr ⟨by rfl, rfl⟩) (by assumption) ?_)
    (try simp only [Act.put, List.getElem_toArray, List.getElem_cons_zero, List.getElem_cons_succ, List.setIfInBounds_toArray, List.set_cons_zero, List.set_cons_succ])
    first
      | (refine wpAnyH_take (i := 16) (v := ?_) rfl (by kernel_rfl) (by kernel_rfl) (by kernel_rfl) (fun _ _ _ h => h) (Or.inl ⟨by rfl, ?_⟩) (by assumption) ?_; rotate_left; · ((intro w hSw; (try dsimp only at hSw); go_simp); first | done | (with_reducible rfl)))
      | (refine wpAnyH_take (i := 16) (v := undef) rfl (by kernel_rfl) (by kernel_rfl) (by kernel_rfl) (fun _ _ _ h => h) (Or.inr ⟨by rfl, rfl⟩) (by assumption) ?_)
    (try simp only [Act.put, List.getElem_toArray, List.getElem_cons_zero, List.getElem_cons_succ, List.setIfInBounds_toArray, List.set_cons_zero, List.set_cons_succ])
    first
      | (refine wpAnyH_take (i := 17) (v := ?_) rfl (by kernel_rfl) (by kernel_rfl) (by kernel_rfl) (fun _ _ _ h => h) (Or.inl ⟨by rfl, ?_⟩) (by assumption) ?_; rotate_left; · ((intro w hSw; (try dsimp only at hSw); go_simp); first | done | (with_reducible rfl)))
      | (refine wpAnyH_take (i := 17) (v := undef) rfl (by kernel_rfl) (by kernel_rfl) (by kernel_rfl) (fun _ _ _ h => h) (Or.inr ⟨by rfl, rfl⟩) (by assumption) ?_)
    (try simp only [Act.put, List.getElem_toArray, List.getElem_cons_zero, List.getElem_cons_succ, List.setIfInBounds_toArray, List.set_cons_zero, List.set_cons_succ])
    (try dsimp only at hHeld)
    go_split_ands
    refine wpAnyH_done (by kernel_rfl) ?_ _
    go_wp2_with fail
    refine wp_region_held_drew (S := fun w' => w'.cell? ⟨w1.heap.size, 0, none⟩ = some (.int .i64 r) ∧ w'.cell? ⟨w1.heap.size, 1, none⟩ = some (.int .i64 g) ∧ w'.cell? ⟨w1.heap.size, 2, none⟩ = some (.int .i64 b) ∧ w'.cell? ⟨w1.heap.size, 3, none⟩ = some (.int .i64 a) ∧ w'.cell? ⟨w2.heap.size, 0, none⟩ = some (.int .i64 0) ∧ w'.cell? ⟨w2.heap.size, 1, none⟩ = some (.int .i64 0) ∧ w'.cell? ⟨w2.heap.size, 2, none⟩ = some (.int .i64 0) ∧ w'.cell? ⟨w2.heap.size, 3, none⟩ = some (.int .i64 0)) (by kernel_rfl) ?_ (fun hHeld => ?_)
    · (try dsimp only)
      first | (((repeat' apply And.intro) <;> (first | ((repeat (first | (with_reducible assumption) | (with_reducible refine cell_keepD ?_) | (with_reducible refine cell_keepA ?_ _) | (with_reducible refine cell_keepS ?_ _ (by simp only []; omega)) | (with_reducible refine (hc1 _ _ (by go_size)).trans ?_))); done) | (go_cell; done)))) | fail
    first
      | (refine wpAnyH_take (i := 0) (v := ?_) rfl (by kernel_rfl) (by kernel_rfl) (by kernel_rfl) (fun _ _ _ h => h) (Or.inl ⟨by rfl, ?_⟩) (by assumption) ?_; rotate_left; · ((intro w hSw; (try dsimp only at hSw); go_simp); first | done | (with_reducible rfl)))
      | (refine wpAnyH_take (i := 0) (v := undef) rfl (by kernel_rfl) (by kernel_rfl) (by kernel_rfl) (fun _ _ _ h => h) (Or.inr ⟨by rfl, rfl⟩) (by assumption) ?_)
    (try simp only [Act.put, List.getElem_toArray, List.getElem_cons_zero, List.getElem_cons_succ, List.setIfInBounds_toArray, List.set_cons_zero, List.set_cons_succ])
    first
      | (refine wpAnyH_take (i := 1) (v := ?_) rfl (by kernel_rfl) (by kernel_rfl) (by kernel_rfl) (fun _ _ _ h => h) (Or.inl ⟨by rfl, ?_⟩) (by assumption) ?_; rotate_left; · ((intro w hSw; (try dsimp only at hSw); go_simp); first | done | (with_reducible rfl)))
      | (refine wpAnyH_take (i := 1) (v := undef) rfl (by kernel_rfl) (by kernel_rfl) (by kernel_rfl) (fun _ _ _ h => h) (Or.inr ⟨by rfl, rfl⟩) (by assumption) ?_)
    (try simp only [Act.put, List.getElem_toArray, List.getElem_cons_zero, List.getElem_cons_succ, List.setIfInBounds_toArray, List.set_cons_zero, List.set_cons_succ])
    first
      | (refine wpAnyH_take (i := 2) (v := ?_) rfl (by kernel_rfl) (by kernel_rfl) (by kernel_rfl) (fun _ _ _ h => h) (Or.inl ⟨by rfl, ?_⟩) (by assumption) ?_; rotate_left; · ((intro w hSw; (try dsimp only at hSw); go_simp); first | done | (with_reducible rfl)))
      | (refine wpAnyH_take (i := 2) (v := undef) rfl (by kernel_rfl) (by kernel_rfl) (by kernel_rfl) (fun _ _ _ h => h) (Or.inr ⟨by rfl, rfl⟩) (by assumption) ?_)
    (try simp only [Act.put, List.getElem_toArray, List.getElem_cons_zero, List.getElem_cons_succ, List.setIfInBounds_toArray, List.set_cons_zero, List.set_cons_succ])
    refine wpAnyH_ready (rs := [3]) (by kernel_rfl) (by simp) (AllReadyH.cons rfl (fun K hK => ?_) AllReadyH.nil)
    (try go_simp)
    first
      | (refine hK.out _ _ ?_ (fun hNew => ?_))
      | (((first | (go_at_call 17; refine (CoverColor_s0 _ _ _ _ _ _ HH.out).mono ?_; rintro e wz ⟨rfl, hbz⟩; obtain ⟨hc1, hf1⟩ := bcell hbz; have hz1 := hbz.size; (try simp only [World.size_alloc, World.size_setCell, World.size_drew] at hz1); have z0a : w1.heap.size < wz.heap.size := (by omega); have z0b : w1.heap.size < wz.heap.size + 1 := (by omega); have z0c : w1.heap.size < wz.heap.size + 1 + 1 := (by omega); have z0d : w1.heap.size < wz.heap.size + 1 + 1 + 1 := (by omega); have z1a : w2.heap.size < wz.heap.size := (by omega); have z1b : w2.heap.size < wz.heap.size + 1 := (by omega); have z1c : w2.heap.size < wz.heap.size + 1 + 1 := (by omega); have z1d : w2.heap.size < wz.heap.size + 1 + 1 + 1 := (by omega); have BZ : Below w.heap.size w wz := below_then (by first | (have hhh := HB3.out; go_grown; done) | (have hhh := HB2.out; go_grown; done) | fail) hbz) | (go_at_call 16; refine (ValidColor_i _ _ _ _ _).mono ?_; rintro e wz ⟨rfl, rfl⟩))); (try go_wp2_with fail); (refine hK.out _ _ ?_ (fun hNew => ?_)))
      | fail
    · (try dsimp only)
      first | ((try go_split_ands); (((repeat' apply And.intro) <;> (first | ((repeat (first | (with_reducible assumption) | (with_reducible refine cell_keepD ?_) | (with_reducible refine cell_keepA ?_ _) | (with_reducible refine cell_keepS ?_ _ (by simp only []; omega)) | (with_reducible refine (hc1 _ _ (by go_size)).trans ?_))); done) | (go_cell; done))))) | fail
    clear hK K hHeld
    have hHeld := hNew
    clear hNew
    (try simp only [Act.put, List.getElem_toArray, List.getElem_cons_zero, List.getElem_cons_succ, List.setIfInBounds_toArray, List.set_cons_zero, List.set_cons_succ])
    first
      | (refine wpAnyH_take (i := 4) (v := ?_) rfl (by kernel_rfl) (by kernel_rfl) (by kernel_rfl) (fun _ _ _ h => h) (Or.inl ⟨by rfl, ?_⟩) (by assumption) ?_; rotate_left; · ((intro w hSw; (try dsimp only at hSw); go_simp); first | done | (with_reducible rfl)))
      | (refine wpAnyH_take (i := 4) (v := undef) rfl (by kernel_rfl) (by kernel_rfl) (by kernel_rfl) (fun _ _ _ h => h) (Or.inr ⟨by rfl, rfl⟩) (by assumption) ?_)
    (try simp only [Act.put, List.getElem_toArray, List.getElem_cons_zero, List.getElem_cons_succ, List.setIfInBounds_toArray, List.set_cons_zero, List.set_cons_succ])
    first
      | (refine wpAnyH_take (i := 5) (v := ?_) rfl (by kernel_rfl) (by kernel_rfl) (by kernel_rfl) (fun _ _ _ h => h) (Or.inl ⟨by rfl, ?_⟩) (by assumption) ?_; rotate_left; · ((intro w hSw; (try dsimp only at hSw); go_simp); first | done | (with_reducible rfl)))
      | (refine wpAnyH_take (i := 5) (v := undef) rfl (by kernel_rfl) (by kernel_rfl) (by kernel_rfl) (fun _ _ _ h => h) (Or.inr ⟨by rfl, rfl⟩) (by assumption) ?_)
    (try simp only [Act.put, List.getElem_toArray, List.getElem_cons_zero, List.getElem_cons_succ, List.setIfInBounds_toArray, List.set_cons_zero, List.set_cons_succ])
    (try dsimp only at hHeld)
    go_split_ands
    refine wpAnyH_done (by kernel_rfl) ?_ _
    go_wp2_with (first | (go_at_call 16; refine (ValidColor_i _ _ _ _ _).mono ?_; rintro e wz ⟨rfl, rfl⟩) | fail)
    all_goals
      go_ret
      exact ⟨ret_b (by first | rfl | (simp; done) | (simp [*]; done) | (simp; omega)), by have hhh := HB2.out; go_grown⟩
  by_cases h4 : 16 < t
  · have hn1 : decide (t < 0) = false := by simp; omega
    have HHx : (colB r g b a && inB t 0 16) = false := by simp [h1, inB]; omega
    have HH := Lib.hid HHx
    clear HHx
    go_wp2_with fail
    refine (CoverColor_i0 _ _ _ _ _ _ HH.out).mono ?_
    rintro e w2 ⟨rfl, hb2⟩
    have A2 := Lib.hid (show Row w2 (w1.heap.size) 25 4 (col r g b a) from Row.below (row_col1 _ _ _ _ _ _ _ (by go_size)) hb2 (by go_size))
    have HB2 := Lib.hid (show Below w.heap.size w w2 from below_then (by have hhh := HB1.out; go_grown) hb2)
    have hs2 := hb2.size
    (try simp only [World.size_alloc, World.size_setCell, World.size_drew] at hs2)
    clear hb2
    obtain ⟨⟨cA2_0, cA2_1, cA2_2, cA2_3⟩, fA2_0, fA2_1, fA2_2, fA2_3⟩ := col_cells A2.out
    go_wp2_with fail
    refine wp_region_held_drew (S := fun w' => w'.cell? ⟨w1.heap.size, 0, none⟩ = some (.int .i64 r) ∧ w'.cell? ⟨w1.heap.size, 1, none⟩ = some (.int .i64 g) ∧ w'.cell? ⟨w1.heap.size, 2, none⟩ = some (.int .i64 b) ∧ w'.cell? ⟨w1.heap.size, 3, none⟩ = some (.int .i64 a) ∧ w'.cell? ⟨w2.heap.size, 0, none⟩ = some (.int .i64 0) ∧ w'.cell? ⟨w2.heap.size, 1, none⟩ = some (.int .i64 0) ∧ w'.cell? ⟨w2.heap.size, 2, none⟩ = some (.int .i64 0) ∧ w'.cell? ⟨w2.heap.size, 3, none⟩ = some (.int .i64 0)) (by kernel_rfl) ?_ (fun hHeld => ?_)
    · (try dsimp only)
      first | (((repeat' apply And.intro) <;> (first | ((repeat (first | (with_reducible assumption) | (with_reducible refine cell_keepD ?_) | (with_reducible refine cell_keepA ?_ _) | (with_reducible refine cell_keepS ?_ _ (by simp only []; omega)) | (with_reducible refine (hc1 _ _ (by go_size)).trans ?_))); done) | (go_cell; done)))) | fail
    first
      | (refine wpAnyH_take (i := 0) (v := ?_) rfl (by kernel_rfl) (by kernel_rfl) (by kernel_rfl) (fun _ _ _ h => h) (Or.inl ⟨by rfl, ?_⟩) (by assumption) ?_; rotate_left; · ((intro w hSw; (try dsimp only at hSw); go_simp); first | done | (with_reducible rfl)))
      | (refine wpAnyH_take (i := 0) (v := undef) rfl (by kernel_rfl) (by kernel_rfl) (by kernel_rfl) (fun _ _ _ h => h) (Or.inr ⟨by rfl, rfl⟩) (by assumption) ?_)
    (try simp only [Act.put, List.getElem_toArray, List.getElem_cons_zero, List.getElem_cons_succ, List.setIfInBounds_toArray, List.set_cons_zero, List.set_cons_succ])
    first
      | (refine wpAnyH_take (i := 1) (v := ?_) rfl (by kernel_rfl) (by kernel_rfl) (by kernel_rfl) (fun _ _ _ h => h) (Or.inl ⟨by rfl, ?_⟩) (by assumption) ?_; rotate_left; · ((intro w hSw; (try dsimp only at hSw); go_simp); first | done | (with_reducible rfl)))
      | (refine wpAnyH_take (i := 1) (v := undef) rfl (by kernel_rfl) (by kernel_rfl) (by kernel_rfl) (fun _ _ _ h => h) (Or.inr ⟨by rfl, rfl⟩) (by assumption) ?_)
    (try simp only [Act.put, List.getElem_toArray, List.getElem_cons_zero, List.getElem_cons_succ, List.setIfInBounds_toArray, List.set_cons_zero, List.set_cons_succ])
    first
      | (refine wpAnyH_take (i := 2) (v := ?_) rfl (by kernel_rfl) (by kernel_rfl) (by kernel_rfl) (fun _ _ _ h => h) (Or.inl ⟨by rfl, ?_⟩) (by assumption) ?_; rotate_left; · ((intro w hSw; (try dsimp only at hSw); go_simp); first | done | (with_reducible rfl)))
      | (refine wpAnyH_take (i := 2) (v := undef) rfl (by kernel_rfl) (by kernel_rfl) (by kernel_rfl) (fun _ _ _ h => h) (Or.inr ⟨by rfl, rfl⟩) (by assumption) ?_)
    (try simp only [Act.put, List.getElem_toArray, List.getElem_cons_zero, List.getElem_cons_succ, List.setIfInBounds_toArray, List.set_cons_zero, List.set_cons_succ])
    refine wpAnyH_ready (rs := [3]) (by kernel_rfl) (by simp) (AllReadyH.cons rfl (fun K hK => ?_) AllReadyH.nil)
    (try go_simp)
    first
      | (refine hK.out _ _ ?_ (fun hNew => ?_))
      | (((first | (go_at_call 17; refine (CoverColor_s0 _ _ _ _ _ _ HH.out).mono ?_; rintro e wz ⟨rfl, hbz⟩; obtain ⟨hc1, hf1⟩ := bcell hbz; have hz1 := hbz.size; (try simp only [World.size_alloc, World.size_setCell, World.size_drew] at hz1); have z0a : w1.heap.size < wz.heap.size := (by omega); have z0b : w1.heap.size < wz.heap.size + 1 := (by omega); have z0c : w1.heap.size < wz.heap.size + 1 + 1 := (by omega); have z0d : w1.heap.size < wz.heap.size + 1 + 1 + 1 := (by omega); have z1a : w2.heap.size < wz.heap.size := (by omega); have z1b : w2.heap.size < wz.heap.size + 1 := (by omega); have z1c : w2.heap.size < wz.heap.size + 1 + 1 := (by omega); have z1d : w2.heap.size < wz.heap.size + 1 + 1 + 1 := (by omega); have BZ : Below w.heap.size w wz := below_then (by first | (have hhh := HB3.out; go_grown; done) | (have hhh := HB2.out; go_grown; done) | fail) hbz) | (go_at_call 16; refine (ValidColor_i _ _ _ _ _).mono ?_; rintro e wz ⟨rfl, rfl⟩))); (try go_wp2_with fail); (refine hK.out _ _ ?_ (fun hNew => ?_)))
      | fail
    · (try dsimp only)
      first | ((try go_split_ands); (((repeat' apply And.intro) <;> (first | ((repeat (first | (with_reducible assumption) | (with_reducible refine cell_keepD ?_) | (with_reducible refine cell_keepA ?_ _) | (with_reducible refine cell_keepS ?_ _ (by simp only []; omega)) | (with_reducible refine (hc1 _ _ (by go_size)).trans ?_))); done) | (go_cell; done))))) | fail
    clear hK K hHeld
    have hHeld := hNew
    clear hNew
    (try simp only [Act.put, List.getElem_toArray, List.getElem_cons_zero, List.getElem_cons_succ, List.setIfInBounds_toArray, List.set_cons_zero, List.set_cons_succ])
    first
      | (refine wpAnyH_take (i := 4) (v := ?_) rfl (by kernel_rfl) (by kernel_rfl) (by kernel_rfl) (fun _ _ _ h => h) (Or.inl ⟨by rfl, ?_⟩) (by assumption) ?_; rotate_left; · ((intro w hSw; (try dsimp only at hSw); go_simp); first | done | (with_reducible rfl)))
      | (refine wpAnyH_take (i := 4) (v := undef) rfl (by kernel_rfl) (by kernel_rfl) (by kernel_rfl) (fun _ _ _ h => h) (Or.inr ⟨by rfl, rfl⟩) (by assumption) ?_)
    (try simp only [Act.put, List.getElem_toArray, List.getElem_cons_zero, List.getElem_cons_succ, List.setIfInBounds_toArray, List.set_cons_zero, List.set_cons_succ])
    first
      | (refine wpAnyH_take (i := 5) (v := ?_) rfl (by kernel_rfl) (by kernel_rfl) (by kernel_rfl) (fun _ _ _ h => h) (Or.inl ⟨by rfl, ?_⟩) (by assumption) ?_; rotate_left; · ((intro w hSw; (try dsimp only at hSw); go_simp); first | done | (with_reducible rfl)))
      | (refine wpAnyH_take (i := 5) (v := undef) rfl (by kernel_rfl) (by kernel_rfl) (by kernel_rfl) (fun _ _ _ h => h) (Or.inr ⟨by rfl, rfl⟩) (by assumption) ?_)
    (try simp only [Act.put, List.getElem_toArray, List.getElem_cons_zero, List.getElem_cons_succ, List.setIfInBounds_toArray, List.set_cons_zero, List.set_cons_succ])
    first
      | (refine wpAnyH_take (i := 6) (v := ?_) rfl (by kernel_rfl) (by kernel_rfl) (by kernel_rfl) (fun _ _ _ h => h) (Or.inl ⟨by rfl, ?_⟩) (by assumption) ?_; rotate_left; · ((intro w hSw; (try dsimp only at hSw); go_simp); first | done | (with_reducible rfl)))
      | (refine wpAnyH_take (i := 6) (v := undef) rfl (by kernel_rfl) (by kernel_rfl) (by kernel_rfl) (fun _ _ _ h => h) (Or.inr ⟨by rfl, rfl⟩) (by assumption) ?_)
    (try simp only [Act.put, List.getElem_toArray, List.getElem_cons_zero, List.getElem_cons_succ, List.setIfInBounds_toArray, List.set_cons_zero, List.set_cons_succ])
    refine wpAnyH_ready (rs := [7]) (by kernel_rfl) (by simp) (AllReadyH.cons rfl (fun K hK => ?_) AllReadyH.nil)
    (try go_simp)
    first
      | (refine hK.out _ _ ?_ (fun hNew => ?_))
      | (((first | (go_at_call 17; refine (CoverColor_s0 _ _ _ _ _ _ HH.out).mono ?_; rintro e wz ⟨rfl, hbz⟩; obtain ⟨hc1, hf1⟩ := bcell hbz; have hz1 := hbz.size; (try simp only [World.size_alloc, World.size_setCell, World.size_drew] at hz1); have z0a : w1.heap.size < wz.heap.size := (by omega); have z0b : w1.heap.size < wz.heap.size + 1 := (by omega); have z0c : w1.heap.size < wz.heap.size + 1 + 1 := (by omega); have z0d : w1.heap.size < wz.heap.size + 1 + 1 + 1 := (by omega); have z1a : w2.heap.size < wz.heap.size := (by omega); have z1b : w2.heap.size < wz.heap.size + 1 := (by omega); have z1c : w2.heap.size < wz.heap.size + 1 + 1 := (by omega); have z1d : w2.heap.size < wz.heap.size + 1 + 1 + 1 := (by omega); have BZ : Below w.heap.size w wz := below_then (by first | (have hhh := HB3.out; go_grown; done) | (have hhh := HB2.out; go_grown; done) | fail) hbz) | (go_at_call 16; refine (ValidColor_i _ _ _ _ _).mono ?_; rintro e wz ⟨rfl, rfl⟩))); (try go_wp2_with fail); (refine hK.out _ _ ?_ (fun hNew => ?_)))
      | fail
    · (try dsimp only)
      first | ((try go_split_ands); (((repeat' apply And.intro) <;> (first | ((repeat (first | (with_reducible assumption) | (with_reducible refine cell_keepD ?_) | (with_reducible refine cell_keepA ?_ _) | (with_reducible refine cell_keepS ?_ _ (by simp only []; omega)) | (with_reducible refine (hc1 _ _ (by go_size)).trans ?_))); done) | (go_cell; done))))) | fail
    clear hK K hHeld
    have hHeld := hNew
    clear hNew
    (try simp only [Act.put, List.getElem_toArray, List.getElem_cons_zero, List.getElem_cons_succ, List.setIfInBounds_toArray, List.set_cons_zero, List.set_cons_succ])
    first
      | (refine wpAnyH_take (i := 8) (v := ?_) rfl (by kernel_rfl) (by kernel_rfl) (by kernel_rfl) (fun _ _ _ h => h) (Or.inl ⟨by rfl, ?_⟩) (by assumption) ?_; rotate_left; · ((intro w hSw; (try dsimp only at hSw); go_simp); first | done | (with_reducible rfl)))
      | (refine wpAnyH_take (i := 8) (v := undef) rfl (by kernel_rfl) (by kernel_rfl) (by kernel_rfl) (fun _ _ _ h => h) (Or.inr ⟨by rfl, rfl⟩) (by assumption) ?_)
    (try simp only [Act.put, List.getElem_toArray, List.getElem_cons_zero, List.getElem_cons_succ, List.setIfInBounds_toArray, List.set_cons_zero, List.set_cons_succ])
    first
      | (refine wpAnyH_take (i := 9) (v := ?_) rfl (by kernel_rfl) (by kernel_rfl) (by kernel_rfl) (fun _ _ _ h => h) (Or.inl ⟨by rfl, ?_⟩) (by assumption) ?_; rotate_left; · ((intro w hSw; (try dsimp only at hSw); go_simp); first | done | (with_reducible rfl)))
      | (refine wpAnyH_take (i := 9) (v := undef) rfl (by kernel_rfl) (by kernel_rfl) (by kernel_rfl) (fun _ _ _ h => h) (Or.inr ⟨by rfl, rfl⟩) (by assumption) ?_)
    (try simp only [Act.put, List.getElem_toArray, List.getElem_cons_zero, List.getElem_cons_succ, List.setIfInBounds_toArray, List.set_cons_zero, List.set_cons_succ])
    first
      | (refine wpAnyH_take (i := 10) (v := ?_) rfl (by kernel_rfl) (by kernel_rfl) (by kernel_rfl) (fun _ _ _ h => h) (Or.inl ⟨by rfl, ?_⟩) (by assumption) ?_; rotate_left; · ((intro w hSw; (try dsimp only at hSw); go_simp); first | done | (with_reducible rfl)))
      | (refine wpAnyH_take (i := 10) (v := undef) rfl (by kernel_rfl) (by kernel_rfl) (by kernel_rfl) (fun _ _ _ h => h) (Or.inr ⟨by rfl, rfl⟩) (by assumption) ?_)
    (try simp only [Act.put, List.getElem_toArray, List.getElem_cons_zero, List.getElem_cons_succ, List.setIfInBounds_toArray, List.set_cons_zero, List.set_cons_succ])
    first
      | (refine wpAnyH_take (i := 11) (v := ?_) rfl (by kernel_rfl) (by kernel_rfl) (by kernel_rfl) (fun _ _ _ h => h) (Or.inl ⟨by rfl, ?_⟩) (by assumption) ?_; rotate_left; · ((intro w hSw; (try dsimp only at hSw); go_simp); first | done | (with_reducible rfl)))
      | (refine wpAnyH_take (i := 11) (v := undef) rfl (by kernel_rfl) (by kernel_rfl) (by kernel_rfl) (fun _ _ _ h => h) (Or.inr ⟨by rfl, rfl⟩) (by assumption) ?_)
    (try simp only [Act.put, List.getElem_toArray, List.getElem_cons_zero, List.getElem_cons_succ, List.setIfInBounds_toArray, List.set_cons_zero, List.set_cons_succ])
    first
      | (refine wpAnyH_take (i := 12) (v := ?_) rfl (by kernel_rfl) (by kernel_rfl) (by kernel_rfl) (fun _ _ _ h => h) (Or.inl ⟨by rfl, ?_⟩) (by assumption) ?_; rotate_left; · ((intro w hSw; (try dsimp only at hSw); go_simp); first | done | (with_reducible rfl)))
      | (refine wpAnyH_take (i := 12) (v := undef) rfl (by kernel_rfl) (by kernel_rfl) (by kernel_rfl) (fun _ _ _ h => h) (Or.inr ⟨by rfl, rfl⟩) (by assumption) ?_)
    (try simp only [Act.put, List.getElem_toArray, List.getElem_cons_zero, List.getElem_cons_succ, List.setIfInBounds_toArray, List.set_cons_zero, List.set_cons_succ])
    first
      | (refine wpAnyH_take (i := 13) (v := ?_) rfl (by kernel_rfl) (by kernel_rfl) (by kernel_rfl) (fun _ _ _ h => h) (Or.inl ⟨by rfl, ?_⟩) (by assumption) ?_; rotate_left; · ((intro w hSw; (try dsimp only at hSw); go_simp); first | done | (with_reducible rfl)))
      | (refine wpAnyH_take (i := 13) (v := undef) rfl (by kernel_rfl) (by kernel_rfl) (by kernel_rfl) (fun _ _ _ h => h) (Or.inr ⟨by rfl, rfl⟩) (by assumption) ?_)
    (try simp only [Act.put, List.getElem_toArray, List.getElem_cons_zero, List.getElem_cons_succ, List.setIfInBounds_toArray, List.set_cons_zero, List.set_cons_succ])
    first
      | (refine wpAnyH_take (i := 14) (v := ?_) rfl (by kernel_rfl) (by kernel_rfl) (by kernel_rfl) (fun _ _ _ h => h) (Or.inl ⟨by rfl, ?_⟩) (by assumption) ?_; rotate_left; · ((intro w hSw; (try dsimp only at hSw); go_simp); first | done | (with_reducible rfl)))
      | (refine wpAnyH_take (i := 14) (v := undef) rfl (by kernel_rfl) (by kernel_rfl) (by kernel_rfl) (fun _ _ _ h => h) (Or.inr ⟨by rfl, rfl⟩) (by assumption) ?_)
    (try simp only [Act.put, List.getElem_toArray, List.getElem_cons_zero, List.getElem_cons_succ, List.setIfInBounds_toArray, List.set_cons_zero, List.set_cons_succ])
    first
      | (refine wpAnyH_take (i := 15) (v := ?_) rfl (by kernel_rfl) (by kernel_rfl) (by kernel_rfl) (fun _ _ _ h => h) (Or.inl ⟨by rfl, ?_⟩) (by assumption) ?_; rotate_left; · ((intro w hSw; (try dsimp only at hSw); go_simp); first | done | (with_reducible rfl)))
      | (refine wpAnyH_take (i := 15) (v := undef) rfl (by kernel_rfl) (by kernel_rfl) (by kernel_rfl) (fun _ _ _ h => h) (Or.inr ⟨by rfl, rfl⟩) (by assumption) ?_)
    (try simp only [Act.put, List.getElem_toArray, List.getElem_cons_zero, List.getElem_cons_succ, List.setIfInBounds_toArray, List.set_cons_zero, List.set_cons_succ])
    first
      | (refine wpAnyH_take (i := 16) (v := ?_) rfl (by kernel_rfl) (by kernel_rfl) (by kernel_rfl) (fun _ _ _ h => h) (Or.inl ⟨by rfl, ?_⟩) (by assumption) ?_; rotate_left; · ((intro w hSw; (try dsimp only at hSw); go_simp); first | done | (with_reducible rfl)))
      | (refine wpAnyH_take (i := 16) (v := undef) rfl (by kernel_rfl) (by kernel_rfl) (by kernel_rfl) (fun _ _ _ h => h) (Or.inr ⟨by rfl, rfl⟩) (by assumption) ?_)
    (try simp only [Act.put, List.getElem_toArray, List.getElem_cons_zero, List.getElem_cons_succ, List.setIfInBounds_toArray, List.set_cons_zero, List.set_cons_succ])
    first
      | (refine wpAnyH_take (i := 17) (v := ?_) rfl (by kernel_rfl) (by kernel_rfl) (by kernel_rfl) (fun _ _ _ h => h) (Or.inl ⟨by rfl, ?_⟩) (by assumption) ?_; rotate_left; · ((intro w hSw; (try dsimp only at hSw); go_simp); first | done | (with_reducible rfl)))
      | (refine wpAnyH_take (i := 17) (v := undef) rfl (by kernel_rfl) (by kernel_rfl) (by kernel_rfl) (fun _ _ _ h => h) (Or.inr ⟨by rfl, rfl⟩) (by assumption) ?_)
    (try simp only [Act.put, List.getElem_toArray, List.getElem_cons_zero, List.getElem_cons_succ, List.setIfInBounds_toArray, List.set_cons_zero, List.set_cons_succ])
    (try dsimp only at hHeld)
    go_split_ands
    refine wpAnyH_done (by kernel_rfl) ?_ _
    go_wp2_with fail
    refine wp_region_held_drew (S := fun w' => w'.cell? ⟨w1.heap.size, 0, none⟩ = some (.int .i64 r) ∧ w'.cell? ⟨w1.heap.size, 1, none⟩ = some (.int .i64 g) ∧ w'.cell? ⟨w1.heap.size, 2, none⟩ = some (.int .i64 b) ∧ w'.cell? ⟨w1.heap.size, 3, none⟩ = some (.int .i64 a) ∧ w'.cell? ⟨w2.heap.size, 0, none⟩ = some (.int .i64 0) ∧ w'.cell? ⟨w2.heap.size, 1, none⟩ = some (.int .i64 0) ∧ w'.cell? ⟨w2.heap.size, 2, none⟩ = some (.int .i64 0) ∧ w'.cell? ⟨w2.heap.size, 3, none⟩ = some (.int .i64 0)) (by kernel_rfl) ?_ (fun hHeld => ?_)
    · (try dsimp only)
      first | (((repeat' apply And.intro) <;> (first | ((repeat (first | (with_reducible assumption) | (with_reducible refine cell_keepD ?_) | (with_reducible refine cell_keepA ?_ _) | (with_reducible refine cell_keepS ?_ _ (by simp only []; omega)) | (with_reducible refine (hc1 _ _ (by go_size)).trans ?_))); done) | (go_cell; done)))) | fail
    first
      | (refine wpAnyH_take (i := 0) (v := ?_) rfl (by kernel_rfl) (by kernel_rfl) (by kernel_rfl) (fun _ _ _ h => h) (Or.inl ⟨by rfl, ?_⟩) (by assumption) ?_; rotate_left; · ((intro w hSw; (try dsimp only at hSw); go_simp); first | done | (with_reducible rfl)))
      | (refine wpAnyH_take (i := 0) (v := undef) rfl (by kernel_rfl) (by kernel_rfl) (by kernel_rfl) (fun _ _ _ h => h) (Or.inr ⟨by rfl, rfl⟩) (by assumption) ?_)
    (try simp only [Act.put, List.getElem_toArray, List.getElem_cons_zero, List.getElem_cons_succ, List.setIfInBounds_toArray, List.set_cons_zero, List.set_cons_succ])
    first
      | (refine wpAnyH_take (i := 1) (v := ?_) rfl (by kernel_rfl) (by kernel_rfl) (by kernel_rfl) (fun _ _ _ h => h) (Or.inl ⟨by rfl, ?_⟩) (by assumption) ?_; rotate_left; · ((intro w hSw; (try dsimp only at hSw); go_simp); first | done | (with_reducible rfl)))
      | (refine wpAnyH_take (i := 1) (v := undef) rfl (by kernel_rfl) (by kernel_rfl) (by kernel_rfl) (fun _ _ _ h => h) (Or.inr ⟨by rfl, rfl⟩) (by assumption) ?_)
    (try simp only [Act.put, List.getElem_toArray, List.getElem_cons_zero, List.getElem_cons_succ, List.setIfInBounds_toArray, List.set_cons_zero, List.set_cons_succ])
    first
      | (refine wpAnyH_take (i := 2) (v := ?_) rfl (by kernel_rfl) (by kernel_rfl) (by kernel_rfl) (fun _ _ _ h => h) (Or.inl ⟨by rfl, ?_⟩) (by assumption) ?_; rotate_left; · ((intro w hSw; (try dsimp only at hSw); go_simp); first | done | (with_reducible rfl)))
      | (refine wpAnyH_take (i := 2) (v := undef) rfl (by kernel_rfl) (by kernel_rfl) (by kernel_rfl) (fun _ _ _ h => h) (Or.inr ⟨by rfl, rfl⟩) (by assumption) ?_)
    (try simp only [Act.put, List.getElem_toArray, List.getElem_cons_zero, List.getElem_cons_succ, List.setIfInBounds_toArray, List.set_cons_zero, List.set_cons_succ])
    refine wpAnyH_ready (rs := [3]) (by kernel_rfl) (by simp) (AllReadyH.cons rfl (fun K hK => ?_) AllReadyH.nil)
    (try go_simp)
    first
      | (refine hK.out _ _ ?_ (fun hNew => ?_))
      | (((first | (go_at_call 17; refine (CoverColor_s0 _ _ _ _ _ _ HH.out).mono ?_; rintro e wz ⟨rfl, hbz⟩; obtain ⟨hc1, hf1⟩ := bcell hbz; have hz1 := hbz.size; (try simp only [World.size_alloc, World.size_setCell, World.size_drew] at hz1); have z0a : w1.heap.size < wz.heap.size := (by omega); have z0b : w1.heap.size < wz.heap.size + 1 := (by omega); have z0c : w1.heap.size < wz.heap.size + 1 + 1 := (by omega); have z0d : w1.heap.size < wz.heap.size + 1 + 1 + 1 := (by omega); have z1a : w2.heap.size < wz.heap.size := (by omega); have z1b : w2.heap.size < wz.heap.size + 1 := (by omega); have z1c : w2.heap.size < wz.heap.size + 1 + 1 := (by omega); have z1d : w2.heap.size < wz.heap.size + 1 + 1 + 1 := (by omega); have BZ : Below w.heap.size w wz := below_then (by first | (have hhh := HB3.out; go_grown; done) | (have hhh := HB2.out; go_grown; done) | fail) hbz) | (go_at_call 16; refine (ValidColor_i _ _ _ _ _).mono ?_; rintro e wz ⟨rfl, rfl⟩))); (try go_wp2_with fail); (refine hK.out _ _ ?_ (fun hNew => ?_)))
      | fail
    · (try dsimp only)
      first | ((try go_split_ands); (((repeat' apply And.intro) <;> (first | ((repeat (first | (with_reducible assumption) | (with_reducible refine cell_keepD ?_) | (with_reducible refine cell_keepA ?_ _) | (with_reducible refine cell_keepS ?_ _ (by simp only []; omega)) | (with_reducible refine (hc1 _ _ (by go_size)).trans ?_))); done) | (go_cell; done))))) | fail
    clear hK K hHeld
    have hHeld := hNew
    clear hNew
    (try simp only [Act.put, List.getElem_toArray, List.getElem_cons_zero, List.getElem_cons_succ, List.setIfInBounds_toArray, List.set_cons_zero, List.set_cons_succ])
    first
      | (refine wpAnyH_take (i := 4) (v := ?_) rfl (by kernel_rfl) (by kernel_rfl) (by kernel_rfl) (fun _ _ _ h => h) (Or.inl ⟨by rfl, ?_⟩) (by assumption) ?_; rotate_left; · ((intro w hSw; (try dsimp only at hSw); go_simp); first | done | (with_reducible rfl)))
      | (refine wpAnyH_take (i := 4) (v := undef) rfl (by kernel_rfl) (by kernel_rfl) (by kernel_rfl) (fun _ _ _ h => h) (Or.inr ⟨by rfl, rfl⟩) (by assumption) ?_)
    (try simp only [Act.put, List.getElem_toArray, List.getElem_cons_zero, List.getElem_cons_succ, List.setIfInBounds_toArray, List.set_cons_zero, List.set_cons_succ])
    first
      | (refine wpAnyH_take (i := 5) (v := ?_) rfl (by kernel_rfl) (by kernel_rfl) (by kernel_rfl) (fun _ _ _ h => h) (Or.inl ⟨by rfl, ?_⟩) (by assumption) ?_; rotate_left; · ((intro w hSw; (try dsimp only at hSw); go_simp); first | done | (with_reducible rfl)))
      | (refine wpAnyH_take (i := 5) (v := undef) rfl (by kernel_rfl) (by kernel_rfl) (by kernel_rfl) (fun _ _ _ h => h) (Or.inr ⟨by rfl, rfl⟩) (by assumption) ?_)
    (try simp only [Act.put, List.getElem_toArray, List.getElem_cons_zero, List.getElem_cons_succ, List.setIfInBounds_toArray, List.set_cons_zero, List.set_cons_succ])
    (try dsimp only at hHeld)
    go_split_ands
    refine wpAnyH_done (by kernel_rfl) ?_ _
    go_wp2_with (first | (go_at_call 16; refine (ValidColor_i _ _ _ _ _).mono ?_; rintro e wz ⟨rfl, rfl⟩) | fail)
    all_goals
      go_ret
      exact ⟨ret_b (by first | rfl | (simp; done) | (simp [*]; done) | (simp; omega)), by have hhh := HB2.out; go_grown⟩
  have g1 := colB_true.1 h1
  by_cases h5 : t < 16
  · have hn1 : decide (t < 0) = false := by simp; omega
    have hn2 : decide (16 < t) = false := by simp; omega
    have hn3 : t + 1 ≤ 16 := by omega
    have ev := cv_valid (p := t) (by omega) (by omega) h1
    have em1 : cv a t ≤ cv a (t + 1) := cv_more (by omega) (by omega)
    have em2 : cv r t ≤ cv r (t + 1) := cv_more (by omega) (by omega)
    have ezr := cv_zero r
    have efr := cv_full r
    have ezg := cv_zero g
    have efg := cv_full g
    have ezb := cv_zero b
    have efb := cv_full b
    have eza := cv_zero a
    have efa := cv_full a
    go_wp2_with fail
    refine (CoverColor_iV _ _ _ _ _ _ h1 (by omega) (by omega)).mono ?_
    rintro e w2 ⟨rfl, hb2⟩
    have A2 := Lib.hid (show Row w2 (w1.heap.size) 25 4 (col r g b a) from Row.below (row_col1 _ _ _ _ _ _ _ (by go_size)) hb2 (by go_size))
    have HB2 := Lib.hid (show Below w.heap.size w w2 from below_then (by have hhh := HB1.out; go_grown) hb2)
    have hs2 := hb2.size
    (try simp only [World.size_alloc, World.size_setCell, World.size_drew] at hs2)
    clear hb2
    obtain ⟨⟨cA2_0, cA2_1, cA2_2, cA2_3⟩, fA2_0, fA2_1, fA2_2, fA2_3⟩ := col_cells A2.out
    go_wp2_with fail
    refine wp_region_held_drew (S := fun w' => w'.cell? ⟨w1.heap.size, 0, none⟩ = some (.int .i64 r) ∧ w'.cell? ⟨w1.heap.size, 1, none⟩ = some (.int .i64 g) ∧ w'.cell? ⟨w1.heap.size, 2, none⟩ = some (.int .i64 b) ∧ w'.cell? ⟨w1.heap.size, 3, none⟩ = some (.int .i64 a) ∧ w'.cell? ⟨w2.heap.size, 0, none⟩ = some (.int .i64 (cv r t)) ∧ w'.cell? ⟨w2.heap.size, 1, none⟩ = some (.int .i64 (cv g t)) ∧ w'.cell? ⟨w2.heap.size, 2, none⟩ = some (.int .i64 (cv b t)) ∧ w'.cell? ⟨w2.heap.size, 3, none⟩ = some (.int .i64 (cv a t))) (by kernel_rfl) ?_ (fun hHeld => ?_)
    · (try dsimp only)
      first | (((repeat' apply And.intro) <;> (first | ((repeat (first | (with_reducible assumption) | (with_reducible refine cell_keepD ?_) | (with_reducible refine cell_keepA ?_ _) | (with_reducible refine cell_keepS ?_ _ (by simp only []; omega)) | (with_reducible refine (hc1 _ _ (by go_size)).trans ?_))); done) | (go_cell; done)))) | fail
    first
      | (refine wpAnyH_take (i := 0) (v := ?_) rfl (by kernel_rfl) (by kernel_rfl) (by kernel_rfl) (fun _ _ _ h => h) (Or.inl ⟨by rfl, ?_⟩) (by assumption) ?_; rotate_left; · ((intro w hSw; (try dsimp only at hSw); go_simp); first | done | (with_reducible rfl)))
      | (refine wpAnyH_take (i := 0) (v := undef) rfl (by kernel_rfl) (by kernel_rfl) (by kernel_rfl) (fun _ _ _ h => h) (Or.inr ⟨by rfl, rfl⟩) (by assumption) ?_)
    (try simp only [Act.put, List.getElem_toArray, List.getElem_cons_zero, List.getElem_cons_succ, List.setIfInBounds_toArray, List.set_cons_zero, List.set_cons_succ])
    first
      | (refine wpAnyH_take (i := 1) (v := ?_) rfl (by kernel_rfl) (by kernel_rfl) (by kernel_rfl) (fun _ _ _ h => h) (Or.inl ⟨by rfl, ?_⟩) (by assumption) ?_; rotate_left; · ((intro w hSw; (try dsimp only at hSw); go_simp); first | done | (with_reducible rfl)))
      | (refine wpAnyH_take (i := 1) (v := undef) rfl (by kernel_rfl) (by kernel_rfl) (by kernel_rfl) (fun _ _ _ h => h) (Or.inr ⟨by rfl, rfl⟩) (by assumption) ?_)
    (try simp only [Act.put, List.getElem_toArray, List.getElem_cons_zero, List.getElem_cons_succ, List.setIfInBounds_toArray, List.set_cons_zero, List.set_cons_succ])
    first
      | (refine wpAnyH_take (i := 2) (v := ?_) rfl (by kernel_rfl) (by kernel_rfl) (by kernel_rfl) (fun _ _ _ h => h) (Or.inl ⟨by rfl, ?_⟩) (by assumption) ?_; rotate_left; · ((intro w hSw; (try dsimp only at hSw); go_simp); first | done | (with_reducible rfl)))
      | (refine wpAnyH_take (i := 2) (v := undef) rfl (by kernel_rfl) (by kernel_rfl) (by kernel_rfl) (fun _ _ _ h => h) (Or.inr ⟨by rfl, rfl⟩) (by assumption) ?_)
    (try simp only [Act.put, List.getElem_toArray, List.getElem_cons_zero, List.getElem_cons_succ, List.setIfInBounds_toArray, List.set_cons_zero, List.set_cons_succ])
    refine wpAnyH_ready (rs := [3]) (by kernel_rfl) (by simp) (AllReadyH.cons rfl (fun K hK => ?_) AllReadyH.nil)
    (try go_simp)
    first
      | (refine hK.out _ _ ?_ (fun hNew => ?_))
      | (((first | (go_at_call 17; refine (CoverColor_sV _ _ _ _ _ _ h1 (by omega) (by omega)).mono ?_; rintro e wz ⟨rfl, hbz⟩; obtain ⟨hc1, hf1⟩ := bcell hbz; have hz1 := hbz.size; (try simp only [World.size_alloc, World.size_setCell, World.size_drew] at hz1); have z0a : w1.heap.size < wz.heap.size := (by omega); have z0b : w1.heap.size < wz.heap.size + 1 := (by omega); have z0c : w1.heap.size < wz.heap.size + 1 + 1 := (by omega); have z0d : w1.heap.size < wz.heap.size + 1 + 1 + 1 := (by omega); have z1a : w2.heap.size < wz.heap.size := (by omega); have z1b : w2.heap.size < wz.heap.size + 1 := (by omega); have z1c : w2.heap.size < wz.heap.size + 1 + 1 := (by omega); have z1d : w2.heap.size < wz.heap.size + 1 + 1 + 1 := (by omega); have BZ : Below w.heap.size w wz := below_then (by first | (have hhh := HB3.out; go_grown; done) | (have hhh := HB2.out; go_grown; done) | fail) hbz) | (go_at_call 16; refine (ValidColor_i _ _ _ _ _).mono ?_; rintro e wz ⟨rfl, rfl⟩) | (go_at_call 18; refine (CoverColor_iV _ _ _ _ _ _ h1 (by omega) (by omega)).mono ?_; rintro e wz ⟨rfl, hbz⟩; obtain ⟨hc1, hf1⟩ := bcell hbz; have hz1 := hbz.size; (try simp only [World.size_alloc, World.size_setCell, World.size_drew] at hz1); have z0a : w1.heap.size < wz.heap.size := (by omega); have z0b : w1.heap.size < wz.heap.size + 1 := (by omega); have z0c : w1.heap.size < wz.heap.size + 1 + 1 := (by omega); have z0d : w1.heap.size < wz.heap.size + 1 + 1 + 1 := (by omega); have z1a : w2.heap.size < wz.heap.size := (by omega); have z1b : w2.heap.size < wz.heap.size + 1 := (by omega); have z1c : w2.heap.size < wz.heap.size + 1 + 1 := (by omega); have z1d : w2.heap.size < wz.heap.size + 1 + 1 + 1 := (by omega); have BZ : Below w.heap.size w wz := below_then (by first | (have hhh := HB3.out; go_grown; done) | (have hhh := HB2.out; go_grown; done) | fail) hbz))); (try go_wp2_with fail); (refine hK.out _ _ ?_ (fun hNew => ?_)))
      | fail
    · (try dsimp only)
      first | ((try go_split_ands); (((repeat' apply And.intro) <;> (first | ((repeat (first | (with_reducible assumption) | (with_reducible refine cell_keepD ?_) | (with_reducible refine cell_keepA ?_ _) | (with_reducible refine cell_keepS ?_ _ (by simp only []; omega)) | (with_reducible refine (hc1 _ _ (by go_size)).trans ?_))); done) | (go_cell; done))))) | fail
    clear hK K hHeld
    have hHeld := hNew
    clear hNew
    (try simp only [Act.put, List.getElem_toArray, List.getElem_cons_zero, List.getElem_cons_succ, List.setIfInBounds_toArray, List.set_cons_zero, List.set_cons_succ])
    first
      | (refine wpAnyH_take (i := 4) (v := ?_) rfl (by kernel_rfl) (by kernel_rfl) (by kernel_rfl) (fun _ _ _ h => h) (Or.inl ⟨by rfl, ?_⟩) (by assumption) ?_; rotate_left; · ((intro w hSw; (try dsimp only at hSw); go_simp); first | done | (with_reducible rfl)))
      | (refine wpAnyH_take (i := 4) (v := undef) rfl (by kernel_rfl) (by kernel_rfl) (by kernel_rfl) (fun _ _ _ h => h) (Or.inr ⟨by rfl, rfl⟩) (by assumption) ?_)
    (try simp only [Act.put, List.getElem_toArray, List.getElem_cons_zero, List.getElem_cons_succ, List.setIfInBounds_toArray, List.set_cons_zero, List.set_cons_succ])
    first
      | (refine wpAnyH_take (i := 5) (v := ?_) rfl (by kernel_rfl) (by kernel_rfl) (by kernel_rfl) (fun _ _ _ h => h) (Or.inl ⟨by rfl, ?_⟩) (by assumption) ?_; rotate_left; · ((intro w hSw; (try dsimp only at hSw); go_simp); first | done | (with_reducible rfl)))
      | (refine wpAnyH_take (i := 5) (v := undef) rfl (by kernel_rfl) (by kernel_rfl) (by kernel_rfl) (fun _ _ _ h => h) (Or.inr ⟨by rfl, rfl⟩) (by assumption) ?_)
    (try simp only [Act.put, List.getElem_toArray, List.getElem_cons_zero, List.getElem_cons_succ, List.setIfInBounds_toArray, List.set_cons_zero, List.set_cons_succ])
    first
      | (refine wpAnyH_take (i := 6) (v := ?_) rfl (by kernel_rfl) (by kernel_rfl) (by kernel_rfl) (fun _ _ _ h => h) (Or.inl ⟨by rfl, ?_⟩) (by assumption) ?_; rotate_left; · ((intro w hSw; (try dsimp only at hSw); go_simp); first | done | (with_reducible rfl)))
      | (refine wpAnyH_take (i := 6) (v := undef) rfl (by kernel_rfl) (by kernel_rfl) (by kernel_rfl) (fun _ _ _ h => h) (Or.inr ⟨by rfl, rfl⟩) (by assumption) ?_)
    (try simp only [Act.put, List.getElem_toArray, List.getElem_cons_zero, List.getElem_cons_succ, List.setIfInBounds_toArray, List.set_cons_zero, List.set_cons_succ])
    refine wpAnyH_ready (rs := [7]) (by kernel_rfl) (by simp) (AllReadyH.cons rfl (fun K hK => ?_) AllReadyH.nil)
    (try go_simp)
    first
      | (refine hK.out _ _ ?_ (fun hNew => ?_))
      | (((first | (go_at_call 17; refine (CoverColor_sV _ _ _ _ _ _ h1 (by omega) (by omega)).mono ?_; rintro e wz ⟨rfl, hbz⟩; obtain ⟨hc1, hf1⟩ := bcell hbz; have hz1 := hbz.size; (try simp only [World.size_alloc, World.size_setCell, World.size_drew] at hz1); have z0a : w1.heap.size < wz.heap.size := (by omega); have z0b : w1.heap.size < wz.heap.size + 1 := (by omega); have z0c : w1.heap.size < wz.heap.size + 1 + 1 := (by omega); have z0d : w1.heap.size < wz.heap.size + 1 + 1 + 1 := (by omega); have z1a : w2.heap.size < wz.heap.size := (by omega); have z1b : w2.heap.size < wz.heap.size + 1 := (by omega); have z1c : w2.heap.size < wz.heap.size + 1 + 1 := (by omega); have z1d : w2.heap.size < wz.heap.size + 1 + 1 + 1 := (by omega); have BZ : Below w.heap.size w wz := below_then (by first | (have hhh := HB3.out; go_grown; done) | (have hhh := HB2.out; go_grown; done) | fail) hbz) | (go_at_call 16; refine (ValidColor_i _ _ _ _ _).mono ?_; rintro e wz ⟨rfl, rfl⟩) | (go_at_call 18; refine (CoverColor_iV _ _ _ _ _ _ h1 (by omega) (by omega)).mono ?_; rintro e wz ⟨rfl, hbz⟩; obtain ⟨hc1, hf1⟩ := bcell hbz; have hz1 := hbz.size; (try simp only [World.size_alloc, World.size_setCell, World.size_drew] at hz1); have z0a : w1.heap.size < wz.heap.size := (by omega); have z0b : w1.heap.size < wz.heap.size + 1 := (by omega); have z0c : w1.heap.size < wz.heap.size + 1 + 1 := (by omega); have z0d : w1.heap.size < wz.heap.size + 1 + 1 + 1 := (by omega); have z1a : w2.heap.size < wz.heap.size := (by omega); have z1b : w2.heap.size < wz.heap.size + 1 := (by omega); have z1c : w2.heap.size < wz.heap.size + 1 + 1 := (by omega); have z1d : w2.heap.size < wz.heap.size + 1 + 1 + 1 := (by omega); have BZ : Below w.heap.size w wz := below_then (by first | (have hhh := HB3.out; go_grown; done) | (have hhh := HB2.out; go_grown; done) | fail) hbz))); (try go_wp2_with fail); (refine hK.out _ _ ?_ (fun hNew => ?_)))
      | fail
    · (try dsimp only)
      first | ((try go_split_ands); (((repeat' apply And.intro) <;> (first | ((repeat (first | (with_reducible assumption) | (with_reducible refine cell_keepD ?_) | (with_reducible refine cell_keepA ?_ _) | (with_reducible refine cell_keepS ?_ _ (by simp only []; omega)) | (with_reducible refine (hc1 _ _ (by go_size)).trans ?_))); done) | (go_cell; done))))) | fail
    clear hK K hHeld
    have hHeld := hNew
    clear hNew
    (try simp only [Act.put, List.getElem_toArray, List.getElem_cons_zero, List.getElem_cons_succ, List.setIfInBounds_toArray, List.set_cons_zero, List.set_cons_succ])
    first
      | (refine wpAnyH_take (i := 8) (v := ?_) rfl (by kernel_rfl) (by kernel_rfl) (by kernel_rfl) (fun _ _ _ h => h) (Or.inl ⟨by rfl, ?_⟩) (by assumption) ?_; rotate_left; · ((intro w hSw; (try dsimp only at hSw); go_simp); first | done | (with_reducible rfl)))
      | (refine wpAnyH_take (i := 8) (v := undef) rfl (by kernel_rfl) (by kernel_rfl) (by kernel_rfl) (fun _ _ _ h => h) (Or.inr ⟨by rfl, rfl⟩) (by assumption) ?_)
    (try simp only [Act.put, List.getElem_toArray, List.getElem_cons_zero, List.getElem_cons_succ, List.setIfInBounds_toArray, List.set_cons_zero, List.set_cons_succ])
    first
      | (refine wpAnyH_take (i := 9) (v := ?_) rfl (by kernel_rfl) (by kernel_rfl) (by kernel_rfl) (fun _ _ _ h => h) (Or.inl ⟨by rfl, ?_⟩) (by assumption) ?_; rotate_left; · ((intro w hSw; (try dsimp only at hSw); go_simp); first | done | (with_reducible rfl)))
      | (refine wpAnyH_take (i := 9) (v := undef) rfl (by kernel_rfl) (by kernel_rfl) (by kernel_rfl) (fun _ _ _ h => h) (Or.inr ⟨by rfl, rfl⟩) (by assumption) ?_)
    (try simp only [Act.put, List.getElem_toArray, List.getElem_cons_zero, List.getElem_cons_succ, List.setIfInBounds_toArray, List.set_cons_zero, List.set_cons_succ])
    first
      | (refine wpAnyH_take (i := 10) (v := ?_) rfl (by kernel_rfl) (by kernel_rfl) (by kernel_rfl) (fun _ _ _ h => h) (Or.inl ⟨by rfl, ?_⟩) (by assumption) ?_; rotate_left; · ((intro w hSw; (try dsimp only at hSw); go_simp); first | done | (with_reducible rfl)))
      | (refine wpAnyH_take (i := 10) (v := undef) rfl (by kernel_rfl) (by kernel_rfl) (by kernel_rfl) (fun _ _ _ h => h) (Or.inr ⟨by rfl, rfl⟩) (by assumption) ?_)
    (try simp only [Act.put, List.getElem_toArray, List.getElem_cons_zero, List.getElem_cons_succ, List.setIfInBounds_toArray, List.set_cons_zero, List.set_cons_succ])
    first
      | (refine wpAnyH_take (i := 11) (v := ?_) rfl (by kernel_rfl) (by kernel_rfl) (by kernel_rfl) (fun _ _ _ h => h) (Or.inl ⟨by rfl, ?_⟩) (by assumption) ?_; rotate_left; · ((intro w hSw; (try dsimp only at hSw); go_simp); first | done | (with_reducible rfl)))
      | (refine wpAnyH_take (i := 11) (v := undef) rfl (by kernel_rfl) (by kernel_rfl) (by kernel_rfl) (fun _ _ _ h => h) (Or.inr ⟨by rfl, rfl⟩) (by assumption) ?_)
    (try simp only [Act.put, List.getElem_toArray, List.getElem_cons_zero, List.getElem_cons_succ, List.setIfInBounds_toArray, List.set_cons_zero, List.set_cons_succ])
    first
      | (refine wpAnyH_take (i := 12) (v := ?_) rfl (by kernel_rfl) (by kernel_rfl) (by kernel_rfl) (fun _ _ _ h => h) (Or.inl ⟨by rfl, ?_⟩) (by assumption) ?_; rotate_left; · ((intro w hSw; (try dsimp only at hSw); go_simp); first | done | (with_reducible rfl)))
      | (refine wpAnyH_take (i := 12) (v := undef) rfl (by kernel_rfl) (by kernel_rfl) (by kernel_rfl) (fun _ _ _ h => h) (Or.inr ⟨by rfl, rfl⟩) (by assumption) ?_)
    (try simp only [Act.put, List.getElem_toArray, List.getElem_cons_zero, List.getElem_cons_succ, List.setIfInBounds_toArray, List.set_cons_zero, List.set_cons_succ])
    first
      | (refine wpAnyH_take (i := 13) (v := ?_) rfl (by kernel_rfl) (by kernel_rfl) (by kernel_rfl) (fun _ _ _ h => h) (Or.inl ⟨by rfl, ?_⟩) (by assumption) ?_; rotate_left; · ((intro w hSw; (try dsimp only at hSw); go_simp); first | done | (with_reducible rfl)))
      | (refine wpAnyH_take (i := 13) (v := undef) rfl (by kernel_rfl) (by kernel_rfl) (by kernel_rfl) (fun _ _ _ h => h) (Or.inr ⟨by rfl, rfl⟩) (by assumption) ?_)
    (try simp only [Act.put, List.getElem_toArray, List.getElem_cons_zero, List.getElem_cons_succ, List.setIfInBounds_toArray, List.set_cons_zero, List.set_cons_succ])
    first
      | (refine wpAnyH_take (i := 14) (v := ?_) rfl (by kernel_rfl) (by kernel_rfl) (by kernel_rfl) (fun _ _ _ h => h) (Or.inl ⟨by rfl, ?_⟩) (by assumption) ?_; rotate_left; · ((intro w hSw; (try dsimp only at hSw); go_simp); first | done | (with_reducible rfl)))
      | (refine wpAnyH_take (i := 14) (v := undef) rfl (by kernel_rfl) (by kernel_rfl) (by kernel_rfl) (fun _ _ _ h => h) (Or.inr ⟨by rfl, rfl⟩) (by assumption) ?_)
    (try simp only [Act.put, List.getElem_toArray, List.getElem_cons_zero, List.getElem_cons_succ, List.setIfInBounds_toArray, List.set_cons_zero, List.set_cons_succ])
    first
      | (refine wpAnyH_take (i := 15) (v := ?_) rfl (by kernel_rfl) (by kernel_rfl) (by kernel_rfl) (fun _ _ _ h => h) (Or.inl ⟨by rfl, ?_⟩) (by assumption) ?_; rotate_left; · ((intro w hSw; (try dsimp only at hSw); go_simp); first | done | (with_reducible rfl)))
      | (refine wpAnyH_take (i := 15) (v := undef) rfl (by kernel_rfl) (by kernel_rfl) (by kernel_rfl) (fun _ _ _ h => h) (Or.inr ⟨by rfl, rfl⟩) (by assumption) ?_)
    (try simp only [Act.put, List.getElem_toArray, List.getElem_cons_zero, List.getElem_cons_succ, List.setIfInBounds_toArray, List.set_cons_zero, List.set_cons_succ])
    first
      | (refine wpAnyH_take (i := 16) (v := ?_) rfl (by kernel_rfl) (by kernel_rfl) (by kernel_rfl) (fun _ _ _ h => h) (Or.inl ⟨by rfl, ?_⟩) (by assumption) ?_; rotate_left; · ((intro w hSw; (try dsimp only at hSw); go_simp); first | done | (with_reducible rfl)))
      | (refine wpAnyH_take (i := 16) (v := undef) rfl (by kernel_rfl) (by kernel_rfl) (by kernel_rfl) (fun _ _ _ h => h) (Or.inr ⟨by rfl, rfl⟩) (by assumption) ?_)
    (try simp only [Act.put, List.getElem_toArray, List.getElem_cons_zero, List.getElem_cons_succ, List.setIfInBounds_toArray, List.set_cons_zero, List.set_cons_succ])
    first
      | (refine wpAnyH_take (i := 17) (v := ?_) rfl (by kernel_rfl) (by kernel_rfl) (by kernel_rfl) (fun _ _ _ h => h) (Or.inl ⟨by rfl, ?_⟩) (by assumption) ?_; rotate_left; · ((intro w hSw; (try dsimp only at hSw); go_simp); first | done | (with_reducible rfl)))
      | (refine wpAnyH_take (i := 17) (v := undef) rfl (by kernel_rfl) (by kernel_rfl) (by kernel_rfl) (fun _ _ _ h => h) (Or.inr ⟨by rfl, rfl⟩) (by assumption) ?_)
    (try simp only [Act.put, List.getElem_toArray, List.getElem_cons_zero, List.getElem_cons_succ, List.setIfInBounds_toArray, List.set_cons_zero, List.set_cons_succ])
    (try dsimp only at hHeld)
    go_split_ands
    refine wpAnyH_done (by kernel_rfl) ?_ _
    go_wp2_with fail
    refine (CoverColor_iV _ _ _ _ _ _ h1 (by omega) (by omega)).mono ?_
    rintro e w3 ⟨rfl, hb3⟩
    obtain ⟨hc3, hf3⟩ := bcell hb3
    have cA3_0 : w3.cell? ⟨w1.heap.size, 0, none⟩ = some (.int .i64 r) := (hc3 _ _ (by go_size)).trans (by first | (with_reducible assumption) | ((repeat (first | (with_reducible assumption) | (with_reducible refine cell_keepD ?_) | (with_reducible refine cell_keepA ?_ _))); done) | (go_cell; done))
    have cA3_1 : w3.cell? ⟨w1.heap.size, 1, none⟩ = some (.int .i64 g) := (hc3 _ _ (by go_size)).trans (by first | (with_reducible assumption) | ((repeat (first | (with_reducible assumption) | (with_reducible refine cell_keepD ?_) | (with_reducible refine cell_keepA ?_ _))); done) | (go_cell; done))
    have cA3_2 : w3.cell? ⟨w1.heap.size, 2, none⟩ = some (.int .i64 b) := (hc3 _ _ (by go_size)).trans (by first | (with_reducible assumption) | ((repeat (first | (with_reducible assumption) | (with_reducible refine cell_keepD ?_) | (with_reducible refine cell_keepA ?_ _))); done) | (go_cell; done))
    have cA3_3 : w3.cell? ⟨w1.heap.size, 3, none⟩ = some (.int .i64 a) := (hc3 _ _ (by go_size)).trans (by first | (with_reducible assumption) | ((repeat (first | (with_reducible assumption) | (with_reducible refine cell_keepD ?_) | (with_reducible refine cell_keepA ?_ _))); done) | (go_cell; done))
    have cC3_0 : w3.cell? ⟨w2.heap.size, 0, none⟩ = some (.int .i64 (cv r t)) := (hc3 _ _ (by go_size)).trans (by first | (with_reducible assumption) | ((repeat (first | (with_reducible assumption) | (with_reducible refine cell_keepD ?_) | (with_reducible refine cell_keepA ?_ _))); done) | (go_cell; done))
    have cC3_1 : w3.cell? ⟨w2.heap.size, 1, none⟩ = some (.int .i64 (cv g t)) := (hc3 _ _ (by go_size)).trans (by first | (with_reducible assumption) | ((repeat (first | (with_reducible assumption) | (with_reducible refine cell_keepD ?_) | (with_reducible refine cell_keepA ?_ _))); done) | (go_cell; done))
    have cC3_2 : w3.cell? ⟨w2.heap.size, 2, none⟩ = some (.int .i64 (cv b t)) := (hc3 _ _ (by go_size)).trans (by first | (with_reducible assumption) | ((repeat (first | (with_reducible assumption) | (with_reducible refine cell_keepD ?_) | (with_reducible refine cell_keepA ?_ _))); done) | (go_cell; done))
    have cC3_3 : w3.cell? ⟨w2.heap.size, 3, none⟩ = some (.int .i64 (cv a t)) := (hc3 _ _ (by go_size)).trans (by first | (with_reducible assumption) | ((repeat (first | (with_reducible assumption) | (with_reducible refine cell_keepD ?_) | (with_reducible refine cell_keepA ?_ _))); done) | (go_cell; done))
    have HB3 := Lib.hid (show Below w.heap.size w w3 from below_then (by have hhh := HB2.out; go_grown) hb3)
    have hs3 := hb3.size
    (try simp only [World.size_alloc, World.size_setCell, World.size_drew] at hs3)
    have yA3 : w1.heap.size < w3.heap.size := by omega
    have yC3 : w2.heap.size < w3.heap.size := by omega
    clear hb3 hc3 hf3
    go_wp2_with fail
    refine wp_region_held_drew (S := fun w' => w'.cell? ⟨w1.heap.size, 0, none⟩ = some (.int .i64 r) ∧ w'.cell? ⟨w1.heap.size, 1, none⟩ = some (.int .i64 g) ∧ w'.cell? ⟨w1.heap.size, 2, none⟩ = some (.int .i64 b) ∧ w'.cell? ⟨w1.heap.size, 3, none⟩ = some (.int .i64 a) ∧ w'.cell? ⟨w2.heap.size, 0, none⟩ = some (.int .i64 (cv r t)) ∧ w'.cell? ⟨w2.heap.size, 1, none⟩ = some (.int .i64 (cv g t)) ∧ w'.cell? ⟨w2.heap.size, 2, none⟩ = some (.int .i64 (cv b t)) ∧ w'.cell? ⟨w2.heap.size, 3, none⟩ = some (.int .i64 (cv a t)) ∧ w'.cell? ⟨w3.heap.size, 0, none⟩ = some (.int .i64 (cv r (t + 1))) ∧ w'.cell? ⟨w3.heap.size, 1, none⟩ = some (.int .i64 (cv g (t + 1))) ∧ w'.cell? ⟨w3.heap.size, 2, none⟩ = some (.int .i64 (cv b (t + 1))) ∧ w'.cell? ⟨w3.heap.size, 3, none⟩ = some (.int .i64 (cv a (t + 1)))) (by kernel_rfl) ?_ (fun hHeld => ?_)
    · (try dsimp only)
      first | (((repeat' apply And.intro) <;> (first | ((repeat (first | (with_reducible assumption) | (with_reducible refine cell_keepD ?_) | (with_reducible refine cell_keepA ?_ _) | (with_reducible refine cell_keepS ?_ _ (by simp only []; omega)) | (with_reducible refine (hc1 _ _ (by go_size)).trans ?_))); done) | (go_cell; done)))) | fail
    first
      | (refine wpAnyH_take (i := 0) (v := ?_) rfl (by kernel_rfl) (by kernel_rfl) (by kernel_rfl) (fun _ _ _ h => h) (Or.inl ⟨by rfl, ?_⟩) (by assumption) ?_; rotate_left; · ((intro w hSw; (try dsimp only at hSw); go_simp); first | done | (with_reducible rfl)))
      | (refine wpAnyH_take (i := 0) (v := undef) rfl (by kernel_rfl) (by kernel_rfl) (by kernel_rfl) (fun _ _ _ h => h) (Or.inr ⟨by rfl, rfl⟩) (by assumption) ?_)
    (try simp only [Act.put, List.getElem_toArray, List.getElem_cons_zero, List.getElem_cons_succ, List.setIfInBounds_toArray, List.set_cons_zero, List.set_cons_succ])
    first
      | (refine wpAnyH_take (i := 2) (v := ?_) rfl (by kernel_rfl) (by kernel_rfl) (by kernel_rfl) (fun _ _ _ h => h) (Or.inl ⟨by rfl, ?_⟩) (by assumption) ?_; rotate_left; · ((intro w hSw; (try dsimp only at hSw); go_simp); first | done | (with_reducible rfl)))
      | (refine wpAnyH_take (i := 2) (v := undef) rfl (by kernel_rfl) (by kernel_rfl) (by kernel_rfl) (fun _ _ _ h => h) (Or.inr ⟨by rfl, rfl⟩) (by assumption) ?_)
    (try simp only [Act.put, List.getElem_toArray, List.getElem_cons_zero, List.getElem_cons_succ, List.setIfInBounds_toArray, List.set_cons_zero, List.set_cons_succ])
    refine wpAnyH_ready (rs := [1]) (by kernel_rfl) (by simp) (AllReadyH.cons rfl (fun K hK => ?_) AllReadyH.nil)
    (try go_simp)
    first
      | (refine hK.out _ _ ?_ (fun hNew => ?_))
      | (((first | (go_at_call 17; refine (CoverColor_sV _ _ _ _ _ _ h1 (by omega) (by omega)).mono ?_; rintro e wz ⟨rfl, hbz⟩; obtain ⟨hc1, hf1⟩ := bcell hbz; have hz1 := hbz.size; (try simp only [World.size_alloc, World.size_setCell, World.size_drew] at hz1); have z0a : w1.heap.size < wz.heap.size := (by omega); have z0b : w1.heap.size < wz.heap.size + 1 := (by omega); have z0c : w1.heap.size < wz.heap.size + 1 + 1 := (by omega); have z0d : w1.heap.size < wz.heap.size + 1 + 1 + 1 := (by omega); have z1a : w2.heap.size < wz.heap.size := (by omega); have z1b : w2.heap.size < wz.heap.size + 1 := (by omega); have z1c : w2.heap.size < wz.heap.size + 1 + 1 := (by omega); have z1d : w2.heap.size < wz.heap.size + 1 + 1 + 1 := (by omega); have BZ : Below w.heap.size w wz := below_then (by first | (have hhh := HB3.out; go_grown; done) | (have hhh := HB2.out; go_grown; done) | fail) hbz) | (go_at_call 16; refine (ValidColor_i _ _ _ _ _).mono ?_; rintro e wz ⟨rfl, rfl⟩) | (go_at_call 18; refine (CoverColor_iV _ _ _ _ _ _ h1 (by omega) (by omega)).mono ?_; rintro e wz ⟨rfl, hbz⟩; obtain ⟨hc1, hf1⟩ := bcell hbz; have hz1 := hbz.size; (try simp only [World.size_alloc, World.size_setCell, World.size_drew] at hz1); have z0a : w1.heap.size < wz.heap.size := (by omega); have z0b : w1.heap.size < wz.heap.size + 1 := (by omega); have z0c : w1.heap.size < wz.heap.size + 1 + 1 := (by omega); have z0d : w1.heap.size < wz.heap.size + 1 + 1 + 1 := (by omega); have z1a : w2.heap.size < wz.heap.size := (by omega); have z1b : w2.heap.size < wz.heap.size + 1 := (by omega); have z1c : w2.heap.size < wz.heap.size + 1 + 1 := (by omega); have z1d : w2.heap.size < wz.heap.size + 1 + 1 + 1 := (by omega); have BZ : Below w.heap.size w wz := below_then (by first | (have hhh := HB3.out; go_grown; done) | (have hhh := HB2.out; go_grown; done) | fail) hbz))); (try go_wp2_with fail); (refine hK.out _ _ ?_ (fun hNew => ?_)))
      | fail
    · (try dsimp only)
      first | ((try go_split_ands); (((repeat' apply And.intro) <;> (first | ((repeat (first | (with_reducible assumption) | (with_reducible refine cell_keepD ?_) | (with_reducible refine cell_keepA ?_ _) | (with_reducible refine cell_keepS ?_ _ (by simp only []; omega)) | (with_reducible refine (hc1 _ _ (by go_size)).trans ?_))); done) | (go_cell; done))))) | fail
    clear hK K hHeld
    have hHeld := hNew
    clear hNew
    (try simp only [Act.put, List.getElem_toArray, List.getElem_cons_zero, List.getElem_cons_succ, List.setIfInBounds_toArray, List.set_cons_zero, List.set_cons_succ])
    first
      | (refine wpAnyH_take (i := 3) (v := ?_) rfl (by kernel_rfl) (by kernel_rfl) (by kernel_rfl) (fun _ _ _ h => h) (Or.inl ⟨by rfl, ?_⟩) (by assumption) ?_; rotate_left; · ((intro w hSw; (try dsimp only at hSw); go_simp); first | done | (with_reducible rfl)))
      | (refine wpAnyH_take (i := 3) (v := undef) rfl (by kernel_rfl) (by kernel_rfl) (by kernel_rfl) (fun _ _ _ h => h) (Or.inr ⟨by rfl, rfl⟩) (by assumption) ?_)
    (try simp only [Act.put, List.getElem_toArray, List.getElem_cons_zero, List.getElem_cons_succ, List.setIfInBounds_toArray, List.set_cons_zero, List.set_cons_succ])
    first
      | (refine wpAnyH_take (i := 4) (v := ?_) rfl (by kernel_rfl) (by kernel_rfl) (by kernel_rfl) (fun _ _ _ h => h) (Or.inl ⟨by rfl, ?_⟩) (by assumption) ?_; rotate_left; · ((intro w hSw; (try dsimp only at hSw); go_simp); first | done | (with_reducible rfl)))
      | (refine wpAnyH_take (i := 4) (v := undef) rfl (by kernel_rfl) (by kernel_rfl) (by kernel_rfl) (fun _ _ _ h => h) (Or.inr ⟨by rfl, rfl⟩) (by assumption) ?_)
    (try simp only [Act.put, List.getElem_toArray, List.getElem_cons_zero, List.getElem_cons_succ, List.setIfInBounds_toArray, List.set_cons_zero, List.set_cons_succ])
    first
      | (refine wpAnyH_take (i := 5) (v := ?_) rfl (by kernel_rfl) (by kernel_rfl) (by kernel_rfl) (fun _ _ _ h => h) (Or.inl ⟨by rfl, ?_⟩) (by assumption) ?_; rotate_left; · ((intro w hSw; (try dsimp only at hSw); go_simp); first | done | (with_reducible rfl)))
      | (refine wpAnyH_take (i := 5) (v := undef) rfl (by kernel_rfl) (by kernel_rfl) (by kernel_rfl) (fun _ _ _ h => h) (Or.inr ⟨by rfl, rfl⟩) (by assumption) ?_)
    (try simp only [Act.put, List.getElem_toArray, List.getElem_cons_zero, List.getElem_cons_succ, List.setIfInBounds_toArray, List.set_cons_zero, List.set_cons_succ])
    first
      | (refine wpAnyH_take (i := 7) (v := ?_) rfl (by kernel_rfl) (by kernel_rfl) (by kernel_rfl) (fun _ _ _ h => h) (Or.inl ⟨by rfl, ?_⟩) (by assumption) ?_; rotate_left; · ((intro w hSw; (try dsimp only at hSw); go_simp); first | done | (with_reducible rfl)))
      | (refine wpAnyH_take (i := 7) (v := undef) rfl (by kernel_rfl) (by kernel_rfl) (by kernel_rfl) (fun _ _ _ h => h) (Or.inr ⟨by rfl, rfl⟩) (by assumption) ?_)
    (try simp only [Act.put, List.getElem_toArray, List.getElem_cons_zero, List.getElem_cons_succ, List.setIfInBounds_toArray, List.set_cons_zero, List.set_cons_succ])
    refine wpAnyH_ready (rs := [6]) (by kernel_rfl) (by simp) (AllReadyH.cons rfl (fun K hK => ?_) AllReadyH.nil)
    (try go_simp)
    first
      | (refine hK.out _ _ ?_ (fun hNew => ?_))
      | (((first | (go_at_call 17; refine (CoverColor_sV _ _ _ _ _ _ h1 (by omega) (by omega)).mono ?_; rintro e wz ⟨rfl, hbz⟩; obtain ⟨hc1, hf1⟩ := bcell hbz; have hz1 := hbz.size; (try simp only [World.size_alloc, World.size_setCell, World.size_drew] at hz1); have z0a : w1.heap.size < wz.heap.size := (by omega); have z0b : w1.heap.size < wz.heap.size + 1 := (by omega); have z0c : w1.heap.size < wz.heap.size + 1 + 1 := (by omega); have z0d : w1.heap.size < wz.heap.size + 1 + 1 + 1 := (by omega); have z1a : w2.heap.size < wz.heap.size := (by omega); have z1b : w2.heap.size < wz.heap.size + 1 := (by omega); have z1c : w2.heap.size < wz.heap.size + 1 + 1 := (by omega); have z1d : w2.heap.size < wz.heap.size + 1 + 1 + 1 := (by omega); have BZ : Below w.heap.size w wz := below_then (by first | (have hhh := HB3.out; go_grown; done) | (have hhh := HB2.out; go_grown; done) | fail) hbz) | (go_at_call 16; refine (ValidColor_i _ _ _ _ _).mono ?_; rintro e wz ⟨rfl, rfl⟩) | (go_at_call 18; refine (CoverColor_iV _ _ _ _ _ _ h1 (by omega) (by omega)).mono ?_; rintro e wz ⟨rfl, hbz⟩; obtain ⟨hc1, hf1⟩ := bcell hbz; have hz1 := hbz.size; (try simp only [World.size_alloc, World.size_setCell, World.size_drew] at hz1); have z0a : w1.heap.size < wz.heap.size := (by omega); have z0b : w1.heap.size < wz.heap.size + 1 := (by omega); have z0c : w1.heap.size < wz.heap.size + 1 + 1 := (by omega); have z0d : w1.heap.size < wz.heap.size + 1 + 1 + 1 := (by omega); have z1a : w2.heap.size < wz.heap.size := (by omega); have z1b : w2.heap.size < wz.heap.size + 1 := (by omega); have z1c : w2.heap.size < wz.heap.size + 1 + 1 := (by omega); have z1d : w2.heap.size < wz.heap.size + 1 + 1 + 1 := (by omega); have BZ : Below w.heap.size w wz := below_then (by first | (have hhh := HB3.out; go_grown; done) | (have hhh := HB2.out; go_grown; done) | fail) hbz))); (try go_wp2_with fail); (refine hK.out _ _ ?_ (fun hNew => ?_)))
      | fail
    · (try dsimp only)
      first | ((try go_split_ands); (((repeat' apply And.intro) <;> (first | ((repeat (first | (with_reducible assumption) | (with_reducible refine cell_keepD ?_) | (with_reducible refine cell_keepA ?_ _) | (with_reducible refine cell_keepS ?_ _ (by simp only []; omega)) | (with_reducible refine (hc1 _ _ (by go_size)).trans ?_))); done) | (go_cell; done))))) | fail
    clear hK K hHeld
    have hHeld := hNew
    clear hNew
    (try simp only [Act.put, List.getElem_toArray, List.getElem_cons_zero, List.getElem_cons_succ, List.setIfInBounds_toArray, List.set_cons_zero, List.set_cons_succ])
    first
      | (refine wpAnyH_take (i := 8) (v := ?_) rfl (by kernel_rfl) (by kernel_rfl) (by kernel_rfl) (fun _ _ _ h => h) (Or.inl ⟨by rfl, ?_⟩) (by assumption) ?_; rotate_left; · ((intro w hSw; (try dsimp only at hSw); go_simp); first | done | (with_reducible rfl)))
      | (refine wpAnyH_take (i := 8) (v := undef) rfl (by kernel_rfl) (by kernel_rfl) (by kernel_rfl) (fun _ _ _ h => h) (Or.inr ⟨by rfl, rfl⟩) (by assumption) ?_)
    (try simp only [Act.put, List.getElem_toArray, List.getElem_cons_zero, List.getElem_cons_succ, List.setIfInBounds_toArray, List.set_cons_zero, List.set_cons_succ])
    first
      | (refine wpAnyH_take (i := 9) (v := ?_) rfl (by kernel_rfl) (by kernel_rfl) (by kernel_rfl) (fun _ _ _ h => h) (Or.inl ⟨by rfl, ?_⟩) (by assumption) ?_; rotate_left; · ((intro w hSw; (try dsimp only at hSw); go_simp); first | done | (with_reducible rfl)))
      | (refine wpAnyH_take (i := 9) (v := undef) rfl (by kernel_rfl) (by kernel_rfl) (by kernel_rfl) (fun _ _ _ h => h) (Or.inr ⟨by rfl, rfl⟩) (by assumption) ?_)
    (try simp only [Act.put, List.getElem_toArray, List.getElem_cons_zero, List.getElem_cons_succ, List.setIfInBounds_toArray, List.set_cons_zero, List.set_cons_succ])
    first
      | (refine wpAnyH_take (i := 10) (v := ?_) rfl (by kernel_rfl) (by kernel_rfl) (by kernel_rfl) (fun _ _ _ h => h) (Or.inl ⟨by rfl, ?_⟩) (by assumption) ?_; rotate_left; · ((intro w hSw; (try dsimp only at hSw); go_simp); first | done | (with_reducible rfl)))
      | (refine wpAnyH_take (i := 10) (v := undef) rfl (by kernel_rfl) (by kernel_rfl) (by kernel_rfl) (fun _ _ _ h => h) (Or.inr ⟨by rfl, rfl⟩) (by assumption) ?_)
    (try simp only [Act.put, List.getElem_toArray, List.getElem_cons_zero, List.getElem_cons_succ, List.setIfInBounds_toArray, List.set_cons_zero, List.set_cons_succ])
    first
      | (refine wpAnyH_take (i := 11) (v := ?_) rfl (by kernel_rfl) (by kernel_rfl) (by kernel_rfl) (fun _ _ _ h => h) (Or.inl ⟨by rfl, ?_⟩) (by assumption) ?_; rotate_left; · ((intro w hSw; (try dsimp only at hSw); go_simp); first | done | (with_reducible rfl)))
      | (refine wpAnyH_take (i := 11) (v := undef) rfl (by kernel_rfl) (by kernel_rfl) (by kernel_rfl) (fun _ _ _ h => h) (Or.inr ⟨by rfl, rfl⟩) (by assumption) ?_)
    (try simp only [Act.put, List.getElem_toArray, List.getElem_cons_zero, List.getElem_cons_succ, List.setIfInBounds_toArray, List.set_cons_zero, List.set_cons_succ])
    refine wpAnyH_ready (rs := [12]) (by kernel_rfl) (by simp) (AllReadyH.cons rfl (fun K hK => ?_) AllReadyH.nil)
    (try go_simp)
    first
      | (refine hK.out _ _ ?_ (fun hNew => ?_))
      | (((first | (go_at_call 17; refine (CoverColor_sV _ _ _ _ _ _ h1 (by omega) (by omega)).mono ?_; rintro e wz ⟨rfl, hbz⟩; obtain ⟨hc1, hf1⟩ := bcell hbz; have hz1 := hbz.size; (try simp only [World.size_alloc, World.size_setCell, World.size_drew] at hz1); have z0a : w1.heap.size < wz.heap.size := (by omega); have z0b : w1.heap.size < wz.heap.size + 1 := (by omega); have z0c : w1.heap.size < wz.heap.size + 1 + 1 := (by omega); have z0d : w1.heap.size < wz.heap.size + 1 + 1 + 1 := (by omega); have z1a : w2.heap.size < wz.heap.size := (by omega); have z1b : w2.heap.size < wz.heap.size + 1 := (by omega); have z1c : w2.heap.size < wz.heap.size + 1 + 1 := (by omega); have z1d : w2.heap.size < wz.heap.size + 1 + 1 + 1 := (by omega); have BZ : Below w.heap.size w wz := below_then (by first | (have hhh := HB3.out; go_grown; done) | (have hhh := HB2.out; go_grown; done) | fail) hbz) | (go_at_call 16; refine (ValidColor_i _ _ _ _ _).mono ?_; rintro e wz ⟨rfl, rfl⟩) | (go_at_call 18; refine (CoverColor_iV _ _ _ _ _ _ h1 (by omega) (by omega)).mono ?_; rintro e wz ⟨rfl, hbz⟩; obtain ⟨hc1, hf1⟩ := bcell hbz; have hz1 := hbz.size; (try simp only [World.size_alloc, World.size_setCell, World.size_drew] at hz1); have z0a : w1.heap.size < wz.heap.size := (by omega); have z0b : w1.heap.size < wz.heap.size + 1 := (by omega); have z0c : w1.heap.size < wz.heap.size + 1 + 1 := (by omega); have z0d : w1.heap.size < wz.heap.size + 1 + 1 + 1 := (by omega); have z1a : w2.heap.size < wz.heap.size := (by omega); have z1b : w2.heap.size < wz.heap.size + 1 := (by omega); have z1c : w2.heap.size < wz.heap.size + 1 + 1 := (by omega); have z1d : w2.heap.size < wz.heap.size + 1 + 1 + 1 := (by omega); have BZ : Below w.heap.size w wz := below_then (by first | (have hhh := HB3.out; go_grown; done) | (have hhh := HB2.out; go_grown; done) | fail) hbz))); (try go_wp2_with fail); (refine hK.out _ _ ?_ (fun hNew => ?_)))
      | fail
    · (try dsimp only)
      first | ((try go_split_ands); (((repeat' apply And.intro) <;> (first | ((repeat (first | (with_reducible assumption) | (with_reducible refine cell_keepD ?_) | (with_reducible refine cell_keepA ?_ _) | (with_reducible refine cell_keepS ?_ _ (by simp only []; omega)) | (with_reducible refine (hc1 _ _ (by go_size)).trans ?_))); done) | (go_cell; done))))) | fail
    clear hK K hHeld
    have hHeld := hNew
    clear hNew
    (try simp only [Act.put, List.getElem_toArray, List.getElem_cons_zero, List.getElem_cons_succ, List.setIfInBounds_toArray, List.set_cons_zero, List.set_cons_succ])
    first
      | (refine wpAnyH_take (i := 13) (v := ?_) rfl (by kernel_rfl) (by kernel_rfl) (by kernel_rfl) (fun _ _ _ h => h) (Or.inl ⟨by rfl, ?_⟩) (by assumption) ?_; rotate_left; · ((intro w hSw; (try dsimp only at hSw); go_simp); first | done | (with_reducible rfl)))
      | (refine wpAnyH_take (i := 13) (v := undef) rfl (by kernel_rfl) (by kernel_rfl) (by kernel_rfl) (fun _ _ _ h => h) (Or.inr ⟨by rfl, rfl⟩) (by assumption) ?_)
    (try simp only [Act.put, List.getElem_toArray, List.getElem_cons_zero, List.getElem_cons_succ, List.setIfInBounds_toArray, List.set_cons_zero, List.set_cons_succ])
    first
      | (refine wpAnyH_take (i := 14) (v := ?_) rfl (by kernel_rfl) (by kernel_rfl) (by kernel_rfl) (fun _ _ _ h => h) (Or.inl ⟨by rfl, ?_⟩) (by assumption) ?_; rotate_left; · ((intro w hSw; (try dsimp only at hSw); go_simp); first | done | (with_reducible rfl)))
      | (refine wpAnyH_take (i := 14) (v := undef) rfl (by kernel_rfl) (by kernel_rfl) (by kernel_rfl) (fun _ _ _ h => h) (Or.inr ⟨by rfl, rfl⟩) (by assumption) ?_)
    (try simp only [Act.put, List.getElem_toArray, List.getElem_cons_zero, List.getElem_cons_succ, List.setIfInBounds_toArray, List.set_cons_zero, List.set_cons_succ])
    first
      | (refine wpAnyH_take (i := 15) (v := ?_) rfl (by kernel_rfl) (by kernel_rfl) (by kernel_rfl) (fun _ _ _ h => h) (Or.inl ⟨by rfl, ?_⟩) (by assumption) ?_; rotate_left; · ((intro w hSw; (try dsimp only at hSw); go_simp); first | done | (with_reducible rfl)))
      | (refine wpAnyH_take (i := 15) (v := undef) rfl (by kernel_rfl) (by kernel_rfl) (by kernel_rfl) (fun _ _ _ h => h) (Or.inr ⟨by rfl, rfl⟩) (by assumption) ?_)
    (try simp only [Act.put, List.getElem_toArray, List.getElem_cons_zero, List.getElem_cons_succ, List.setIfInBounds_toArray, List.set_cons_zero, List.set_cons_succ])
    first
      | (refine wpAnyH_take (i := 16) (v := ?_) rfl (by kernel_rfl) (by kernel_rfl) (by kernel_rfl) (fun _ _ _ h => h) (Or.inl ⟨by rfl, ?_⟩) (by assumption) ?_; rotate_left; · ((intro w hSw; (try dsimp only at hSw); go_simp); first | done | (with_reducible rfl)))
      | (refine wpAnyH_take (i := 16) (v := undef) rfl (by kernel_rfl) (by kernel_rfl) (by kernel_rfl) (fun _ _ _ h => h) (Or.inr ⟨by rfl, rfl⟩) (by assumption) ?_)
    (try simp only [Act.put, List.getElem_toArray, List.getElem_cons_zero, List.getElem_cons_succ, List.setIfInBounds_toArray, List.set_cons_zero, List.set_cons_succ])
    first
      | (refine wpAnyH_take (i := 17) (v := ?_) rfl (by kernel_rfl) (by kernel_rfl) (by kernel_rfl) (fun _ _ _ h => h) (Or.inl ⟨by rfl, ?_⟩) (by assumption) ?_; rotate_left; · ((intro w hSw; (try dsimp only at hSw); go_simp); first | done | (with_reducible rfl)))
      | (refine wpAnyH_take (i := 17) (v := undef) rfl (by kernel_rfl) (by kernel_rfl) (by kernel_rfl) (fun _ _ _ h => h) (Or.inr ⟨by rfl, rfl⟩) (by assumption) ?_)
    (try simp only [Act.put, List.getElem_toArray, List.getElem_cons_zero, List.getElem_cons_succ, List.setIfInBounds_toArray, List.set_cons_zero, List.set_cons_succ])
    first
      | (refine wpAnyH_take (i := 18) (v := ?_) rfl (by kernel_rfl) (by kernel_rfl) (by kernel_rfl) (fun _ _ _ h => h) (Or.inl ⟨by rfl, ?_⟩) (by assumption) ?_; rotate_left; · ((intro w hSw; (try dsimp only at hSw); go_simp); first | done | (with_reducible rfl)))
      | (refine wpAnyH_take (i := 18) (v := undef) rfl (by kernel_rfl) (by kernel_rfl) (by kernel_rfl) (fun _ _ _ h => h) (Or.inr ⟨by rfl, rfl⟩) (by assumption) ?_)
    (try simp only [Act.put, List.getElem_toArray, List.getElem_cons_zero, List.getElem_cons_succ, List.setIfInBounds_toArray, List.set_cons_zero, List.set_cons_succ])
    first
      | (refine wpAnyH_take (i := 19) (v := ?_) rfl (by kernel_rfl) (by kernel_rfl) (by kernel_rfl) (fun _ _ _ h => h) (Or.inl ⟨by rfl, ?_⟩) (by assumption) ?_; rotate_left; · ((intro w hSw; (try dsimp only at hSw); go_simp); first | done | (with_reducible rfl)))
      | (refine wpAnyH_take (i := 19) (v := undef) rfl (by kernel_rfl) (by kernel_rfl) (by kernel_rfl) (fun _ _ _ h => h) (Or.inr ⟨by rfl, rfl⟩) (by assumption) ?_)
    (try simp only [Act.put, List.getElem_toArray, List.getElem_cons_zero, List.getElem_cons_succ, List.setIfInBounds_toArray, List.set_cons_zero, List.set_cons_succ])
    first
      | (refine wpAnyH_take (i := 20) (v := ?_) rfl (by kernel_rfl) (by kernel_rfl) (by kernel_rfl) (fun _ _ _ h => h) (Or.inl ⟨by rfl, ?_⟩) (by assumption) ?_; rotate_left; · ((intro w hSw; (try dsimp only at hSw); go_simp); first | done | (with_reducible rfl)))
      | (refine wpAnyH_take (i := 20) (v := undef) rfl (by kernel_rfl) (by kernel_rfl) (by kernel_rfl) (fun _ _ _ h => h) (Or.inr ⟨by rfl, rfl⟩) (by assumption) ?_)
    (try simp only [Act.put, List.getElem_toArray, List.getElem_cons_zero, List.getElem_cons_succ, List.setIfInBounds_toArray, List.set_cons_zero, List.set_cons_succ])
    first
      | (refine wpAnyH_take (i := 21) (v := ?_) rfl (by kernel_rfl) (by kernel_rfl) (by kernel_rfl) (fun _ _ _ h => h) (Or.inl ⟨by rfl, ?_⟩) (by assumption) ?_; rotate_left; · ((intro w hSw; (try dsimp only at hSw); go_simp); first | done | (with_reducible rfl)))
      | (refine wpAnyH_take (i := 21) (v := undef) rfl (by kernel_rfl) (by kernel_rfl) (by kernel_rfl) (fun _ _ _ h => h) (Or.inr ⟨by rfl, rfl⟩) (by assumption) ?_)
    (try simp only [Act.put, List.getElem_toArray, List.getElem_cons_zero, List.getElem_cons_succ, List.setIfInBounds_toArray, List.set_cons_zero, List.set_cons_succ])
    first
      | (refine wpAnyH_take (i := 22) (v := ?_) rfl (by kernel_rfl) (by kernel_rfl) (by kernel_rfl) (fun _ _ _ h => h) (Or.inl ⟨by rfl, ?_⟩) (by assumption) ?_; rotate_left; · ((intro w hSw; (try dsimp only at hSw); go_simp); first | done | (with_reducible rfl)))
      | (refine wpAnyH_take (i := 22) (v := undef) rfl (by kernel_rfl) (by kernel_rfl) (by kernel_rfl) (fun _ _ _ h => h) (Or.inr ⟨by rfl, rfl⟩) (by assumption) ?_)
    (try simp only [Act.put, List.getElem_toArray, List.getElem_cons_zero, List.getElem_cons_succ, List.setIfInBounds_toArray, List.set_cons_zero, List.set_cons_succ])
    first
      | (refine wpAnyH_take (i := 23) (v := ?_) rfl (by kernel_rfl) (by kernel_rfl) (by kernel_rfl) (fun _ _ _ h => h) (Or.inl ⟨by rfl, ?_⟩) (by assumption) ?_; rotate_left; · ((intro w hSw; (try dsimp only at hSw); go_simp); first | done | (with_reducible rfl)))
      | (refine wpAnyH_take (i := 23) (v := undef) rfl (by kernel_rfl) (by kernel_rfl) (by kernel_rfl) (fun _ _ _ h => h) (Or.inr ⟨by rfl, rfl⟩) (by assumption) ?_)
    (try simp only [Act.put, List.getElem_toArray, List.getElem_cons_zero, List.getElem_cons_succ, List.setIfInBounds_toArray, List.set_cons_zero, List.set_cons_succ])
    first
      | (refine wpAnyH_take (i := 24) (v := ?_) rfl (by kernel_rfl) (by kernel_rfl) (by kernel_rfl) (fun _ _ _ h => h) (Or.inl ⟨by rfl, ?_⟩) (by assumption) ?_; rotate_left; · ((intro w hSw; (try dsimp only at hSw); go_simp); first | done | (with_reducible rfl)))
      | (refine wpAnyH_take (i := 24) (v := undef) rfl (by kernel_rfl) (by kernel_rfl) (by kernel_rfl) (fun _ _ _ h => h) (Or.inr ⟨by rfl, rfl⟩) (by assumption) ?_)
    (try simp only [Act.put, List.getElem_toArray, List.getElem_cons_zero, List.getElem_cons_succ, List.setIfInBounds_toArray, List.set_cons_zero, List.set_cons_succ])
    first
      | (refine wpAnyH_take (i := 25) (v := ?_) rfl (by kernel_rfl) (by kernel_rfl) (by kernel_rfl) (fun _ _ _ h => h) (Or.inl ⟨by rfl, ?_⟩) (by assumption) ?_; rotate_left; · ((intro w hSw; (try dsimp only at hSw); go_simp); first | done | (with_reducible rfl)))
      | (refine wpAnyH_take (i := 25) (v := undef) rfl (by kernel_rfl) (by kernel_rfl) (by kernel_rfl) (fun _ _ _ h => h) (Or.inr ⟨by rfl, rfl⟩) (by assumption) ?_)
    (try simp only [Act.put, List.getElem_toArray, List.getElem_cons_zero, List.getElem_cons_succ, List.setIfInBounds_toArray, List.set_cons_zero, List.set_cons_succ])
    first
      | (refine wpAnyH_take (i := 26) (v := ?_) rfl (by kernel_rfl) (by kernel_rfl) (by kernel_rfl) (fun _ _ _ h => h) (Or.inl ⟨by rfl, ?_⟩) (by assumption) ?_; rotate_left; · ((intro w hSw; (try dsimp only at hSw); go_simp); first | done | (with_reducible rfl)))
      | (refine wpAnyH_take (i := 26) (v := undef) rfl (by kernel_rfl) (by kernel_rfl) (by kernel_rfl) (fun _ _ _ h => h) (Or.inr ⟨by rfl, rfl⟩) (by assumption) ?_)
    (try simp only [Act.put, List.getElem_toArray, List.getElem_cons_zero, List.getElem_cons_succ, List.setIfInBounds_toArray, List.set_cons_zero, List.set_cons_succ])
    first
      | (refine wpAnyH_take (i := 27) (v := ?_) rfl (by kernel_rfl) (by kernel_rfl) (by kernel_rfl) (fun _ _ _ h => h) (Or.inl ⟨by rfl, ?_⟩) (by assumption) ?_; rotate_left; · ((intro w hSw; (try dsimp only at hSw); go_simp); first | done | (with_reducible rfl)))
      | (refine wpAnyH_take (i := 27) (v := undef) rfl (by kernel_rfl) (by kernel_rfl) (by kernel_rfl) (fun _ _ _ h => h) (Or.inr ⟨by rfl, rfl⟩) (by assumption) ?_)
    (try simp only [Act.put, List.getElem_toArray, List.getElem_cons_zero, List.getElem_cons_succ, List.setIfInBounds_toArray, List.set_cons_zero, List.set_cons_succ])
    first
      | (refine wpAnyH_take (i := 28) (v := ?_) rfl (by kernel_rfl) (by kernel_rfl) (by kernel_rfl) (fun _ _ _ h => h) (Or.inl ⟨by rfl, ?_⟩) (by assumption) ?_; rotate_left; · ((intro w hSw; (try dsimp only at hSw); go_simp); first | done | (with_reducible rfl)))
      | (refine wpAnyH_take (i := 28) (v := undef) rfl (by kernel_rfl) (by kernel_rfl) (by kernel_rfl) (fun _ _ _ h => h) (Or.inr ⟨by rfl, rfl⟩) (by assumption) ?_)
    (try simp only [Act.put, List.getElem_toArray, List.getElem_cons_zero, List.getElem_cons_succ, List.setIfInBounds_toArray, List.set_cons_zero, List.set_cons_succ])
    (try dsimp only at hHeld)
    go_split_ands
    refine wpAnyH_done (by kernel_rfl) ?_ _
    go_wp2_with (first | (go_at_call 16; refine (ValidColor_i _ _ _ _ _).mono ?_; rintro e wz ⟨rfl, rfl⟩) | fail)
    all_goals
      go_ret
      exact ⟨ret_b (by first | rfl | (simp; done) | (simp [*]; done) | (simp; omega)), by have hhh := HB3.out; go_grown⟩
  obtain rfl : t = 16 := by omega
  have ezr := cv_zero r
  have efr := cv_full r
  have ezg := cv_zero g
  have efg := cv_full g
  have ezb := cv_zero b
  have efb := cv_full b
  have eza := cv_zero a
  have efa := cv_full a
  go_wp2_with fail
  refine (CoverColor_iV _ _ _ _ _ _ h1 (by omega) (by omega)).mono ?_
  rintro e w2 ⟨rfl, hb2⟩
  have A2 := Lib.hid (show Row w2 (w1.heap.size) 25 4 (col r g b a) from Row.below (row_col1 _ _ _ _ _ _ _ (by go_size)) hb2 (by go_size))
  have HB2 := Lib.hid (show Below w.heap.size w w2 from below_then (by have hhh := HB1.out; go_grown) hb2)
  have hs2 := hb2.size
  (try simp only [World.size_alloc, World.size_setCell, World.size_drew] at hs2)
  clear hb2
  obtain ⟨⟨cA2_0, cA2_1, cA2_2, cA2_3⟩, fA2_0, fA2_1, fA2_2, fA2_3⟩ := col_cells A2.out
  go_wp2_with fail
  refine wp_region_held_drew (S := fun w' => w'.cell? ⟨w1.heap.size, 0, none⟩ = some (.int .i64 r) ∧ w'.cell? ⟨w1.heap.size, 1, none⟩ = some (.int .i64 g) ∧ w'.cell? ⟨w1.heap.size, 2, none⟩ = some (.int .i64 b) ∧ w'.cell? ⟨w1.heap.size, 3, none⟩ = some (.int .i64 a) ∧ w'.cell? ⟨w2.heap.size, 0, none⟩ = some (.int .i64 (cv r 16)) ∧ w'.cell? ⟨w2.heap.size, 1, none⟩ = some (.int .i64 (cv g 16)) ∧ w'.cell? ⟨w2.heap.size, 2, none⟩ = some (.int .i64 (cv b 16)) ∧ w'.cell? ⟨w2.heap.size, 3, none⟩ = some (.int .i64 (cv a 16))) (by kernel_rfl) ?_ (fun hHeld => ?_)
  · (try dsimp only)
    first | (((repeat' apply And.intro) <;> (first | ((repeat (first | (with_reducible assumption) | (with_reducible refine cell_keepD ?_) | (with_reducible refine cell_keepA ?_ _) | (with_reducible refine cell_keepS ?_ _ (by simp only []; omega)) | (with_reducible refine (hc1 _ _ (by go_size)).trans ?_))); done) | (go_cell; done)))) | fail
  first
    | (refine wpAnyH_take (i := 0) (v := ?_) rfl (by kernel_rfl) (by kernel_rfl) (by kernel_rfl) (fun _ _ _ h => h) (Or.inl ⟨by rfl, ?_⟩) (by assumption) ?_; rotate_left; · ((intro w hSw; (try dsimp only at hSw); go_simp); first | done | (with_reducible rfl)))
    | (refine wpAnyH_take (i := 0) (v := undef) rfl (by kernel_rfl) (by kernel_rfl) (by kernel_rfl) (fun _ _ _ h => h) (Or.inr ⟨by rfl, rfl⟩) (by assumption) ?_)
  (try simp only [Act.put, List.getElem_toArray, List.getElem_cons_zero, List.getElem_cons_succ, List.setIfInBounds_toArray, List.set_cons_zero, List.set_cons_succ])
  first
    | (refine wpAnyH_take (i := 1) (v := ?_) rfl (by kernel_rfl) (by kernel_rfl) (by kernel_rfl) (fun _ _ _ h => h) (Or.inl ⟨by rfl, ?_⟩) (by assumption) ?_; rotate_left; · ((intro w hSw; (try dsimp only at hSw); go_simp); first | done | (with_reducible rfl)))
    | (refine wpAnyH_take (i := 1) (v := undef) rfl (by kernel_rfl) (by kernel_rfl) (by kernel_rfl) (fun _ _ _ h => h) (Or.inr ⟨by rfl, rfl⟩) (by assumption) ?_)
  (try simp only [Act.put, List.getElem_toArray, List.getElem_cons_zero, List.getElem_cons_succ, List.setIfInBounds_toArray, List.set_cons_zero, List.set_cons_succ])
  first
    | (refine wpAnyH_take (i := 2) (v := ?_) rfl (by kernel_rfl) (by kernel_rfl) (by kernel_rfl) (fun _ _ _ h => h) (Or.inl ⟨by rfl, ?_⟩) (by assumption) ?_; rotate_left; · ((intro w hSw; (try dsimp only at hSw); go_simp); first | done | (with_reducible rfl)))
    | (refine wpAnyH_take (i := 2) (v := undef) rfl (by kernel_rfl) (by kernel_rfl) (by kernel_rfl) (fun _ _ _ h => h) (Or.inr ⟨by rfl, rfl⟩) (by assumption) ?_)
  (try simp only [Act.put, List.getElem_toArray, List.getElem_cons_zero, List.getElem_cons_succ, List.setIfInBounds_toArray, List.set_cons_zero, List.set_cons_succ])
  refine wpAnyH_ready (rs := [3]) (by kernel_rfl) (by simp) (AllReadyH.cons rfl (fun K hK => ?_) AllReadyH.nil)
  (try go_simp)
  first
    | (refine hK.out _ _ ?_ (fun hNew => ?_))
    | (((first | (go_at_call 17; refine (CoverColor_sV _ _ _ _ _ _ h1 (by omega) (by omega)).mono ?_; rintro e wz ⟨rfl, hbz⟩; obtain ⟨hc1, hf1⟩ := bcell hbz; have hz1 := hbz.size; (try simp only [World.size_alloc, World.size_setCell, World.size_drew] at hz1); have z0a : w1.heap.size < wz.heap.size := (by omega); have z0b : w1.heap.size < wz.heap.size + 1 := (by omega); have z0c : w1.heap.size < wz.heap.size + 1 + 1 := (by omega); have z0d : w1.heap.size < wz.heap.size + 1 + 1 + 1 := (by omega); have z1a : w2.heap.size < wz.heap.size := (by omega); have z1b : w2.heap.size < wz.heap.size + 1 := (by omega); have z1c : w2.heap.size < wz.heap.size + 1 + 1 := (by omega); have z1d : w2.heap.size < wz.heap.size + 1 + 1 + 1 := (by omega); have BZ : Below w.heap.size w wz := below_then (by first | (have hhh := HB3.out; go_grown; done) | (have hhh := HB2.out; go_grown; done) | fail) hbz) | (go_at_call 16; refine (ValidColor_i _ _ _ _ _).mono ?_; rintro e wz ⟨rfl, rfl⟩) | (go_at_call 18; refine (CoverColor_iV _ _ _ _ _ _ h1 (by omega) (by omega)).mono ?_; rintro e wz ⟨rfl, hbz⟩; obtain ⟨hc1, hf1⟩ := bcell hbz; have hz1 := hbz.size; (try simp only [World.size_alloc, World.size_setCell, World.size_drew] at hz1); have z0a : w1.heap.size < wz.heap.size := (by omega); have z0b : w1.heap.size < wz.heap.size + 1 := (by omega); have z0c : w1.heap.size < wz.heap.size + 1 + 1 := (by omega); have z0d : w1.heap.size < wz.heap.size + 1 + 1 + 1 := (by omega); have z1a : w2.heap.size < wz.heap.size := (by omega); have z1b : w2.heap.size < wz.heap.size + 1 := (by omega); have z1c : w2.heap.size < wz.heap.size + 1 + 1 := (by omega); have z1d : w2.heap.size < wz.heap.size + 1 + 1 + 1 := (by omega); have BZ : Below w.heap.size w wz := below_then (by first | (have hhh := HB3.out; go_grown; done) | (have hhh := HB2.out; go_grown; done) | fail) hbz))); (try go_wp2_with fail); (refine hK.out _ _ ?_ (fun hNew => ?_)))
    | fail
  · (try dsimp only)
    first | ((try go_split_ands); (((repeat' apply And.intro) <;> (first | ((repeat (first | (with_reducible assumption) | (with_reducible refine cell_keepD ?_) | (with_reducible refine cell_keepA ?_ _) | (with_reducible refine cell_keepS ?_ _ (by simp only []; omega)) | (with_reducible refine (hc1 _ _ (by go_size)).trans ?_))); done) | (go_cell; done))))) | fail
  clear hK K hHeld
  have hHeld := hNew
  clear hNew
  (try simp only [Act.put, List.getElem_toArray, List.getElem_cons_zero, List.getElem_cons_succ, List.setIfInBounds_toArray, List.set_cons_zero, List.set_cons_succ])
  first
    | (refine wpAnyH_take (i := 4) (v := ?_) rfl (by kernel_rfl) (by kernel_rfl) (by kernel_rfl) (fun _ _ _ h => h) (Or.inl ⟨by rfl, ?_⟩) (by assumption) ?_; rotate_left; · ((intro w hSw; (try dsimp only at hSw); go_simp); first | done | (with_reducible rfl)))
    | (refine wpAnyH_take (i := 4) (v := undef) rfl (by kernel_rfl) (by kernel_rfl) (by kernel_rfl) (fun _ _ _ h => h) (Or.inr ⟨by rfl, rfl⟩) (by assumption) ?_)
  (try simp only [Act.put, List.getElem_toArray, List.getElem_cons_zero, List.getElem_cons_succ, List.setIfInBounds_toArray, List.set_cons_zero, List.set_cons_succ])
  first
    | (refine wpAnyH_take (i := 5) (v := ?_) rfl (by kernel_rfl) (by kernel_rfl) (by kernel_rfl) (fun _ _ _ h => h) (Or.inl ⟨by rfl, ?_⟩) (by assumption) ?_; rotate_left; · ((intro w hSw; (try dsimp only at hSw); go_simp); first | done | (with_reducible rfl)))
    | (refine wpAnyH_take (i := 5) (v := undef) rfl (by kernel_rfl) (by kernel_rfl) (by kernel_rfl) (fun _ _ _ h => h) (Or.inr ⟨by rfl, rfl⟩) (by assumption) ?_)
  (try simp only [Act.put, List.getElem_toArray, List.getElem_cons_zero, List.getElem_cons_succ, List.setIfInBounds_toArray, List.set_cons_zero, List.set_cons_succ])
  first
    | (refine wpAnyH_take (i := 6) (v := ?_) rfl (by kernel_rfl) (by kernel_rfl) (by kernel_rfl) (fun _ _ _ h => h) (Or.inl ⟨by rfl, ?_⟩) (by assumption) ?_; rotate_left; · ((intro w hSw; (try dsimp only at hSw); go_simp); first | done | (with_reducible rfl)))
    | (refine wpAnyH_take (i := 6) (v := undef) rfl (by kernel_rfl) (by kernel_rfl) (by kernel_rfl) (fun _ _ _ h => h) (Or.inr ⟨by rfl, rfl⟩) (by assumption) ?_)
  (try simp only [Act.put, List.getElem_toArray, List.getElem_cons_zero, List.getElem_cons_succ, List.setIfInBounds_toArray, List.set_cons_zero, List.set_cons_succ])
  refine wpAnyH_ready (rs := [7]) (by kernel_rfl) (by simp) (AllReadyH.cons rfl (fun K hK => ?_) AllReadyH.nil)
  (try go_simp)
  first
    | (refine hK.out _ _ ?_ (fun hNew => ?_))
    | (((first | (go_at_call 17; refine (CoverColor_sV _ _ _ _ _ _ h1 (by omega) (by omega)).mono ?_; rintro e wz ⟨rfl, hbz⟩; obtain ⟨hc1, hf1⟩ := bcell hbz; have hz1 := hbz.size; (try simp only [World.size_alloc, World.size_setCell, World.size_drew] at hz1); have z0a : w1.heap.size < wz.heap.size := (by omega); have z0b : w1.heap.size < wz.heap.size + 1 := (by omega); have z0c : w1.heap.size < wz.heap.size + 1 + 1 := (by omega); have z0d : w1.heap.size < wz.heap.size + 1 + 1 + 1 := (by omega); have z1a : w2.heap.size < wz.heap.size := (by omega); have z1b : w2.heap.size < wz.heap.size + 1 := (by omega); have z1c : w2.heap.size < wz.heap.size + 1 + 1 := (by omega); have z1d : w2.heap.size < wz.heap.size + 1 + 1 + 1 := (by omega); have BZ : Below w.heap.size w wz := below_then (by first | (have hhh := HB3.out; go_grown; done) | (have hhh := HB2.out; go_grown; done) | fail) hbz) | (go_at_call 16; refine (ValidColor_i _ _ _ _ _).mono ?_; rintro e wz ⟨rfl, rfl⟩) | (go_at_call 18; refine (CoverColor_iV _ _ _ _ _ _ h1 (by omega) (by omega)).mono ?_; rintro e wz ⟨rfl, hbz⟩; obtain ⟨hc1, hf1⟩ := bcell hbz; have hz1 := hbz.size; (try simp only [World.size_alloc, World.size_setCell, World.size_drew] at hz1); have z0a : w1.heap.size < wz.heap.size := (by omega); have z0b : w1.heap.size < wz.heap.size + 1 := (by omega); have z0c : w1.heap.size < wz.heap.size + 1 + 1 := (by omega); have z0d : w1.heap.size < wz.heap.size + 1 + 1 + 1 := (by omega); have z1a : w2.heap.size < wz.heap.size := (by omega); have z1b : w2.heap.size < wz.heap.size + 1 := (by omega); have z1c : w2.heap.size < wz.heap.size + 1 + 1 := (by omega); have z1d : w2.heap.size < wz.heap.size + 1 + 1 + 1 := (by omega); have BZ : Below w.heap.size w wz := below_then (by first | (have hhh := HB3.out; go_grown; done) | (have hhh := HB2.out; go_grown; done) | fail) hbz))); (try go_wp2_with fail); (refine hK.out _ _ ?_ (fun hNew => ?_)))
    | fail
  · (try dsimp only)
    first | ((try go_split_ands); (((repeat' apply And.intro) <;> (first | ((repeat (first | (with_reducible assumption) | (with_reducible refine cell_keepD ?_) | (with_reducible refine cell_keepA ?_ _) | (with_reducible refine cell_keepS ?_ _ (by simp only []; omega)) | (with_reducible refine (hc1 _ _ (by go_size)).trans ?_))); done) | (go_cell; done))))) | fail
  clear hK K hHeld
  have hHeld := hNew
  clear hNew
  (try simp only [Act.put, List.getElem_toArray, List.getElem_cons_zero, List.getElem_cons_succ, List.setIfInBounds_toArray, List.set_cons_zero, List.set_cons_succ])
  first
    | (refine wpAnyH_take (i := 8) (v := ?_) rfl (by kernel_rfl) (by kernel_rfl) (by kernel_rfl) (fun _ _ _ h => h) (Or.inl ⟨by rfl, ?_⟩) (by assumption) ?_; rotate_left; · ((intro w hSw; (try dsimp only at hSw); go_simp); first | done | (with_reducible rfl)))
    | (refine wpAnyH_take (i := 8) (v := undef) rfl (by kernel_rfl) (by kernel_rfl) (by kernel_rfl) (fun _ _ _ h => h) (Or.inr ⟨by rfl, rfl⟩) (by assumption) ?_)
  (try simp only [Act.put, List.getElem_toArray, List.getElem_cons_zero, List.getElem_cons_succ, List.setIfInBounds_toArray, List.set_cons_zero, List.set_cons_succ])
  first
    | (refine wpAnyH_take (i := 9) (v := ?_) rfl (by kernel_rfl) (by kernel_rfl) (by kernel_rfl) (fun _ _ _ h => h) (Or.inl ⟨by rfl, ?_⟩) (by assumption) ?_; rotate_left; · ((intro w hSw; (try dsimp only at hSw); go_simp); first | done | (with_reducible rfl)))
    | (refine wpAnyH_take (i := 9) (v := undef) rfl (by kernel_rfl) (by kernel_rfl) (by kernel_rfl) (fun _ _ _ h => h) (Or.inr ⟨by rfl, rfl⟩) (by assumption) ?_)
  (try simp only [Act.put, List.getElem_toArray, List.getElem_cons_zero, List.getElem_cons_succ, List.setIfInBounds_toArray, List.set_cons_zero, List.set_cons_succ])
  first
    | (refine wpAnyH_take (i := 10) (v := ?_) rfl (by kernel_rfl) (by kernel_rfl) (by kernel_rfl) (fun _ _ _ h => h) (Or.inl ⟨by rfl, ?_⟩) (by assumption) ?_; rotate_left; · ((intro w hSw; (try dsimp only at hSw); go_simp); first | done | (with_reducible rfl)))
    | (refine wpAnyH_take (i := 10) (v := undef) rfl (by kernel_rfl) (by kernel_rfl) (by kernel_rfl) (fun _ _ _ h => h) (Or.inr ⟨by rfl, rfl⟩) (by assumption) ?_)
  (try simp only [Act.put, List.getElem_toArray, List.getElem_cons_zero, List.getElem_cons_succ, List.setIfInBounds_toArray, List.set_cons_zero, List.set_cons_succ])
  first
    | (refine wpAnyH_take (i := 11) (v := ?_) rfl (by kernel_rfl) (by kernel_rfl) (by kernel_rfl) (fun _ _ _ h => h) (Or.inl ⟨by rfl, ?_⟩) (by assumption) ?_; rotate_left; · ((intro w hSw; (try dsimp only at hSw); go_simp); first | done | (with_reducible rfl)))
    | (refine wpAnyH_take (i := 11) (v := undef) rfl (by kernel_rfl) (by kernel_rfl) (by kernel_rfl) (fun _ _ _ h => h) (Or.inr ⟨by rfl, rfl⟩) (by assumption) ?_)
  (try simp only [Act.put, List.getElem_toArray, List.getElem_cons_zero, List.getElem_cons_succ, List.setIfInBounds_toArray, List.set_cons_zero, List.set_cons_succ])
  first
    | (refine wpAnyH_take (i := 12) (v := ?_) rfl (by kernel_rfl) (by kernel_rfl) (by kernel_rfl) (fun _ _ _ h => h) (Or.inl ⟨by rfl, ?_⟩) (by assumption) ?_; rotate_left; · ((intro w hSw; (try dsimp only at hSw); go_simp); first | done | (with_reducible rfl)))
    | (refine wpAnyH_take (i := 12) (v := undef) rfl (by kernel_rfl) (by kernel_rfl) (by kernel_rfl) (fun _ _ _ h => h) (Or.inr ⟨by rfl, rfl⟩) (by assumption) ?_)
  (try simp only [Act.put, List.getElem_toArray, List.getElem_cons_zero, List.getElem_cons_succ, List.setIfInBounds_toArray, List.set_cons_zero, List.set_cons_succ])
  first
    | (refine wpAnyH_take (i := 13) (v := ?_) rfl (by kernel_rfl) (by kernel_rfl) (by kernel_rfl) (fun _ _ _ h => h) (Or.inl ⟨by rfl, ?_⟩) (by assumption) ?_; rotate_left; · ((intro w hSw; (try dsimp only at hSw); go_simp); first | done | (with_reducible rfl)))
    | (refine wpAnyH_take (i := 13) (v := undef) rfl (by kernel_rfl) (by kernel_rfl) (by kernel_rfl) (fun _ _ _ h => h) (Or.inr ⟨by rfl, rfl⟩) (by assumption) ?_)
  (try simp only [Act.put, List.getElem_toArray, List.getElem_cons_zero, List.getElem_cons_succ, List.setIfInBounds_toArray, List.set_cons_zero, List.set_cons_succ])
  first
    | (refine wpAnyH_take (i := 14) (v := ?_) rfl (by kernel_rfl) (by kernel_rfl) (by kernel_rfl) (fun _ _ _ h => h) (Or.inl ⟨by rfl, ?_⟩) (by assumption) ?_; rotate_left; · ((intro w hSw; (try dsimp only at hSw); go_simp); first | done | (with_reducible rfl)))
    | (refine wpAnyH_take (i := 14) (v := undef) rfl (by kernel_rfl) (by kernel_rfl) (by kernel_rfl) (fun _ _ _ h => h) (Or.inr ⟨by rfl, rfl⟩) (by assumption) ?_)
  (try simp only [Act.put, List.getElem_toArray, List.getElem_cons_zero, List.getElem_cons_succ, List.setIfInBounds_toArray, List.set_cons_zero, List.set_cons_succ])
  first
    | (refine wpAnyH_take (i := 15) (v := ?_) rfl (by kernel_rfl) (by kernel_rfl) (by kernel_rfl) (fun _ _ _ h => h) (Or.inl ⟨by rfl, ?_⟩) (by assumption) ?_; rotate_left; · ((intro w hSw; (try dsimp only at hSw); go_simp); first | done | (with_reducible rfl)))
    | (refine wpAnyH_take (i := 15) (v := undef) rfl (by kernel_rfl) (by kernel_rfl) (by kernel_rfl) (fun _ _ _ h => h) (Or.inr ⟨by rfl, rfl⟩) (by assumption) ?_)
  (try simp only [Act.put, List.getElem_toArray, List.getElem_cons_zero, List.getElem_cons_succ, List.setIfInBounds_toArray, List.set_cons_zero, List.set_cons_succ])
  first
    | (refine wpAnyH_take (i := 16) (v := ?_) rfl (by kernel_rfl) (by kernel_rfl) (by kernel_rfl) (fun _ _ _ h => h) (Or.inl ⟨by rfl, ?_⟩) (by assumption) ?_; rotate_left; · ((intro w hSw; (try dsimp only at hSw); go_simp); first | done | (with_reducible rfl)))
    | (refine wpAnyH_take (i := 16) (v := undef) rfl (by kernel_rfl) (by kernel_rfl) (by kernel_rfl) (fun _ _ _ h => h) (Or.inr ⟨by rfl, rfl⟩) (by assumption) ?_)
  (try simp only [Act.put, List.getElem_toArray, List.getElem_cons_zero, List.getElem_cons_succ, List.setIfInBounds_toArray, List.set_cons_zero, List.set_cons_succ])
  first
    | (refine wpAnyH_take (i := 17) (v := ?_) rfl (by kernel_rfl) (by kernel_rfl) (by kernel_rfl) (fun _ _ _ h => h) (Or.inl ⟨by rfl, ?_⟩) (by assumption) ?_; rotate_left; · ((intro w hSw; (try dsimp only at hSw); go_simp); first | done | (with_reducible rfl)))
    | (refine wpAnyH_take (i := 17) (v := undef) rfl (by kernel_rfl) (by kernel_rfl) (by kernel_rfl) (fun _ _ _ h => h) (Or.inr ⟨by rfl, rfl⟩) (by assumption) ?_)
  (try simp only [Act.put, List.getElem_toArray, List.getElem_cons_zero, List.getElem_cons_succ, List.setIfInBounds_toArray, List.set_cons_zero, List.set_cons_succ])
  (try dsimp only at hHeld)
  go_split_ands
  refine wpAnyH_done (by kernel_rfl) ?_ _
  go_wp2_with fail
  refine (CoverColor_iV _ _ _ _ _ _ h1 (by omega) (by omega)).mono ?_
  rintro e w3 ⟨rfl, hb3⟩
  obtain ⟨hc3, hf3⟩ := bcell hb3
  have cA3_0 : w3.cell? ⟨w1.heap.size, 0, none⟩ = some (.int .i64 r) := (hc3 _ _ (by go_size)).trans (by first | (with_reducible assumption) | ((repeat (first | (with_reducible assumption) | (with_reducible refine cell_keepD ?_) | (with_reducible refine cell_keepA ?_ _))); done) | (go_cell; done))
  have cA3_1 : w3.cell? ⟨w1.heap.size, 1, none⟩ = some (.int .i64 g) := (hc3 _ _ (by go_size)).trans (by first | (with_reducible assumption) | ((repeat (first | (with_reducible assumption) | (with_reducible refine cell_keepD ?_) | (with_reducible refine cell_keepA ?_ _))); done) | (go_cell; done))
  have cA3_2 : w3.cell? ⟨w1.heap.size, 2, none⟩ = some (.int .i64 b) := (hc3 _ _ (by go_size)).trans (by first | (with_reducible assumption) | ((repeat (first | (with_reducible assumption) | (with_reducible refine cell_keepD ?_) | (with_reducible refine cell_keepA ?_ _))); done) | (go_cell; done))
  have cA3_3 : w3.cell? ⟨w1.heap.size, 3, none⟩ = some (.int .i64 a) := (hc3 _ _ (by go_size)).trans (by first | (with_reducible assumption) | ((repeat (first | (with_reducible assumption) | (with_reducible refine cell_keepD ?_) | (with_reducible refine cell_keepA ?_ _))); done) | (go_cell; done))
  have cC3_0 : w3.cell? ⟨w2.heap.size, 0, none⟩ = some (.int .i64 (cv r 16)) := (hc3 _ _ (by go_size)).trans (by first | (with_reducible assumption) | ((repeat (first | (with_reducible assumption) | (with_reducible refine cell_keepD ?_) | (with_reducible refine cell_keepA ?_ _))); done) | (go_cell; done))
  have cC3_1 : w3.cell? ⟨w2.heap.size, 1, none⟩ = some (.int .i64 (cv g 16)) := (hc3 _ _ (by go_size)).trans (by first | (with_reducible assumption) | ((repeat (first | (with_reducible assumption) | (with_reducible refine cell_keepD ?_) | (with_reducible refine cell_keepA ?_ _))); done) | (go_cell; done))
  have cC3_2 : w3.cell? ⟨w2.heap.size, 2, none⟩ = some (.int .i64 (cv b 16)) := (hc3 _ _ (by go_size)).trans (by first | (with_reducible assumption) | ((repeat (first | (with_reducible assumption) | (with_reducible refine cell_keepD ?_) | (with_reducible refine cell_keepA ?_ _))); done) | (go_cell; done))
  have cC3_3 : w3.cell? ⟨w2.heap.size, 3, none⟩ = some (.int .i64 (cv a 16)) := (hc3 _ _ (by go_size)).trans (by first | (with_reducible assumption) | ((repeat (first | (with_reducible assumption) | (with_reducible refine cell_keepD ?_) | (with_reducible refine cell_keepA ?_ _))); done) | (go_cell; done))
  have HB3 := Lib.hid (show Below w.heap.size w w3 from below_then (by have hhh := HB2.out; go_grown) hb3)
  have hs3 := hb3.size
  (try simp only [World.size_alloc, World.size_setCell, World.size_drew] at hs3)
  have yA3 : w1.heap.size < w3.heap.size := by omega
  have yC3 : w2.heap.size < w3.heap.size := by omega
  clear hb3 hc3 hf3
  go_wp2_with fail
  refine wp_region_held_drew (S := fun w' => w'.cell? ⟨w1.heap.size, 0, none⟩ = some (.int .i64 r) ∧ w'.cell? ⟨w1.heap.size, 1, none⟩ = some (.int .i64 g) ∧ w'.cell? ⟨w1.heap.size, 2, none⟩ = some (.int .i64 b) ∧ w'.cell? ⟨w1.heap.size, 3, none⟩ = some (.int .i64 a) ∧ w'.cell? ⟨w2.heap.size, 0, none⟩ = some (.int .i64 (cv r 16)) ∧ w'.cell? ⟨w2.heap.size, 1, none⟩ = some (.int .i64 (cv g 16)) ∧ w'.cell? ⟨w2.heap.size, 2, none⟩ = some (.int .i64 (cv b 16)) ∧ w'.cell? ⟨w2.heap.size, 3, none⟩ = some (.int .i64 (cv a 16)) ∧ w'.cell? ⟨w3.heap.size, 0, none⟩ = some (.int .i64 (cv r 16)) ∧ w'.cell? ⟨w3.heap.size, 1, none⟩ = some (.int .i64 (cv g 16)) ∧ w'.cell? ⟨w3.heap.size, 2, none⟩ = some (.int .i64 (cv b 16)) ∧ w'.cell? ⟨w3.heap.size, 3, none⟩ = some (.int .i64 (cv a 16))) (by kernel_rfl) ?_ (fun hHeld => ?_)
  · (try dsimp only)
    first | (((repeat' apply And.intro) <;> (first | ((repeat (first | (with_reducible assumption) | (with_reducible refine cell_keepD ?_) | (with_reducible refine cell_keepA ?_ _) | (with_reducible refine cell_keepS ?_ _ (by simp only []; omega)) | (with_reducible refine (hc1 _ _ (by go_size)).trans ?_))); done) | (go_cell; done)))) | fail
  first
    | (refine wpAnyH_take (i := 0) (v := ?_) rfl (by kernel_rfl) (by kernel_rfl) (by kernel_rfl) (fun _ _ _ h => h) (Or.inl ⟨by rfl, ?_⟩) (by assumption) ?_; rotate_left; · ((intro w hSw; (try dsimp only at hSw); go_simp); first | done | (with_reducible rfl)))
    | (refine wpAnyH_take (i := 0) (v := undef) rfl (by kernel_rfl) (by kernel_rfl) (by kernel_rfl) (fun _ _ _ h => h) (Or.inr ⟨by rfl, rfl⟩) (by assumption) ?_)
  (try simp only [Act.put, List.getElem_toArray, List.getElem_cons_zero, List.getElem_cons_succ, List.setIfInBounds_toArray, List.set_cons_zero, List.set_cons_succ])
  first
    | (refine wpAnyH_take (i := 2) (v := ?_) rfl (by kernel_rfl) (by kernel_rfl) (by kernel_rfl) (fun _ _ _ h => h) (Or.inl ⟨by rfl, ?_⟩) (by assumption) ?_; rotate_left; · ((intro w hSw; (try dsimp only at hSw); go_simp); first | done | (with_reducible rfl)))
    | (refine wpAnyH_take (i := 2) (v := undef) rfl (by kernel_rfl) (by kernel_rfl) (by kernel_rfl) (fun _ _ _ h => h) (Or.inr ⟨by rfl, rfl⟩) (by assumption) ?_)
  (try simp only [Act.put, List.getElem_toArray, List.getElem_cons_zero, List.getElem_cons_succ, List.setIfInBounds_toArray, List.set_cons_zero, List.set_cons_succ])
  refine wpAnyH_ready (rs := [1]) (by kernel_rfl) (by simp) (AllReadyH.cons rfl (fun K hK => ?_) AllReadyH.nil)
  (try go_simp)
  first
    | (refine hK.out _ _ ?_ (fun hNew => ?_))
    | (((first | (go_at_call 17; refine (CoverColor_sV _ _ _ _ _ _ h1 (by omega) (by omega)).mono ?_; rintro e wz ⟨rfl, hbz⟩; obtain ⟨hc1, hf1⟩ := bcell hbz; have hz1 := hbz.size; (try simp only [World.size_alloc, World.size_setCell, World.size_drew] at hz1); have z0a : w1.heap.size < wz.heap.size := (by omega); have z0b : w1.heap.size < wz.heap.size + 1 := (by omega); have z0c : w1.heap.size < wz.heap.size + 1 + 1 := (by omega); have z0d : w1.heap.size < wz.heap.size + 1 + 1 + 1 := (by omega); have z1a : w2.heap.size < wz.heap.size := (by omega); have z1b : w2.heap.size < wz.heap.size + 1 := (by omega); have z1c : w2.heap.size < wz.heap.size + 1 + 1 := (by omega); have z1d : w2.heap.size < wz.heap.size + 1 + 1 + 1 := (by omega); have BZ : Below w.heap.size w wz := below_then (by first | (have hhh := HB3.out; go_grown; done) | (have hhh := HB2.out; go_grown; done) | fail) hbz) | (go_at_call 16; refine (ValidColor_i _ _ _ _ _).mono ?_; rintro e wz ⟨rfl, rfl⟩) | (go_at_call 18; refine (CoverColor_iV _ _ _ _ _ _ h1 (by omega) (by omega)).mono ?_; rintro e wz ⟨rfl, hbz⟩; obtain ⟨hc1, hf1⟩ := bcell hbz; have hz1 := hbz.size; (try simp only [World.size_alloc, World.size_setCell, World.size_drew] at hz1); have z0a : w1.heap.size < wz.heap.size := (by omega); have z0b : w1.heap.size < wz.heap.size + 1 := (by omega); have z0c : w1.heap.size < wz.heap.size + 1 + 1 := (by omega); have z0d : w1.heap.size < wz.heap.size + 1 + 1 + 1 := (by omega); have z1a : w2.heap.size < wz.heap.size := (by omega); have z1b : w2.heap.size < wz.heap.size + 1 := (by omega); have z1c : w2.heap.size < wz.heap.size + 1 + 1 := (by omega); have z1d : w2.heap.size < wz.heap.size + 1 + 1 + 1 := (by omega); have BZ : Below w.heap.size w wz := below_then (by first | (have hhh := HB3.out; go_grown; done) | (have hhh := HB2.out; go_grown; done) | fail) hbz))); (try go_wp2_with fail); (refine hK.out _ _ ?_ (fun hNew => ?_)))
    | fail
  · (try dsimp only)
    first | ((try go_split_ands); (((repeat' apply And.intro) <;> (first | ((repeat (first | (with_reducible assumption) | (with_reducible refine cell_keepD ?_) | (with_reducible refine cell_keepA ?_ _) | (with_reducible refine cell_keepS ?_ _ (by simp only []; omega)) | (with_reducible refine (hc1 _ _ (by go_size)).trans ?_))); done) | (go_cell; done))))) | fail
  clear hK K hHeld
  have hHeld := hNew
  clear hNew
  (try simp only [Act.put, List.getElem_toArray, List.getElem_cons_zero, List.getElem_cons_succ, List.setIfInBounds_toArray, List.set_cons_zero, List.set_cons_succ])
  first
    | (refine wpAnyH_take (i := 3) (v := ?_) rfl (by kernel_rfl) (by kernel_rfl) (by kernel_rfl) (fun _ _ _ h => h) (Or.inl ⟨by rfl, ?_⟩) (by assumption) ?_; rotate_left; · ((intro w hSw; (try dsimp only at hSw); go_simp); first | done | (with_reducible rfl)))
    | (refine wpAnyH_take (i := 3) (v := undef) rfl (by kernel_rfl) (by kernel_rfl) (by kernel_rfl) (fun _ _ _ h => h) (Or.inr ⟨by rfl, rfl⟩) (by assumption) ?_)
  (try simp only [Act.put, List.getElem_toArray, List.getElem_cons_zero, List.getElem_cons_succ, List.setIfInBounds_toArray, List.set_cons_zero, List.set_cons_succ])
  first
    | (refine wpAnyH_take (i := 4) (v := ?_) rfl (by kernel_rfl) (by kernel_rfl) (by kernel_rfl) (fun _ _ _ h => h) (Or.inl ⟨by rfl, ?_⟩) (by assumption) ?_; rotate_left; · ((intro w hSw; (try dsimp only at hSw); go_simp); first | done | (with_reducible rfl)))
    | (refine wpAnyH_take (i := 4) (v := undef) rfl (by kernel_rfl) (by kernel_rfl) (by kernel_rfl) (fun _ _ _ h => h) (Or.inr ⟨by rfl, rfl⟩) (by assumption) ?_)
  (try simp only [Act.put, List.getElem_toArray, List.getElem_cons_zero, List.getElem_cons_succ, List.setIfInBounds_toArray, List.set_cons_zero, List.set_cons_succ])
  first
    | (refine wpAnyH_take (i := 5) (v := ?_) rfl (by kernel_rfl) (by kernel_rfl) (by kernel_rfl) (fun _ _ _ h => h) (Or.inl ⟨by rfl, ?_⟩) (by assumption) ?_; rotate_left; · ((intro w hSw; (try dsimp only at hSw); go_simp); first | done | (with_reducible rfl)))
    | (refine wpAnyH_take (i := 5) (v := undef) rfl (by kernel_rfl) (by kernel_rfl) (by kernel_rfl) (fun _ _ _ h => h) (Or.inr ⟨by rfl, rfl⟩) (by assumption) ?_)
  (try simp only [Act.put, List.getElem_toArray, List.getElem_cons_zero, List.getElem_cons_succ, List.setIfInBounds_toArray, List.set_cons_zero, List.set_cons_succ])
  first
    | (refine wpAnyH_take (i := 7) (v := ?_) rfl (by kernel_rfl) (by kernel_rfl) (by kernel_rfl) (fun _ _ _ h => h) (Or.inl ⟨by rfl, ?_⟩) (by assumption) ?_; rotate_left; · ((intro w hSw; (try dsimp only at hSw); go_simp); first | done | (with_reducible rfl)))
    | (refine wpAnyH_take (i := 7) (v := undef) rfl (by kernel_rfl) (by kernel_rfl) (by kernel_rfl) (fun _ _ _ h => h) (Or.inr ⟨by rfl, rfl⟩) (by assumption) ?_)
  (try simp only [Act.put, List.getElem_toArray, List.getElem_cons_zero, List.getElem_cons_succ, List.setIfInBounds_toArray, List.set_cons_zero, List.set_cons_succ])
  refine wpAnyH_ready (rs := [6]) (by kernel_rfl) (by simp) (AllReadyH.cons rfl (fun K hK => ?_) AllReadyH.nil)
  (try go_simp)
  first
    | (refine hK.out _ _ ?_ (fun hNew => ?_))
    | (((first | (go_at_call 17; refine (CoverColor_sV _ _ _ _ _ _ h1 (by omega) (by omega)).mono ?_; rintro e wz ⟨rfl, hbz⟩; obtain ⟨hc1, hf1⟩ := bcell hbz; have hz1 := hbz.size; (try simp only [World.size_alloc, World.size_setCell, World.size_drew] at hz1); have z0a : w1.heap.size < wz.heap.size := (by omega); have z0b : w1.heap.size < wz.heap.size + 1 := (by omega); have z0c : w1.heap.size < wz.heap.size + 1 + 1 := (by omega); have z0d : w1.heap.size < wz.heap.size + 1 + 1 + 1 := (by omega); have z1a : w2.heap.size < wz.heap.size := (by omega); have z1b : w2.heap.size < wz.heap.size + 1 := (by omega); have z1c : w2.heap.size < wz.heap.size + 1 + 1 := (by omega); have z1d : w2.heap.size < wz.heap.size + 1 + 1 + 1 := (by omega); have BZ : Below w.heap.size w wz := below_then (by first | (have hhh := HB3.out; go_grown; done) | (have hhh := HB2.out; go_grown; done) | fail) hbz) | (go_at_call 16; refine (ValidColor_i _ _ _ _ _).mono ?_; rintro e wz ⟨rfl, rfl⟩) | (go_at_call 18; refine (CoverColor_iV _ _ _ _ _ _ h1 (by omega) (by omega)).mono ?_; rintro e wz ⟨rfl, hbz⟩; obtain ⟨hc1, hf1⟩ := bcell hbz; have hz1 := hbz.size; (try simp only [World.size_alloc, World.size_setCell, World.size_drew] at hz1); have z0a : w1.heap.size < wz.heap.size := (by omega); have z0b : w1.heap.size < wz.heap.size + 1 := (by omega); have z0c : w1.heap.size < wz.heap.size + 1 + 1 := (by omega); have z0d : w1.heap.size < wz.heap.size + 1 + 1 + 1 := (by omega); have z1a : w2.heap.size < wz.heap.size := (by omega); have z1b : w2.heap.size < wz.heap.size + 1 := (by omega); have z1c : w2.heap.size < wz.heap.size + 1 + 1 := (by omega); have z1d : w2.heap.size < wz.heap.size + 1 + 1 + 1 := (by omega); have BZ : Below w.heap.size w wz := below_then (by first | (have hhh := HB3.out; go_grown; done) | (have hhh := HB2.out; go_grown; done) | fail) hbz))); (try go_wp2_with fail); (refine hK.out _ _ ?_ (fun hNew => ?_)))
    | fail
  · (try dsimp only)
    first | ((try go_split_ands); (((repeat' apply And.intro) <;> (first | ((repeat (first | (with_reducible assumption) | (with_reducible refine cell_keepD ?_) | (with_reducible refine cell_keepA ?_ _) | (with_reducible refine cell_keepS ?_ _ (by simp only []; omega)) | (with_reducible refine (hc1 _ _ (by go_size)).trans ?_))); done) | (go_cell; done))))) | fail
  clear hK K hHeld
  have hHeld := hNew
  clear hNew
  (try simp only [Act.put, List.getElem_toArray, List.getElem_cons_zero, List.getElem_cons_succ, List.setIfInBounds_toArray, List.set_cons_zero, List.set_cons_succ])
  first
    | (refine wpAnyH_take (i := 8) (v := ?_) rfl (by kernel_rfl) (by kernel_rfl) (by kernel_rfl) (fun _ _ _ h => h) (Or.inl ⟨by rfl, ?_⟩) (by assumption) ?_; rotate_left; · ((intro w hSw; (try dsimp only at hSw); go_simp); first | done | (with_reducible rfl)))
    | (refine wpAnyH_take (i := 8) (v := undef) rfl (by kernel_rfl) (by kernel_rfl) (by kernel_rfl) (fun _ _ _ h => h) (Or.inr ⟨by rfl, rfl⟩) (by assumption) ?_)
  (try simp only [Act.put, List.getElem_toArray, List.getElem_cons_zero, List.getElem_cons_succ, List.setIfInBounds_toArray, List.set_cons_zero, List.set_cons_succ])
  first
    | (refine wpAnyH_take (i := 9) (v := ?_) rfl (by kernel_rfl) (by kernel_rfl) (by kernel_rfl) (fun _ _ _ h => h) (Or.inl ⟨by rfl, ?_⟩) (by assumption) ?_; rotate_left; · ((intro w hSw; (try dsimp only at hSw); go_simp); first | done | (with_reducible rfl)))
    | (refine wpAnyH_take (i := 9) (v := undef) rfl (by kernel_rfl) (by kernel_rfl) (by kernel_rfl) (fun _ _ _ h => h) (Or.inr ⟨by rfl, rfl⟩) (by assumption) ?_)
  (try simp only [Act.put, List.getElem_toArray, List.getElem_cons_zero, List.getElem_cons_succ, List.setIfInBounds_toArray, List.set_cons_zero, List.set_cons_succ])
  first
    | (refine wpAnyH_take (i := 10) (v := ?_) rfl (by kernel_rfl) (by kernel_rfl) (by kernel_rfl) (fun _ _ _ h => h) (Or.inl ⟨by rfl, ?_⟩) (by assumption) ?_; rotate_left; · ((intro w hSw; (try dsimp only at hSw); go_simp); first | done | (with_reducible rfl)))
    | (refine wpAnyH_take (i := 10) (v := undef) rfl (by kernel_rfl) (by kernel_rfl) (by kernel_rfl) (fun _ _ _ h => h) (Or.inr ⟨by rfl, rfl⟩) (by assumption) ?_)
  (try simp only [Act.put, List.getElem_toArray, List.getElem_cons_zero, List.getElem_cons_succ, List.setIfInBounds_toArray, List.set_cons_zero, List.set_cons_succ])
  first
    | (refine wpAnyH_take (i := 11) (v := ?_) rfl (by kernel_rfl) (by kernel_rfl) (by kernel_rfl) (fun _ _ _ h => h) (Or.inl ⟨by rfl, ?_⟩) (by assumption) ?_; rotate_left; · ((intro w hSw; (try dsimp only at hSw); go_simp); first | done | (with_reducible rfl)))
    | (refine wpAnyH_take (i := 11) (v := undef) rfl (by kernel_rfl) (by kernel_rfl) (by kernel_rfl) (fun _ _ _ h => h) (Or.inr ⟨by rfl, rfl⟩) (by assumption) ?_)
  (try simp only [Act.put, List.getElem_toArray, List.getElem_cons_zero, List.getElem_cons_succ, List.setIfInBounds_toArray, List.set_cons_zero, List.set_cons_succ])
  refine wpAnyH_ready (rs := [12]) (by kernel_rfl) (by simp) (AllReadyH.cons rfl (fun K hK => ?_) AllReadyH.nil)
  (try go_simp)
  first
    | (refine hK.out _ _ ?_ (fun hNew => ?_))
    | (((first | (go_at_call 17; refine (CoverColor_sV _ _ _ _ _ _ h1 (by omega) (by omega)).mono ?_; rintro e wz ⟨rfl, hbz⟩; obtain ⟨hc1, hf1⟩ := bcell hbz; have hz1 := hbz.size; (try simp only [World.size_alloc, World.size_setCell, World.size_drew] at hz1); have z0a : w1.heap.size < wz.heap.size := (by omega); have z0b : w1.heap.size < wz.heap.size + 1 := (by omega); have z0c : w1.heap.size < wz.heap.size + 1 + 1 := (by omega); have z0d : w1.heap.size < wz.heap.size + 1 + 1 + 1 := (by omega); have z1a : w2.heap.size < wz.heap.size := (by omega); have z1b : w2.heap.size < wz.heap.size + 1 := (by omega); have z1c : w2.heap.size < wz.heap.size + 1 + 1 := (by omega); have z1d : w2.heap.size < wz.heap.size + 1 + 1 + 1 := (by omega); have BZ : Below w.heap.size w wz := below_then (by first | (have hhh := HB3.out; go_grown; done) | (have hhh := HB2.out; go_grown; done) | fail) hbz) | (go_at_call 16; refine (ValidColor_i _ _ _ _ _).mono ?_; rintro e wz ⟨rfl, rfl⟩) | (go_at_call 18; refine (CoverColor_iV _ _ _ _ _ _ h1 (by omega) (by omega)).mono ?_; rintro e wz ⟨rfl, hbz⟩; obtain ⟨hc1, hf1⟩ := bcell hbz; have hz1 := hbz.size; (try simp only [World.size_alloc, World.size_setCell, World.size_drew] at hz1); have z0a : w1.heap.size < wz.heap.size := (by omega); have z0b : w1.heap.size < wz.heap.size + 1 := (by omega); have z0c : w1.heap.size < wz.heap.size + 1 + 1 := (by omega); have z0d : w1.heap.size < wz.heap.size + 1 + 1 + 1 := (by omega); have z1a : w2.heap.size < wz.heap.size := (by omega); have z1b : w2.heap.size < wz.heap.size + 1 := (by omega); have z1c : w2.heap.size < wz.heap.size + 1 + 1 := (by omega); have z1d : w2.heap.size < wz.heap.size + 1 + 1 + 1 := (by omega); have BZ : Below w.heap.size w wz := below_then (by first | (have hhh := HB3.out; go_grown; done) | (have hhh := HB2.out; go_grown; done) | fail) hbz))); (try go_wp2_with fail); (refine hK.out _ _ ?_ (fun hNew => ?_)))
    | fail
  · (try dsimp only)
    first | ((try go_split_ands); (((repeat' apply And.intro) <;> (first | ((repeat (first | (with_reducible assumption) | (with_reducible refine cell_keepD ?_) | (with_reducible refine cell_keepA ?_ _) | (with_reducible refine cell_keepS ?_ _ (by simp only []; omega)) | (with_reducible refine (hc1 _ _ (by go_size)).trans ?_))); done) | (go_cell; done))))) | fail
  clear hK K hHeld
  have hHeld := hNew
  clear hNew
  (try simp only [Act.put, List.getElem_toArray, List.getElem_cons_zero, List.getElem_cons_succ, List.setIfInBounds_toArray, List.set_cons_zero, List.set_cons_succ])
  first
    | (refine wpAnyH_take (i := 13) (v := ?_) rfl (by kernel_rfl) (by kernel_rfl) (by kernel_rfl) (fun _ _ _ h => h) (Or.inl ⟨by rfl, ?_⟩) (by assumption) ?_; rotate_left; · ((intro w hSw; (try dsimp only at hSw); go_simp); first | done | (with_reducible rfl)))
    | (refine wpAnyH_take (i := 13) (v := undef) rfl (by kernel_rfl) (by kernel_rfl) (by kernel_rfl) (fun _ _ _ h => h) (Or.inr ⟨by rfl, rfl⟩) (by assumption) ?_)
  (try simp only [Act.put, List.getElem_toArray, List.getElem_cons_zero, List.getElem_cons_succ, List.setIfInBounds_toArray, List.set_cons_zero, List.set_cons_succ])
  first
    | (refine wpAnyH_take (i := 14) (v := ?_) rfl (by kernel_rfl) (by kernel_rfl) (by kernel_rfl) (fun _ _ _ h => h) (Or.inl ⟨by rfl, ?_⟩) (by assumption) ?_; rotate_left; · ((intro w hSw; (try dsimp only at hSw); go_simp); first | done | (with_reducible rfl)))
    | (refine wpAnyH_take (i := 14) (v := undef) rfl (by kernel_rfl) (by kernel_rfl) (by kernel_rfl) (fun _ _ _ h => h) (Or.inr ⟨by rfl, rfl⟩) (by assumption) ?_)
  (try simp only [Act.put, List.getElem_toArray, List.getElem_cons_zero, List.getElem_cons_succ, List.setIfInBounds_toArray, List.set_cons_zero, List.set_cons_succ])
  first
    | (refine wpAnyH_take (i := 15) (v := ?_) rfl (by kernel_rfl) (by kernel_rfl) (by kernel_rfl) (fun _ _ _ h => h) (Or.inl ⟨by rfl, ?_⟩) (by assumption) ?_; rotate_left; · ((intro w hSw; (try dsimp only at hSw); go_simp); first | done | (with_reducible rfl)))
    | (refine wpAnyH_take (i := 15) (v := undef) rfl (by kernel_rfl) (by kernel_rfl) (by kernel_rfl) (fun _ _ _ h => h) (Or.inr ⟨by rfl, rfl⟩) (by assumption) ?_)
  (try simp only [Act.put, List.getElem_toArray, List.getElem_cons_zero, List.getElem_cons_succ, List.setIfInBounds_toArray, List.set_cons_zero, List.set_cons_succ])
  first
    | (refine wpAnyH_take (i := 16) (v := ?_) rfl (by kernel_rfl) (by kernel_rfl) (by kernel_rfl) (fun _ _ _ h => h) (Or.inl ⟨by rfl, ?_⟩) (by assumption) ?_; rotate_left; · ((intro w hSw; (try dsimp only at hSw); go_simp); first | done | (with_reducible rfl)))
    | (refine wpAnyH_take (i := 16) (v := undef) rfl (by kernel_rfl) (by kernel_rfl) (by kernel_rfl) (fun _ _ _ h => h) (Or.inr ⟨by rfl, rfl⟩) (by assumption) ?_)
  (try simp only [Act.put, List.getElem_toArray, List.getElem_cons_zero, List.getElem_cons_succ, List.setIfInBounds_toArray, List.set_cons_zero, List.set_cons_succ])
  first
    | (refine wpAnyH_take (i := 17) (v := ?_) rfl (by kernel_rfl) (by kernel_rfl) (by kernel_rfl) (fun _ _ _ h => h) (Or.inl ⟨by rfl, ?_⟩) (by assumption) ?_; rotate_left; · ((intro w hSw; (try dsimp only at hSw); go_simp); first | done | (with_reducible rfl)))
    | (refine wpAnyH_take (i := 17) (v := undef) rfl (by kernel_rfl) (by kernel_rfl) (by kernel_rfl) (fun _ _ _ h => h) (Or.inr ⟨by rfl, rfl⟩) (by assumption) ?_)
  (try simp only [Act.put, List.getElem_toArray, List.getElem_cons_zero, List.getElem_cons_succ, List.setIfInBounds_toArray, List.set_cons_zero, List.set_cons_succ])
  first
    | (refine wpAnyH_take (i := 18) (v := ?_) rfl (by kernel_rfl) (by kernel_rfl) (by kernel_rfl) (fun _ _ _ h => h) (Or.inl ⟨by rfl, ?_⟩) (by assumption) ?_; rotate_left; · ((intro w hSw; (try dsimp only at hSw); go_simp); first | done | (with_reducible rfl)))
    | (refine wpAnyH_take (i := 18) (v := undef) rfl (by kernel_rfl) (by kernel_rfl) (by kernel_rfl) (fun _ _ _ h => h) (Or.inr ⟨by rfl, rfl⟩) (by assumption) ?_)
  (try simp only [Act.put, List.getElem_toArray, List.getElem_cons_zero, List.getElem_cons_succ, List.setIfInBounds_toArray, List.set_cons_zero, List.set_cons_succ])
  first
    | (refine wpAnyH_take (i := 19) (v := ?_) rfl (by kernel_rfl) (by kernel_rfl) (by kernel_rfl) (fun _ _ _ h => h) (Or.inl ⟨by rfl, ?_⟩) (by assumption) ?_; rotate_left; · ((intro w hSw; (try dsimp only at hSw); go_simp); first | done | (with_reducible rfl)))
    | (refine wpAnyH_take (i := 19) (v := undef) rfl (by kernel_rfl) (by kernel_rfl) (by kernel_rfl) (fun _ _ _ h => h) (Or.inr ⟨by rfl, rfl⟩) (by assumption) ?_)
  (try simp only [Act.put, List.getElem_toArray, List.getElem_cons_zero, List.getElem_cons_succ, List.setIfInBounds_toArray, List.set_cons_zero, List.set_cons_succ])
  first
    | (refine wpAnyH_take (i := 20) (v := ?_) rfl (by kernel_rfl) (by kernel_rfl) (by kernel_rfl) (fun _ _ _ h => h) (Or.inl ⟨by rfl, ?_⟩) (by assumption) ?_; rotate_left; · ((intro w hSw; (try dsimp only at hSw); go_simp); first | done | (with_reducible rfl)))
    | (refine wpAnyH_take (i := 20) (v := undef) rfl (by kernel_rfl) (by kernel_rfl) (by kernel_rfl) (fun _ _ _ h => h) (Or.inr ⟨by rfl, rfl⟩) (by assumption) ?_)
  (try simp only [Act.put, List.getElem_toArray, List.getElem_cons_zero, List.getElem_cons_succ, List.setIfInBounds_toArray, List.set_cons_zero, List.set_cons_succ])
  first
    | (refine wpAnyH_take (i := 21) (v := ?_) rfl (by kernel_rfl) (by kernel_rfl) (by kernel_rfl) (fun _ _ _ h => h) (Or.inl ⟨by rfl, ?_⟩) (by assumption) ?_; rotate_left; · ((intro w hSw; (try dsimp only at hSw); go_simp); first | done | (with_reducible rfl)))
    | (refine wpAnyH_take (i := 21) (v := undef) rfl (by kernel_rfl) (by kernel_rfl) (by kernel_rfl) (fun _ _ _ h => h) (Or.inr ⟨by rfl, rfl⟩) (by assumption) ?_)
  (try simp only [Act.put, List.getElem_toArray, List.getElem_cons_zero, List.getElem_cons_succ, List.setIfInBounds_toArray, List.set_cons_zero, List.set_cons_succ])
  first
    | (refine wpAnyH_take (i := 22) (v := ?_) rfl (by kernel_rfl) (by kernel_rfl) (by kernel_rfl) (fun _ _ _ h => h) (Or.inl ⟨by rfl, ?_⟩) (by assumption) ?_; rotate_left; · ((intro w hSw; (try dsimp only at hSw); go_simp); first | done | (with_reducible rfl)))
    | (refine wpAnyH_take (i := 22) (v := undef) rfl (by kernel_rfl) (by kernel_rfl) (by kernel_rfl) (fun _ _ _ h => h) (Or.inr ⟨by rfl, rfl⟩) (by assumption) ?_)
  (try simp only [Act.put, List.getElem_toArray, List.getElem_cons_zero, List.getElem_cons_succ, List.setIfInBounds_toArray, List.set_cons_zero, List.set_cons_succ])
  first
    | (refine wpAnyH_take (i := 23) (v := ?_) rfl (by kernel_rfl) (by kernel_rfl) (by kernel_rfl) (fun _ _ _ h => h) (Or.inl ⟨by rfl, ?_⟩) (by assumption) ?_; rotate_left; · ((intro w hSw; (try dsimp only at hSw); go_simp); first | done | (with_reducible rfl)))
    | (refine wpAnyH_take (i := 23) (v := undef) rfl (by kernel_rfl) (by kernel_rfl) (by kernel_rfl) (fun _ _ _ h => h) (Or.inr ⟨by rfl, rfl⟩) (by assumption) ?_)
  (try simp only [Act.put, List.getElem_toArray, List.getElem_cons_zero, List.getElem_cons_succ, List.setIfInBounds_toArray, List.set_cons_zero, List.set_cons_succ])
  first
    | (refine wpAnyH_take (i := 24) (v := ?_) rfl (by kernel_rfl) (by kernel_rfl) (by kernel_rfl) (fun _ _ _ h => h) (Or.inl ⟨by rfl, ?_⟩) (by assumption) ?_; rotate_left; · ((intro w hSw; (try dsimp only at hSw); go_simp); first | done | (with_reducible rfl)))
    | (refine wpAnyH_take (i := 24) (v := undef) rfl (by kernel_rfl) (by kernel_rfl) (by kernel_rfl) (fun _ _ _ h => h) (Or.inr ⟨by rfl, rfl⟩) (by assumption) ?_)
  (try simp only [Act.put, List.getElem_toArray, List.getElem_cons_zero, List.getElem_cons_succ, List.setIfInBounds_toArray, List.set_cons_zero, List.set_cons_succ])
  first
    | (refine wpAnyH_take (i := 25) (v := ?_) rfl (by kernel_rfl) (by kernel_rfl) (by kernel_rfl) (fun _ _ _ h => h) (Or.inl ⟨by rfl, ?_⟩) (by assumption) ?_; rotate_left; · ((intro w hSw; (try dsimp only at hSw); go_simp); first | done | (with_reducible rfl)))
    | (refine wpAnyH_take (i := 25) (v := undef) rfl (by kernel_rfl) (by kernel_rfl) (by kernel_rfl) (fun _ _ _ h => h) (Or.inr ⟨by rfl, rfl⟩) (by assumption) ?_)
  (try simp only [Act.put, List.getElem_toArray, List.getElem_cons_zero, List.getElem_cons_succ, List.setIfInBounds_toArray, List.set_cons_zero, List.set_cons_succ])
  first
    | (refine wpAnyH_take (i := 26) (v := ?_) rfl (by kernel_rfl) (by kernel_rfl) (by kernel_rfl) (fun _ _ _ h => h) (Or.inl ⟨by rfl, ?_⟩) (by assumption) ?_; rotate_left; · ((intro w hSw; (try dsimp only at hSw); go_simp); first | done | (with_reducible rfl)))
    | (refine wpAnyH_take (i := 26) (v := undef) rfl (by kernel_rfl) (by kernel_rfl) (by kernel_rfl) (fun _ _ _ h => h) (Or.inr ⟨by rfl, rfl⟩) (by assumption) ?_)
  (try simp only [Act.put, List.getElem_toArray, List.getElem_cons_zero, List.getElem_cons_succ, List.setIfInBounds_toArray, List.set_cons_zero, List.set_cons_succ])
  first
    | (refine wpAnyH_take (i := 27) (v := ?_) rfl (by kernel_rfl) (by kernel_rfl) (by kernel_rfl) (fun _ _ _ h => h) (Or.inl ⟨by rfl, ?_⟩) (by assumption) ?_; rotate_left; · ((intro w hSw; (try dsimp only at hSw); go_simp); first | done | (with_reducible rfl)))
    | (refine wpAnyH_take (i := 27) (v := undef) rfl (by kernel_rfl) (by kernel_rfl) (by kernel_rfl) (fun _ _ _ h => h) (Or.inr ⟨by rfl, rfl⟩) (by assumption) ?_)
  (try simp only [Act.put, List.getElem_toArray, List.getElem_cons_zero, List.getElem_cons_succ, List.setIfInBounds_toArray, List.set_cons_zero, List.set_cons_succ])
  first
    | (refine wpAnyH_take (i := 28) (v := ?_) rfl (by kernel_rfl) (by kernel_rfl) (by kernel_rfl) (fun _ _ _ h => h) (Or.inl ⟨by rfl, ?_⟩) (by assumption) ?_; rotate_left; · ((intro w hSw; (try dsimp only at hSw); go_simp); first | done | (with_reducible rfl)))
    | (refine wpAnyH_take (i := 28) (v := undef) rfl (by kernel_rfl) (by kernel_rfl) (by kernel_rfl) (fun _ _ _ h => h) (Or.inr ⟨by rfl, rfl⟩) (by assumption) ?_)
  (try simp only [Act.put, List.getElem_toArray, List.getElem_cons_zero, List.getElem_cons_succ, List.setIfInBounds_toArray, List.set_cons_zero, List.set_cons_succ])
  (try dsimp only at hHeld)
  go_split_ands
  refine wpAnyH_done (by kernel_rfl) ?_ _
  go_wp2_with (first | (go_at_call 16; refine (ValidColor_i _ _ _ _ _).mono ?_; rintro e wz ⟨rfl, rfl⟩) | fail)
  all_goals
    go_ret
    exact ⟨ret_b (by first | rfl | (simp; done) | (simp [*]; done) | (simp; omega)), by have hhh := HB3.out; go_grown⟩

end Go.Proofs.Ytmdkfeojkjlpeaa
