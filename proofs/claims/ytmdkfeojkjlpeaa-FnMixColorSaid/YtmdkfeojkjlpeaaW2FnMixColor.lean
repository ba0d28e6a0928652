/-
  The walk of FnMixColor: it returns true for every code.
-/
import Derived.Test.YtmdkfeojkjlpeaaColorB
import Derived.Test.YtmdkfeojkjlpeaaDrawD
import Derived.Deep.DeepCutAuto
namespace Go.Proofs.Ytmdkfeojkjlpeaa
open Go.RowKit
set_option linter.unusedSimpArgs false
set_option linter.unusedVariables false

set_option maxRecDepth 100000 in
set_option maxHeartbeats 40000000 in
theorem walk_FnMixColor (w : World) (a0 : Option Addr) (len0 cap0 : Nat) (z0 : List Int) (w0 : IsRow .u8 w a0 len0 cap0 z0) :
    Calls Try.prog 9 #[.slice a0 len0 cap0] w fun e w' => e = .returned (.bool true) ∧ Below w.heap.size w w' := by
  have HC := Lib.hid w0.code
  clear w0
  by_cases hl : 1048576 < len0
  · have hl2 : (1048576 : Int) < (len0 : Int) := by omega
    go_enter Try.func9, Try.ntmps9
    go_wp2
    go_ret
    exact ⟨rfl, Below.refl _ _⟩
  have hl2 : ¬ (1048576 : Int) < (len0 : Int) := by omega
  go_enter Try.func9, Try.ntmps9
  go_wp2_with fail
  refine (DrawMixColor_c _ _ _ _ HC.out).mono ?_
  rintro e w1 ⟨r, g, b, a, r', g', b', a', t, q1, q2, q3, q4, rfl, hb1⟩
  have HB1 := Lib.hid hb1
  have hs1 := hb1.size
  clear hb1
  unfold ColBd at *
  cases h1 : colB r g b a
  · have HHx : (colB r g b a && colB r' g' b' a' && inB t 0 256) = false := by simp [h1]
    have HH := Lib.hid HHx
    clear HHx
    go_wp2_with fail
    refine (MixColor_i0 _ _ _ _ _ _ _ _ _ _ HH.out).mono ?_
    rintro e w2 ⟨rfl, hb2⟩
    have A2 := Lib.hid (show Row w2 (w1.heap.size) 25 4 (col r g b a) from Row.below (Row.alloc (row_col1 _ _ _ _ _ _ _ (by go_size)) _) hb2 (by go_size))
    have B2 := Lib.hid (show Row w2 (w1.heap.size + 1) 25 4 (col r' g' b' a') from Row.below (row_col1 _ _ _ _ _ _ _ (by go_size)) hb2 (by go_size))
    have HB2 := Lib.hid (show Below w.heap.size w w2 from below_then (by have hhh := HB1.out; go_grown) hb2)
    have hs2 := hb2.size
    (try simp only [World.size_alloc, World.size_setCell, World.size_drew] at hs2)
    clear hb2
    obtain ⟨⟨cA2_0, cA2_1, cA2_2, cA2_3⟩, fA2_0, fA2_1, fA2_2, fA2_3⟩ := col_cells A2.out
    obtain ⟨⟨cB2_0, cB2_1, cB2_2, cB2_3⟩, fB2_0, fB2_1, fB2_2, fB2_3⟩ := col_cells B2.out
    go_wp2_with fail
    refine wp_region_held_drew (S := fun w' => w'.cell? ⟨w1.heap.size, 0, none⟩ = some (.int .i64 r) ∧ w'.cell? ⟨w1.heap.size, 1, none⟩ = some (.int .i64 g) ∧ w'.cell? ⟨w1.heap.size, 2, none⟩ = some (.int .i64 b) ∧ w'.cell? ⟨w1.heap.size, 3, none⟩ = some (.int .i64 a) ∧ w'.cell? ⟨w1.heap.size + 1, 0, none⟩ = some (.int .i64 r') ∧ w'.cell? ⟨w1.heap.size + 1, 1, none⟩ = some (.int .i64 g') ∧ w'.cell? ⟨w1.heap.size + 1, 2, none⟩ = some (.int .i64 b') ∧ w'.cell? ⟨w1.heap.size + 1, 3, none⟩ = some (.int .i64 a') ∧ w'.cell? ⟨w2.heap.size, 0, none⟩ = some (.int .i64 0) ∧ w'.cell? ⟨w2.heap.size, 1, none⟩ = some (.int .i64 0) ∧ w'.cell? ⟨w2.heap.size, 2, none⟩ = some (.int .i64 0) ∧ w'.cell? ⟨w2.heap.size, 3, none⟩ = some (.int .i64 0)) (by kernel_rfl) ?_ (fun hHeld => ?_)
    · (try dsimp only)
      first | (((repeat' apply And.intro) <;> (first | ((repeat (first | (with_reducible assumption) | (with_reducible refine cell_keepD ?_) | (with_reducible refine cell_keepA ?_ _) | (with_reducible refine cell_keepS ?_ _ (by simp only []; omega)) | (with_reducible refine (hc1 _ _ (by go_size)).trans ?_))); done) | (go_cell; done)))) | fail
    (try clear cA2_0)
    (try clear cA2_1)
    (try clear cA2_2)
    (try clear cA2_3)
    (try clear cB2_0)
    (try clear cB2_1)
    (try clear cB2_2)
    (try clear cB2_3)
    (try clear cC2_0)
    (try clear cC2_1)
    (try clear cC2_2)
    (try clear cC2_3)
    (try clear fA2_0)
    (try clear fA2_1)
    (try clear fA2_2)
    (try clear fA2_3)
    (try clear fB2_0)
    (try clear fB2_1)
    (try clear fB2_2)
    (try clear fB2_3)
    (try clear fC2_0)
    (try clear fC2_1)
    (try clear fC2_2)
    (try clear fC2_3)
    first
      | (refine wpAnyH_take (i := 0) (v := ?_) rfl (by kernel_rfl) (by kernel_rfl) (by kernel_rfl) (fun _ _ _ h => h) (Or.inl ⟨by rfl, ?_⟩) (by assumption) ?_; rotate_left; · ((intro w hSw; (try dsimp only at hSw); go_simp); first | done | (with_reducible rfl)))
      | (refine wpAnyH_take (i := 0) (v := undef) rfl (by kernel_rfl) (by kernel_rfl) (by kernel_rfl) (fun _ _ _ h => h) (Or.inr ⟨by rfl, rfl⟩) (by assumption) ?_)
    (try simp only [Act.put, List.getElem_toArray, List.getElem_cons_zero, List.getElem_cons_succ, List.setIfInBounds_toArray, List.set_cons_zero, List.set_cons_succ])
    first
      | (refine wpAnyH_take (i := 1) (v := ?_) rfl (by kernel_rfl) (by kernel_rfl) (by kernel_rfl) (fun _ _ _ h => h) (Or.inl ⟨by rfl, ?_⟩) (by assumption) ?_; rotate_left; · ((intro w hSw; (try dsimp only at hSw); go_simp); first | done | (with_reducible rfl)))
      | (refine wpAnyH_take (i := 1) (v := undef) rfl (by kernel_rfl) (by kernel_rfl) (by kernel_rfl) (fun _ _ _ h => h) (Or.inr ⟨by rfl, rfl⟩) (by assumption) ?_)
    (try simp only [Act.put, List.getElem_toArray, List.getElem_cons_zero, List.getElem_cons_succ, List.setIfInBounds_toArray, List.set_cons_zero, List.set_cons_succ])
    first
      | (refine wpAnyH_take (i := 2) (v := ?_) rfl (by kernel_rfl) (by kernel_rfl) (by kernel_rfl) (fun _ _ _ h => h) (Or.inl ⟨by rfl, ?_⟩) (by assumption) ?_; rotate_left; · ((intro w hSw; (try dsimp only at hSw); go_simp); first | done | (with_reducible rfl)))
      | (refine wpAnyH_take (i := 2) (v := undef) rfl (by kernel_rfl) (by kernel_rfl) (by kernel_rfl) (fun _ _ _ h => h) (Or.inr ⟨by rfl, rfl⟩) (by assumption) ?_)
    (try simp only [Act.put, List.getElem_toArray, List.getElem_cons_zero, List.getElem_cons_succ, List.setIfInBounds_toArray, List.set_cons_zero, List.set_cons_succ])
    first
      | (refine wpAnyH_take (i := 3) (v := ?_) rfl (by kernel_rfl) (by kernel_rfl) (by kernel_rfl) (fun _ _ _ h => h) (Or.inl ⟨by rfl, ?_⟩) (by assumption) ?_; rotate_left; · ((intro w hSw; (try dsimp only at hSw); go_simp); first | done | (with_reducible rfl)))
      | (refine wpAnyH_take (i := 3) (v := undef) rfl (by kernel_rfl) (by kernel_rfl) (by kernel_rfl) (fun _ _ _ h => h) (Or.inr ⟨by rfl, rfl⟩) (by assumption) ?_)
    (try simp only [Act.put, List.getElem_toArray, List.getElem_cons_zero, List.getElem_cons_succ, List.setIfInBounds_toArray, List.set_cons_zero, List.set_cons_succ])
    refine wpAnyH_ready (rs := [4]) (by kernel_rfl) (by simp) (AllReadyH.cons rfl (fun K hK => ?_) AllReadyH.nil)
    (try go_simp)
    first
      | (refine hK.out _ _ ?_ (fun hNew => ?_))
      | (((first | (go_at_call 20; refine (MixColor_s0 _ _ _ _ _ _ _ _ _ _ HH.out).mono ?_; rintro e wz ⟨rfl, hbz⟩; obtain ⟨hc1, hf1⟩ := bcell hbz; have hz1 := hbz.size; (try simp only [World.size_alloc, World.size_setCell, World.size_drew] at hz1); have z0a : w1.heap.size < wz.heap.size := (by omega); have z0b : w1.heap.size < wz.heap.size + 1 := (by omega); have z0c : w1.heap.size < wz.heap.size + 1 + 1 := (by omega); have z0d : w1.heap.size < wz.heap.size + 1 + 1 + 1 := (by omega); have z1a : w1.heap.size + 1 < wz.heap.size := (by omega); have z1b : w1.heap.size + 1 < wz.heap.size + 1 := (by omega); have z1c : w1.heap.size + 1 < wz.heap.size + 1 + 1 := (by omega); have z1d : w1.heap.size + 1 < wz.heap.size + 1 + 1 + 1 := (by omega); have z2a : w2.heap.size < wz.heap.size := (by omega); have z2b : w2.heap.size < wz.heap.size + 1 := (by omega); have z2c : w2.heap.size < wz.heap.size + 1 + 1 := (by omega); have z2d : w2.heap.size < wz.heap.size + 1 + 1 + 1 := (by omega); have BZ : Below w.heap.size w wz := below_then (by first | (have hhh := HB3.out; go_grown; done) | (have hhh := HB2.out; go_grown; done) | fail) hbz; clear hbz) | (go_at_call 16; refine (ValidColor_i _ _ _ _ _).mono ?_; rintro e wz ⟨rfl, rfl⟩))); (try go_wp2_with fail); (refine hK.out _ _ ?_ (fun hNew => ?_)))
      | fail
    · (try dsimp only)
      first | ((try go_split_ands); (((repeat' apply And.intro) <;> (first | ((repeat (first | (with_reducible assumption) | (with_reducible refine cell_keepD ?_) | (with_reducible refine cell_keepA ?_ _) | (with_reducible refine cell_keepS ?_ _ (by simp only []; omega)) | (with_reducible refine (hc1 _ _ (by go_size)).trans ?_))); done) | (go_cell; done))))) | fail
    clear hK K hHeld
    have hHeld := hNew
    clear hNew
    (try clear hc1)
    (try clear hf1)
    (try simp only [Act.put, List.getElem_toArray, List.getElem_cons_zero, List.getElem_cons_succ, List.setIfInBounds_toArray, List.set_cons_zero, List.set_cons_succ])
    first
      | (refine wpAnyH_take (i := 5) (v := ?_) rfl (by kernel_rfl) (by kernel_rfl) (by kernel_rfl) (fun _ _ _ h => h) (Or.inl ⟨by rfl, ?_⟩) (by assumption) ?_; rotate_left; · ((intro w hSw; (try dsimp only at hSw); go_simp); first | done | (with_reducible rfl)))
      | (refine wpAnyH_take (i := 5) (v := undef) rfl (by kernel_rfl) (by kernel_rfl) (by kernel_rfl) (fun _ _ _ h => h) (Or.inr ⟨by rfl, rfl⟩) (by assumption) ?_)
    (try simp only [Act.put, List.getElem_toArray, List.getElem_cons_zero, List.getElem_cons_succ, List.setIfInBounds_toArray, List.set_cons_zero, List.set_cons_succ])
    first
      | (refine wpAnyH_take (i := 6) (v := ?_) rfl (by kernel_rfl) (by kernel_rfl) (by kernel_rfl) (fun _ _ _ h => h) (Or.inl ⟨by rfl, ?_⟩) (by assumption) ?_; rotate_left; · ((intro w hSw; (try dsimp only at hSw); go_simp); first | done | (with_reducible rfl)))
      | (refine wpAnyH_take (i := 6) (v := undef) rfl (by kernel_rfl) (by kernel_rfl) (by kernel_rfl) (fun _ _ _ h => h) (Or.inr ⟨by rfl, rfl⟩) (by assumption) ?_)
    (try simp only [Act.put, List.getElem_toArray, List.getElem_cons_zero, List.getElem_cons_succ, List.setIfInBounds_toArray, List.set_cons_zero, List.set_cons_succ])
    first
      | (refine wpAnyH_take (i := 7) (v := ?_) rfl (by kernel_rfl) (by kernel_rfl) (by kernel_rfl) (fun _ _ _ h => h) (Or.inl ⟨by rfl, ?_⟩) (by assumption) ?_; rotate_left; · ((intro w hSw; (try dsimp only at hSw); go_simp); first | done | (with_reducible rfl)))
      | (refine wpAnyH_take (i := 7) (v := undef) rfl (by kernel_rfl) (by kernel_rfl) (by kernel_rfl) (fun _ _ _ h => h) (Or.inr ⟨by rfl, rfl⟩) (by assumption) ?_)
    (try simp only [Act.put, List.getElem_toArray, List.getElem_cons_zero, List.getElem_cons_succ, List.setIfInBounds_toArray, List.set_cons_zero, List.set_cons_succ])
    refine wpAnyH_ready (rs := [8]) (by kernel_rfl) (by simp) (AllReadyH.cons rfl (fun K hK => ?_) AllReadyH.nil)
    (try go_simp)
    first
      | (refine hK.out _ _ ?_ (fun hNew => ?_))
      | (((first | (go_at_call 20; refine (MixColor_s0 _ _ _ _ _ _ _ _ _ _ HH.out).mono ?_; rintro e wz ⟨rfl, hbz⟩; obtain ⟨hc1, hf1⟩ := bcell hbz; have hz1 := hbz.size; (try simp only [World.size_alloc, World.size_setCell, World.size_drew] at hz1); have z0a : w1.heap.size < wz.heap.size := (by omega); have z0b : w1.heap.size < wz.heap.size + 1 := (by omega); have z0c : w1.heap.size < wz.heap.size + 1 + 1 := (by omega); have z0d : w1.heap.size < wz.heap.size + 1 + 1 + 1 := (by omega); have z1a : w1.heap.size + 1 < wz.heap.size := (by omega); have z1b : w1.heap.size + 1 < wz.heap.size + 1 := (by omega); have z1c : w1.heap.size + 1 < wz.heap.size + 1 + 1 := (by omega); have z1d : w1.heap.size + 1 < wz.heap.size + 1 + 1 + 1 := (by omega); have z2a : w2.heap.size < wz.heap.size := (by omega); have z2b : w2.heap.size < wz.heap.size + 1 := (by omega); have z2c : w2.heap.size < wz.heap.size + 1 + 1 := (by omega); have z2d : w2.heap.size < wz.heap.size + 1 + 1 + 1 := (by omega); have BZ : Below w.heap.size w wz := below_then (by first | (have hhh := HB3.out; go_grown; done) | (have hhh := HB2.out; go_grown; done) | fail) hbz; clear hbz) | (go_at_call 16; refine (ValidColor_i _ _ _ _ _).mono ?_; rintro e wz ⟨rfl, rfl⟩))); (try go_wp2_with fail); (refine hK.out _ _ ?_ (fun hNew => ?_)))
      | fail
    · (try dsimp only)
      first | ((try go_split_ands); (((repeat' apply And.intro) <;> (first | ((repeat (first | (with_reducible assumption) | (with_reducible refine cell_keepD ?_) | (with_reducible refine cell_keepA ?_ _) | (with_reducible refine cell_keepS ?_ _ (by simp only []; omega)) | (with_reducible refine (hc1 _ _ (by go_size)).trans ?_))); done) | (go_cell; done))))) | fail
    clear hK K hHeld
    have hHeld := hNew
    clear hNew
    (try clear hc1)
    (try clear hf1)
    (try simp only [Act.put, List.getElem_toArray, List.getElem_cons_zero, List.getElem_cons_succ, List.setIfInBounds_toArray, List.set_cons_zero, List.set_cons_succ])
    first
      | (refine wpAnyH_take (i := 9) (v := ?_) rfl (by kernel_rfl) (by kernel_rfl) (by kernel_rfl) (fun _ _ _ h => h) (Or.inl ⟨by rfl, ?_⟩) (by assumption) ?_; rotate_left; · ((intro w hSw; (try dsimp only at hSw); go_simp); first | done | (with_reducible rfl)))
      | (refine wpAnyH_take (i := 9) (v := undef) rfl (by kernel_rfl) (by kernel_rfl) (by kernel_rfl) (fun _ _ _ h => h) (Or.inr ⟨by rfl, rfl⟩) (by assumption) ?_)
    (try simp only [Act.put, List.getElem_toArray, List.getElem_cons_zero, List.getElem_cons_succ, List.setIfInBounds_toArray, List.set_cons_zero, List.set_cons_succ])
    first
      | (refine wpAnyH_take (i := 10) (v := ?_) rfl (by kernel_rfl) (by kernel_rfl) (by kernel_rfl) (fun _ _ _ h => h) (Or.inl ⟨by rfl, ?_⟩) (by assumption) ?_; rotate_left; · ((intro w hSw; (try dsimp only at hSw); go_simp); first | done | (with_reducible rfl)))
      | (refine wpAnyH_take (i := 10) (v := undef) rfl (by kernel_rfl) (by kernel_rfl) (by kernel_rfl) (fun _ _ _ h => h) (Or.inr ⟨by rfl, rfl⟩) (by assumption) ?_)
    (try simp only [Act.put, List.getElem_toArray, List.getElem_cons_zero, List.getElem_cons_succ, List.setIfInBounds_toArray, List.set_cons_zero, List.set_cons_succ])
    first
      | (refine wpAnyH_take (i := 11) (v := ?_) rfl (by kernel_rfl) (by kernel_rfl) (by kernel_rfl) (fun _ _ _ h => h) (Or.inl ⟨by rfl, ?_⟩) (by assumption) ?_; rotate_left; · ((intro w hSw; (try dsimp only at hSw); go_simp); first | done | (with_reducible rfl)))
      | (refine wpAnyH_take (i := 11) (v := undef) rfl (by kernel_rfl) (by kernel_rfl) (by kernel_rfl) (fun _ _ _ h => h) (Or.inr ⟨by rfl, rfl⟩) (by assumption) ?_)
    (try simp only [Act.put, List.getElem_toArray, List.getElem_cons_zero, List.getElem_cons_succ, List.setIfInBounds_toArray, List.set_cons_zero, List.set_cons_succ])
    first
      | (refine wpAnyH_take (i := 12) (v := ?_) rfl (by kernel_rfl) (by kernel_rfl) (by kernel_rfl) (fun _ _ _ h => h) (Or.inl ⟨by rfl, ?_⟩) (by assumption) ?_; rotate_left; · ((intro w hSw; (try dsimp only at hSw); go_simp); first | done | (with_reducible rfl)))
      | (refine wpAnyH_take (i := 12) (v := undef) rfl (by kernel_rfl) (by kernel_rfl) (by kernel_rfl) (fun _ _ _ h => h) (Or.inr ⟨by rfl, rfl⟩) (by assumption) ?_)
    (try simp only [Act.put, List.getElem_toArray, List.getElem_cons_zero, List.getElem_cons_succ, List.setIfInBounds_toArray, List.set_cons_zero, List.set_cons_succ])
    refine wpAnyH_ready (rs := [13]) (by kernel_rfl) (by simp) (AllReadyH.cons rfl (fun K hK => ?_) AllReadyH.nil)
    (try go_simp)
    first
      | (refine hK.out _ _ ?_ (fun hNew => ?_))
      | (((first | (go_at_call 20; refine (MixColor_s0 _ _ _ _ _ _ _ _ _ _ HH.out).mono ?_; rintro e wz ⟨rfl, hbz⟩; obtain ⟨hc1, hf1⟩ := bcell hbz; have hz1 := hbz.size; (try simp only [World.size_alloc, World.size_setCell, World.size_drew] at hz1); have z0a : w1.heap.size < wz.heap.size := (by omega); have z0b : w1.heap.size < wz.heap.size + 1 := (by omega); have z0c : w1.heap.size < wz.heap.size + 1 + 1 := (by omega); have z0d : w1.heap.size < wz.heap.size + 1 + 1 + 1 := (by omega); have z1a : w1.heap.size + 1 < wz.heap.size := (by omega); have z1b : w1.heap.size + 1 < wz.heap.size + 1 := (by omega); have z1c : w1.heap.size + 1 < wz.heap.size + 1 + 1 := (by omega); have z1d : w1.heap.size + 1 < wz.heap.size + 1 + 1 + 1 := (by omega); have z2a : w2.heap.size < wz.heap.size := (by omega); have z2b : w2.heap.size < wz.heap.size + 1 := (by omega); have z2c : w2.heap.size < wz.heap.size + 1 + 1 := (by omega); have z2d : w2.heap.size < wz.heap.size + 1 + 1 + 1 := (by omega); have BZ : Below w.heap.size w wz := below_then (by first | (have hhh := HB3.out; go_grown; done) | (have hhh := HB2.out; go_grown; done) | fail) hbz; clear hbz) | (go_at_call 16; refine (ValidColor_i _ _ _ _ _).mono ?_; rintro e wz ⟨rfl, rfl⟩))); (try go_wp2_with fail); (refine hK.out _ _ ?_ (fun hNew => ?_)))
      | fail
    · (try dsimp only)
      first | ((try go_split_ands); (((repeat' apply And.intro) <;> (first | ((repeat (first | (with_reducible assumption) | (with_reducible refine cell_keepD ?_) | (with_reducible refine cell_keepA ?_ _) | (with_reducible refine cell_keepS ?_ _ (by simp only []; omega)) | (with_reducible refine (hc1 _ _ (by go_size)).trans ?_))); done) | (go_cell; done))))) | fail
    clear hK K hHeld
    have hHeld := hNew
    clear hNew
    (try clear hc1)
    (try clear hf1)
    (try simp only [Act.put, List.getElem_toArray, List.getElem_cons_zero, List.getElem_cons_succ, List.setIfInBounds_toArray, List.set_cons_zero, List.set_cons_succ])
    first
      | (refine wpAnyH_take (i := 14) (v := ?_) rfl (by kernel_rfl) (by kernel_rfl) (by kernel_rfl) (fun _ _ _ h => h) (Or.inl ⟨by rfl, ?_⟩) (by assumption) ?_; rotate_left; · ((intro w hSw; (try dsimp only at hSw); go_simp); first | done | (with_reducible rfl)))
      | (refine wpAnyH_take (i := 14) (v := undef) rfl (by kernel_rfl) (by kernel_rfl) (by kernel_rfl) (fun _ _ _ h => h) (Or.inr ⟨by rfl, rfl⟩) (by assumption) ?_)
    (try simp only [Act.put, List.getElem_toArray, List.getElem_cons_zero, List.getElem_cons_succ, List.setIfInBounds_toArray, List.set_cons_zero, List.set_cons_succ])
    first
      | (refine wpAnyH_take (i := 15) (v := ?_) rfl (by kernel_rfl) (by kernel_rfl) (by kernel_rfl) (fun _ _ _ h => h) (Or.inl ⟨by rfl, ?_⟩) (by assumption) ?_; rotate_left; · ((intro w hSw; (try dsimp only at hSw); go_simp); first | done | (with_reducible rfl)))
      | (refine wpAnyH_take (i := 15) (v := undef) rfl (by kernel_rfl) (by kernel_rfl) (by kernel_rfl) (fun _ _ _ h => h) (Or.inr ⟨by rfl, rfl⟩) (by assumption) ?_)
    (try simp only [Act.put, List.getElem_toArray, List.getElem_cons_zero, List.getElem_cons_succ, List.setIfInBounds_toArray, List.set_cons_zero, List.set_cons_succ])
    first
      | (refine wpAnyH_take (i := 16) (v := ?_) rfl (by kernel_rfl) (by kernel_rfl) (by kernel_rfl) (fun _ _ _ h => h) (Or.inl ⟨by rfl, ?_⟩) (by assumption) ?_; rotate_left; · ((intro w hSw; (try dsimp only at hSw); go_simp); first | done | (with_reducible rfl)))
      | (refine wpAnyH_take (i := 16) (v := undef) rfl (by kernel_rfl) (by kernel_rfl) (by kernel_rfl) (fun _ _ _ h => h) (Or.inr ⟨by rfl, rfl⟩) (by assumption) ?_)
    (try simp only [Act.put, List.getElem_toArray, List.getElem_cons_zero, List.getElem_cons_succ, List.setIfInBounds_toArray, List.set_cons_zero, List.set_cons_succ])
    first
      | (refine wpAnyH_take (i := 17) (v := ?_) rfl (by kernel_rfl) (by kernel_rfl) (by kernel_rfl) (fun _ _ _ h => h) (Or.inl ⟨by rfl, ?_⟩) (by assumption) ?_; rotate_left; · ((intro w hSw; (try dsimp only at hSw); go_simp); first | done | (with_reducible rfl)))
      | (refine wpAnyH_take (i := 17) (v := undef) rfl (by kernel_rfl) (by kernel_rfl) (by kernel_rfl) (fun _ _ _ h => h) (Or.inr ⟨by rfl, rfl⟩) (by assumption) ?_)
    (try simp only [Act.put, List.getElem_toArray, List.getElem_cons_zero, List.getElem_cons_succ, List.setIfInBounds_toArray, List.set_cons_zero, List.set_cons_succ])
    first
      | (refine wpAnyH_take (i := 18) (v := ?_) rfl (by kernel_rfl) (by kernel_rfl) (by kernel_rfl) (fun _ _ _ h => h) (Or.inl ⟨by rfl, ?_⟩) (by assumption) ?_; rotate_left; · ((intro w hSw; (try dsimp only at hSw); go_simp); first | done | (with_reducible rfl)))
      | (refine wpAnyH_take (i := 18) (v := undef) rfl (by kernel_rfl) (by kernel_rfl) (by kernel_rfl) (fun _ _ _ h => h) (Or.inr ⟨by rfl, rfl⟩) (by assumption) ?_)
    (try simp only [Act.put, List.getElem_toArray, List.getElem_cons_zero, List.getElem_cons_succ, List.setIfInBounds_toArray, List.set_cons_zero, List.set_cons_succ])
    first
      | (refine wpAnyH_take (i := 19) (v := ?_) rfl (by kernel_rfl) (by kernel_rfl) (by kernel_rfl) (fun _ _ _ h => h) (Or.inl ⟨by rfl, ?_⟩) (by assumption) ?_; rotate_left; · ((intro w hSw; (try dsimp only at hSw); go_simp); first | done | (with_reducible rfl)))
      | (refine wpAnyH_take (i := 19) (v := undef) rfl (by kernel_rfl) (by kernel_rfl) (by kernel_rfl) (fun _ _ _ h => h) (Or.inr ⟨by rfl, rfl⟩) (by assumption) ?_)
    (try simp only [Act.put, List.getElem_toArray, List.getElem_cons_zero, List.getElem_cons_succ, List.setIfInBounds_toArray, List.set_cons_zero, List.set_cons_succ])
    first
      | (refine wpAnyH_take (i := 20) (v := ?_) rfl (by kernel_rfl) (by kernel_rfl) (by kernel_rfl) (fun _ _ _ h => h) (Or.inl ⟨by rfl, ?_⟩) (by assumption) ?_; rotate_left; · ((intro w hSw; (try dsimp only at hSw); go_simp); first | done | (with_reducible rfl)))
      | (refine wpAnyH_take (i := 20) (v := undef) rfl (by kernel_rfl) (by kernel_rfl) (by kernel_rfl) (fun _ _ _ h => h) (Or.inr ⟨by rfl, rfl⟩) (by assumption) ?_)
    (try simp only [Act.put, List.getElem_toArray, List.getElem_cons_zero, List.getElem_cons_succ, List.setIfInBounds_toArray, List.set_cons_zero, List.set_cons_succ])
    first
      | (refine wpAnyH_take (i := 21) (v := ?_) rfl (by kernel_rfl) (by kernel_rfl) (by kernel_rfl) (fun _ _ _ h => h) (Or.inl ⟨by rfl, ?_⟩) (by assumption) ?_; rotate_left; · ((intro w hSw; (try dsimp only at hSw); go_simp); first | done | (with_reducible rfl)))
      | (refine wpAnyH_take (i := 21) (v := undef) rfl (by kernel_rfl) (by kernel_rfl) (by kernel_rfl) (fun _ _ _ h => h) (Or.inr ⟨by rfl, rfl⟩) (by assumption) ?_)
    (try simp only [Act.put, List.getElem_toArray, List.getElem_cons_zero, List.getElem_cons_succ, List.setIfInBounds_toArray, List.set_cons_zero, List.set_cons_succ])
    first
      | (refine wpAnyH_take (i := 22) (v := ?_) rfl (by kernel_rfl) (by kernel_rfl) (by kernel_rfl) (fun _ _ _ h => h) (Or.inl ⟨by rfl, ?_⟩) (by assumption) ?_; rotate_left; · ((intro w hSw; (try dsimp only at hSw); go_simp); first | done | (with_reducible rfl)))
      | (refine wpAnyH_take (i := 22) (v := undef) rfl (by kernel_rfl) (by kernel_rfl) (by kernel_rfl) (fun _ _ _ h => h) (Or.inr ⟨by rfl, rfl⟩) (by assumption) ?_)
    (try simp only [Act.put, List.getElem_toArray, List.getElem_cons_zero, List.getElem_cons_succ, List.setIfInBounds_toArray, List.set_cons_zero, List.set_cons_succ])
    first
      | (refine wpAnyH_take (i := 23) (v := ?_) rfl (by kernel_rfl) (by kernel_rfl) (by kernel_rfl) (fun _ _ _ h => h) (Or.inl ⟨by rfl, ?_⟩) (by assumption) ?_; rotate_left; · ((intro w hSw; (try dsimp only at hSw); go_simp); first | done | (with_reducible rfl)))
      | (refine wpAnyH_take (i := 23) (v := undef) rfl (by kernel_rfl) (by kernel_rfl) (by kernel_rfl) (fun _ _ _ h => h) (Or.inr ⟨by rfl, rfl⟩) (by assumption) ?_)
    (try simp only [Act.put, List.getElem_toArray, List.getElem_cons_zero, List.getElem_cons_succ, List.setIfInBounds_toArray, List.set_cons_zero, List.set_cons_succ])
    (try dsimp only at hHeld)
    obtain ⟨s5_0, s5_1, s5_2, s5_3, s5_4, s5_5, s5_6, s5_7, s5_8, s5_9, s5_10, s5_11⟩ := hHeld
    refine wpAnyH_done (by kernel_rfl) ?_ _
    go_wp2_with fail
    refine wp_region_held_drew (S := fun w' => w'.cell? ⟨w1.heap.size, 0, none⟩ = some (.int .i64 r) ∧ w'.cell? ⟨w1.heap.size, 1, none⟩ = some (.int .i64 g) ∧ w'.cell? ⟨w1.heap.size, 2, none⟩ = some (.int .i64 b) ∧ w'.cell? ⟨w1.heap.size, 3, none⟩ = some (.int .i64 a) ∧ w'.cell? ⟨w1.heap.size + 1, 0, none⟩ = some (.int .i64 r') ∧ w'.cell? ⟨w1.heap.size + 1, 1, none⟩ = some (.int .i64 g') ∧ w'.cell? ⟨w1.heap.size + 1, 2, none⟩ = some (.int .i64 b') ∧ w'.cell? ⟨w1.heap.size + 1, 3, none⟩ = some (.int .i64 a') ∧ w'.cell? ⟨w2.heap.size, 0, none⟩ = some (.int .i64 0) ∧ w'.cell? ⟨w2.heap.size, 1, none⟩ = some (.int .i64 0) ∧ w'.cell? ⟨w2.heap.size, 2, none⟩ = some (.int .i64 0) ∧ w'.cell? ⟨w2.heap.size, 3, none⟩ = some (.int .i64 0)) (by kernel_rfl) ?_ (fun hHeld => ?_)
    · (try dsimp only)
      first | (((repeat' apply And.intro) <;> (first | ((repeat (first | (with_reducible assumption) | (with_reducible refine cell_keepD ?_) | (with_reducible refine cell_keepA ?_ _) | (with_reducible refine cell_keepS ?_ _ (by simp only []; omega)) | (with_reducible refine (hc1 _ _ (by go_size)).trans ?_))); done) | (go_cell; done)))) | fail
    (try clear cA2_0)
    (try clear cA2_1)
    (try clear cA2_2)
    (try clear cA2_3)
    (try clear cB2_0)
    (try clear cB2_1)
    (try clear cB2_2)
    (try clear cB2_3)
    (try clear cC2_0)
    (try clear cC2_1)
    (try clear cC2_2)
    (try clear cC2_3)
    (try clear fA2_0)
    (try clear fA2_1)
    (try clear fA2_2)
    (try clear fA2_3)
    (try clear fB2_0)
    (try clear fB2_1)
    (try clear fB2_2)
    (try clear fB2_3)
    (try clear fC2_0)
    (try clear fC2_1)
    (try clear fC2_2)
    (try clear fC2_3)
    (try clear s5_0)
    (try clear s5_1)
    (try clear s5_2)
    (try clear s5_3)
    (try clear s5_4)
    (try clear s5_5)
    (try clear s5_6)
    (try clear s5_7)
    (try clear s5_8)
    (try clear s5_9)
    (try clear s5_10)
    (try clear s5_11)
    first
      | (refine wpAnyH_take (i := 0) (v := ?_) rfl (by kernel_rfl) (by kernel_rfl) (by kernel_rfl) (fun _ _ _ h => h) (Or.inl ⟨by rfl, ?_⟩) (by assumption) ?_; rotate_left; · ((intro w hSw; (try dsimp only at hSw); go_simp); first | done | (with_reducible rfl)))
      | (refine wpAnyH_take (i := 0) (v := undef) rfl (by kernel_rfl) (by kernel_rfl) (by kernel_rfl) (fun _ _ _ h => h) (Or.inr ⟨by rfl, rfl⟩) (by assumption) ?_)
    (try simp only [Act.put, List.getElem_toArray, List.getElem_cons_zero, List.getElem_cons_succ, List.setIfInBounds_toArray, List.set_cons_zero, List.set_cons_succ])
    first
      | (refine wpAnyH_take (i := 1) (v := ?_) rfl (by kernel_rfl) (by kernel_rfl) (by kernel_rfl) (fun _ _ _ h => h) (Or.inl ⟨by rfl, ?_⟩) (by assumption) ?_; rotate_left; · ((intro w hSw; (try dsimp only at hSw); go_simp); first | done | (with_reducible rfl)))
      | (refine wpAnyH_take (i := 1) (v := undef) rfl (by kernel_rfl) (by kernel_rfl) (by kernel_rfl) (fun _ _ _ h => h) (Or.inr ⟨by rfl, rfl⟩) (by assumption) ?_)
    (try simp only [Act.put, List.getElem_toArray, List.getElem_cons_zero, List.getElem_cons_succ, List.setIfInBounds_toArray, List.set_cons_zero, List.set_cons_succ])
    first
      | (refine wpAnyH_take (i := 2) (v := ?_) rfl (by kernel_rfl) (by kernel_rfl) (by kernel_rfl) (fun _ _ _ h => h) (Or.inl ⟨by rfl, ?_⟩) (by assumption) ?_; rotate_left; · ((intro w hSw; (try dsimp only at hSw); go_simp); first | done | (with_reducible rfl)))
      | (refine wpAnyH_take (i := 2) (v := undef) rfl (by kernel_rfl) (by kernel_rfl) (by kernel_rfl) (fun _ _ _ h => h) (Or.inr ⟨by rfl, rfl⟩) (by assumption) ?_)
    (try simp only [Act.put, List.getElem_toArray, List.getElem_cons_zero, List.getElem_cons_succ, List.setIfInBounds_toArray, List.set_cons_zero, List.set_cons_succ])
    first
      | (refine wpAnyH_take (i := 3) (v := ?_) rfl (by kernel_rfl) (by kernel_rfl) (by kernel_rfl) (fun _ _ _ h => h) (Or.inl ⟨by rfl, ?_⟩) (by assumption) ?_; rotate_left; · ((intro w hSw; (try dsimp only at hSw); go_simp); first | done | (with_reducible rfl)))
      | (refine wpAnyH_take (i := 3) (v := undef) rfl (by kernel_rfl) (by kernel_rfl) (by kernel_rfl) (fun _ _ _ h => h) (Or.inr ⟨by rfl, rfl⟩) (by assumption) ?_)
    (try simp only [Act.put, List.getElem_toArray, List.getElem_cons_zero, List.getElem_cons_succ, List.setIfInBounds_toArray, List.set_cons_zero, List.set_cons_succ])
    refine wpAnyH_ready (rs := [4]) (by kernel_rfl) (by simp) (AllReadyH.cons rfl (fun K hK => ?_) AllReadyH.nil)
    (try go_simp)
    first
      | (refine hK.out _ _ ?_ (fun hNew => ?_))
      | (((first | (go_at_call 20; refine (MixColor_s0 _ _ _ _ _ _ _ _ _ _ HH.out).mono ?_; rintro e wz ⟨rfl, hbz⟩; obtain ⟨hc1, hf1⟩ := bcell hbz; have hz1 := hbz.size; (try simp only [World.size_alloc, World.size_setCell, World.size_drew] at hz1); have z0a : w1.heap.size < wz.heap.size := (by omega); have z0b : w1.heap.size < wz.heap.size + 1 := (by omega); have z0c : w1.heap.size < wz.heap.size + 1 + 1 := (by omega); have z0d : w1.heap.size < wz.heap.size + 1 + 1 + 1 := (by omega); have z1a : w1.heap.size + 1 < wz.heap.size := (by omega); have z1b : w1.heap.size + 1 < wz.heap.size + 1 := (by omega); have z1c : w1.heap.size + 1 < wz.heap.size + 1 + 1 := (by omega); have z1d : w1.heap.size + 1 < wz.heap.size + 1 + 1 + 1 := (by omega); have z2a : w2.heap.size < wz.heap.size := (by omega); have z2b : w2.heap.size < wz.heap.size + 1 := (by omega); have z2c : w2.heap.size < wz.heap.size + 1 + 1 := (by omega); have z2d : w2.heap.size < wz.heap.size + 1 + 1 + 1 := (by omega); have BZ : Below w.heap.size w wz := below_then (by first | (have hhh := HB3.out; go_grown; done) | (have hhh := HB2.out; go_grown; done) | fail) hbz; clear hbz) | (go_at_call 16; refine (ValidColor_i _ _ _ _ _).mono ?_; rintro e wz ⟨rfl, rfl⟩))); (try go_wp2_with fail); (refine hK.out _ _ ?_ (fun hNew => ?_)))
      | fail
    · (try dsimp only)
      first | ((try go_split_ands); (((repeat' apply And.intro) <;> (first | ((repeat (first | (with_reducible assumption) | (with_reducible refine cell_keepD ?_) | (with_reducible refine cell_keepA ?_ _) | (with_reducible refine cell_keepS ?_ _ (by simp only []; omega)) | (with_reducible refine (hc1 _ _ (by go_size)).trans ?_))); done) | (go_cell; done))))) | fail
    clear hK K hHeld
    have hHeld := hNew
    clear hNew
    (try clear hc1)
    (try clear hf1)
    (try simp only [Act.put, List.getElem_toArray, List.getElem_cons_zero, List.getElem_cons_succ, List.setIfInBounds_toArray, List.set_cons_zero, List.set_cons_succ])
    first
      | (refine wpAnyH_take (i := 5) (v := ?_) rfl (by kernel_rfl) (by kernel_rfl) (by kernel_rfl) (fun _ _ _ h => h) (Or.inl ⟨by rfl, ?_⟩) (by assumption) ?_; rotate_left; · ((intro w hSw; (try dsimp only at hSw); go_simp); first | done | (with_reducible rfl)))
      | (refine wpAnyH_take (i := 5) (v := undef) rfl (by kernel_rfl) (by kernel_rfl) (by kernel_rfl) (fun _ _ _ h => h) (Or.inr ⟨by rfl, rfl⟩) (by assumption) ?_)
    (try simp only [Act.put, List.getElem_toArray, List.getElem_cons_zero, List.getElem_cons_succ, List.setIfInBounds_toArray, List.set_cons_zero, List.set_cons_succ])
    first
      | (refine wpAnyH_take (i := 6) (v := ?_) rfl (by kernel_rfl) (by kernel_rfl) (by kernel_rfl) (fun _ _ _ h => h) (Or.inl ⟨by rfl, ?_⟩) (by assumption) ?_; rotate_left; · ((intro w hSw; (try dsimp only at hSw); go_simp); first | done | (with_reducible rfl)))
      | (refine wpAnyH_take (i := 6) (v := undef) rfl (by kernel_rfl) (by kernel_rfl) (by kernel_rfl) (fun _ _ _ h => h) (Or.inr ⟨by rfl, rfl⟩) (by assumption) ?_)
    (try simp only [Act.put, List.getElem_toArray, List.getElem_cons_zero, List.getElem_cons_succ, List.setIfInBounds_toArray, List.set_cons_zero, List.set_cons_succ])
    (try dsimp only at hHeld)
    obtain ⟨s6_0, s6_1, s6_2, s6_3, s6_4, s6_5, s6_6, s6_7, s6_8, s6_9, s6_10, s6_11⟩ := hHeld
    refine wpAnyH_done (by kernel_rfl) ?_ _
    go_wp2_with (first | (go_at_call 16; refine (ValidColor_i _ _ _ _ _).mono ?_; rintro e wz ⟨rfl, rfl⟩) | fail)
    all_goals
      go_ret
      exact ⟨ret_b (by first | rfl | (simp; done) | (simp [*]; done) | (simp; omega)), by have hhh := HB2.out; go_grown⟩
  cases h2 : colB r' g' b' a'
  · have HHx : (colB r g b a && colB r' g' b' a' && inB t 0 256) = false := by simp [h1, h2]
    have HH := Lib.hid HHx
    clear HHx
    go_wp2_with fail
    refine (MixColor_i0 _ _ _ _ _ _ _ _ _ _ HH.out).mono ?_
    rintro e w2 ⟨rfl, hb2⟩
    have A2 := Lib.hid (show Row w2 (w1.heap.size) 25 4 (col r g b a) from Row.below (Row.alloc (row_col1 _ _ _ _ _ _ _ (by go_size)) _) hb2 (by go_size))
    have B2 := Lib.hid (show Row w2 (w1.heap.size + 1) 25 4 (col r' g' b' a') from Row.below (row_col1 _ _ _ _ _ _ _ (by go_size)) hb2 (by go_size))
    have HB2 := Lib.hid (show Below w.heap.size w w2 from below_then (by have hhh := HB1.out; go_grown) hb2)
    have hs2 := hb2.size
    (try simp only [World.size_alloc, World.size_setCell, World.size_drew] at hs2)
    clear hb2
    obtain ⟨⟨cA2_0, cA2_1, cA2_2, cA2_3⟩, fA2_0, fA2_1, fA2_2, fA2_3⟩ := col_cells A2.out
    obtain ⟨⟨cB2_0, cB2_1, cB2_2, cB2_3⟩, fB2_0, fB2_1, fB2_2, fB2_3⟩ := col_cells B2.out
    go_wp2_with fail
    refine wp_region_held_drew (S := fun w' => w'.cell? ⟨w1.heap.size, 0, none⟩ = some (.int .i64 r) ∧ w'.cell? ⟨w1.heap.size, 1, none⟩ = some (.int .i64 g) ∧ w'.cell? ⟨w1.heap.size, 2, none⟩ = some (.int .i64 b) ∧ w'.cell? ⟨w1.heap.size, 3, none⟩ = some (.int .i64 a) ∧ w'.cell? ⟨w1.heap.size + 1, 0, none⟩ = some (.int .i64 r') ∧ w'.cell? ⟨w1.heap.size + 1, 1, none⟩ = some (.int .i64 g') ∧ w'.cell? ⟨w1.heap.size + 1, 2, none⟩ = some (.int .i64 b') ∧ w'.cell? ⟨w1.heap.size + 1, 3, none⟩ = some (.int .i64 a') ∧ w'.cell? ⟨w2.heap.size, 0, none⟩ = some (.int .i64 0) ∧ w'.cell? ⟨w2.heap.size, 1, none⟩ = some (.int .i64 0) ∧ w'.cell? ⟨w2.heap.size, 2, none⟩ = some (.int .i64 0) ∧ w'.cell? ⟨w2.heap.size, 3, none⟩ = some (.int .i64 0)) (by kernel_rfl) ?_ (fun hHeld => ?_)
    · (try dsimp only)
      first | (((repeat' apply And.intro) <;> (first | ((repeat (first | (with_reducible assumption) | (with_reducible refine cell_keepD ?_) | (with_reducible refine cell_keepA ?_ _) | (with_reducible refine cell_keepS ?_ _ (by simp only []; omega)) | (with_reducible refine (hc1 _ _ (by go_size)).trans ?_))); done) | (go_cell; done)))) | fail
    (try clear cA2_0)
    (try clear cA2_1)
    (try clear cA2_2)
    (try clear cA2_3)
    (try clear cB2_0)
    (try clear cB2_1)
    (try clear cB2_2)
    (try clear cB2_3)
    (try clear cC2_0)
    (try clear cC2_1)
    (try clear cC2_2)
    (try clear cC2_3)
    (try clear fA2_0)
    (try clear fA2_1)
    (try clear fA2_2)
    (try clear fA2_3)
    (try clear fB2_0)
    (try clear fB2_1)
    (try clear fB2_2)
    (try clear fB2_3)
    (try clear fC2_0)
    (try clear fC2_1)
    (try clear fC2_2)
    (try clear fC2_3)
    first
      | (refine wpAnyH_take (i := 0) (v := ?_) rfl (by kernel_rfl) (by kernel_rfl) (by kernel_rfl) (fun _ _ _ h => h) (Or.inl ⟨by rfl, ?_⟩) (by assumption) ?_; rotate_left; · ((intro w hSw; (try dsimp only at hSw); go_simp); first | done | (with_reducible rfl)))
      | (refine wpAnyH_take (i := 0) (v := undef) rfl (by kernel_rfl) (by kernel_rfl) (by kernel_rfl) (fun _ _ _ h => h) (Or.inr ⟨by rfl, rfl⟩) (by assumption) ?_)
    (try simp only [Act.put, List.getElem_toArray, List.getElem_cons_zero, List.getElem_cons_succ, List.setIfInBounds_toArray, List.set_cons_zero, List.set_cons_succ])
    first
      | (refine wpAnyH_take (i := 1) (v := ?_) rfl (by kernel_rfl) (by kernel_rfl) (by kernel_rfl) (fun _ _ _ h => h) (Or.inl ⟨by rfl, ?_⟩) (by assumption) ?_; rotate_left; · ((intro w hSw; (try dsimp only at hSw); go_simp); first | done | (with_reducible rfl)))
      | (refine wpAnyH_take (i := 1) (v := undef) rfl (by kernel_rfl) (by kernel_rfl) (by kernel_rfl) (fun _ _ _ h => h) (Or.inr ⟨by rfl, rfl⟩) (by assumption) ?_)
    (try simp only [Act.put, List.getElem_toArray, List.getElem_cons_zero, List.getElem_cons_succ, List.setIfInBounds_toArray, List.set_cons_zero, List.set_cons_succ])
    first
      | (refine wpAnyH_take (i := 2) (v := ?_) rfl (by kernel_rfl) (by kernel_rfl) (by kernel_rfl) (fun _ _ _ h => h) (Or.inl ⟨by rfl, ?_⟩) (by assumption) ?_; rotate_left; · ((intro w hSw; (try dsimp only at hSw); go_simp); first | done | (with_reducible rfl)))
      | (refine wpAnyH_take (i := 2) (v := undef) rfl (by kernel_rfl) (by kernel_rfl) (by kernel_rfl) (fun _ _ _ h => h) (Or.inr ⟨by rfl, rfl⟩) (by assumption) ?_)
    (try simp only [Act.put, List.getElem_toArray, List.getElem_cons_zero, List.getElem_cons_succ, List.setIfInBounds_toArray, List.set_cons_zero, List.set_cons_succ])
    first
      | (refine wpAnyH_take (i := 3) (v := ?_) rfl (by kernel_rfl) (by kernel_rfl) (by kernel_rfl) (fun _ _ _ h => h) (Or.inl ⟨by rfl, ?_⟩) (by assumption) ?_; rotate_left; · ((intro w hSw; (try dsimp only at hSw); go_simp); first | done | (with_reducible rfl)))
      | (refine wpAnyH_take (i := 3) (v := undef) rfl (by kernel_rfl) (by kernel_rfl) (by kernel_rfl) (fun _ _ _ h => h) (Or.inr ⟨by rfl, rfl⟩) (by assumption) ?_)
    (try simp only [Act.put, List.getElem_toArray, List.getElem_cons_zero, List.getElem_cons_succ, List.setIfInBounds_toArray, List.set_cons_zero, List.set_cons_succ])
    refine wpAnyH_ready (rs := [4]) (by kernel_rfl) (by simp) (AllReadyH.cons rfl (fun K hK => ?_) AllReadyH.nil)
    (try go_simp)
    first
      | (refine hK.out _ _ ?_ (fun hNew => ?_))
      | (((first | (go_at_call 20; refine (MixColor_s0 _ _ _ _ _ _ _ _ _ _ HH.out).mono ?_; rintro e wz ⟨rfl, hbz⟩; obtain ⟨hc1, hf1⟩ := bcell hbz; have hz1 := hbz.size; (try simp only [World.size_alloc, World.size_setCell, World.size_drew] at hz1); have z0a : w1.heap.size < wz.heap.size := (by omega); have z0b : w1.heap.size < wz.heap.size + 1 := (by omega); have z0c : w1.heap.size < wz.heap.size + 1 + 1 := (by omega); have z0d : w1.heap.size < wz.heap.size + 1 + 1 + 1 := (by omega); have z1a : w1.heap.size + 1 < wz.heap.size := (by omega); have z1b : w1.heap.size + 1 < wz.heap.size + 1 := (by omega); have z1c : w1.heap.size + 1 < wz.heap.size + 1 + 1 := (by omega); have z1d : w1.heap.size + 1 < wz.heap.size + 1 + 1 + 1 := (by omega); have z2a : w2.heap.size < wz.heap.size := (by omega); have z2b : w2.heap.size < wz.heap.size + 1 := (by omega); have z2c : w2.heap.size < wz.heap.size + 1 + 1 := (by omega); have z2d : w2.heap.size < wz.heap.size + 1 + 1 + 1 := (by omega); have BZ : Below w.heap.size w wz := below_then (by first | (have hhh := HB3.out; go_grown; done) | (have hhh := HB2.out; go_grown; done) | fail) hbz; clear hbz) | (go_at_call 16; refine (ValidColor_i _ _ _ _ _).mono ?_; rintro e wz ⟨rfl, rfl⟩))); (try go_wp2_with fail); (refine hK.out _ _ ?_ (fun hNew => ?_)))
      | fail
    · (try dsimp only)
      first | ((try go_split_ands); (((repeat' apply And.intro) <;> (first | ((repeat (first | (with_reducible assumption) | (with_reducible refine cell_keepD ?_) | (with_reducible refine cell_keepA ?_ _) | (with_reducible refine cell_keepS ?_ _ (by simp only []; omega)) | (with_reducible refine (hc1 _ _ (by go_size)).trans ?_))); done) | (go_cell; done))))) | fail
    clear hK K hHeld
    have hHeld := hNew
    clear hNew
    (try clear hc1)
    (try clear hf1)
    (try simp only [Act.put, List.getElem_toArray, List.getElem_cons_zero, List.getElem_cons_succ, List.setIfInBounds_toArray, List.set_cons_zero, List.set_cons_succ])
    first
      | (refine wpAnyH_take (i := 5) (v := ?_) rfl (by kernel_rfl) (by kernel_rfl) (by kernel_rfl) (fun _ _ _ h => h) (Or.inl ⟨by rfl, ?_⟩) (by assumption) ?_; rotate_left; · ((intro w hSw; (try dsimp only at hSw); go_simp); first | done | (with_reducible rfl)))
      | (refine wpAnyH_take (i := 5) (v := undef) rfl (by kernel_rfl) (by kernel_rfl) (by kernel_rfl) (fun _ _ _ h => h) (Or.inr ⟨by rfl, rfl⟩) (by assumption) ?_)
    (try simp only [Act.put, List.getElem_toArray, List.getElem_cons_zero, List.getElem_cons_succ, List.setIfInBounds_toArray, List.set_cons_zero, List.set_cons_succ])
    first
      | (refine wpAnyH_take (i := 6) (v := ?_) rfl (by kernel_rfl) (by kernel_rfl) (by kernel_rfl) (fun _ _ _ h => h) (Or.inl ⟨by rfl, ?_⟩) (by assumption) ?_; rotate_left; · ((intro w hSw; (try dsimp only at hSw); go_simp); first | done | (with_reducible rfl)))
      | (refine wpAnyH_take (i := 6) (v := undef) rfl (by kernel_rfl) (by kernel_rfl) (by kernel_rfl) (fun _ _ _ h => h) (Or.inr ⟨by rfl, rfl⟩) (by assumption) ?_)
    (try simp only [Act.put, List.getElem_toArray, List.getElem_cons_zero, List.getElem_cons_succ, List.setIfInBounds_toArray, List.set_cons_zero, List.set_cons_succ])
    first
      | (refine wpAnyH_take (i := 7) (v := ?_) rfl (by kernel_rfl) (by kernel_rfl) (by kernel_rfl) (fun _ _ _ h => h) (Or.inl ⟨by rfl, ?_⟩) (by assumption) ?_; rotate_left; · ((intro w hSw; (try dsimp only at hSw); go_simp); first | done | (with_reducible rfl)))
      | (refine wpAnyH_take (i := 7) (v := undef) rfl (by kernel_rfl) (by kernel_rfl) (by kernel_rfl) (fun _ _ _ h => h) (Or.inr ⟨by rfl, rfl⟩) (by assumption) ?_)
    (try simp only [Act.put, List.getElem_toArray, List.getElem_cons_zero, List.getElem_cons_succ, List.setIfInBounds_toArray, List.set_cons_zero, List.set_cons_succ])
    refine wpAnyH_ready (rs := [8]) (by kernel_rfl) (by simp) (AllReadyH.cons rfl (fun K hK => ?_) AllReadyH.nil)
    (try go_simp)
    first
      | (refine hK.out _ _ ?_ (fun hNew => ?_))
      | (((first | (go_at_call 20; refine (MixColor_s0 _ _ _ _ _ _ _ _ _ _ HH.out).mono ?_; rintro e wz ⟨rfl, hbz⟩; obtain ⟨hc1, hf1⟩ := bcell hbz; have hz1 := hbz.size; (try simp only [World.size_alloc, World.size_setCell, World.size_drew] at hz1); have z0a : w1.heap.size < wz.heap.size := (by omega); have z0b : w1.heap.size < wz.heap.size + 1 := (by omega); have z0c : w1.heap.size < wz.heap.size + 1 + 1 := (by omega); have z0d : w1.heap.size < wz.heap.size + 1 + 1 + 1 := (by omega); have z1a : w1.heap.size + 1 < wz.heap.size := (by omega); have z1b : w1.heap.size + 1 < wz.heap.size + 1 := (by omega); have z1c : w1.heap.size + 1 < wz.heap.size + 1 + 1 := (by omega); have z1d : w1.heap.size + 1 < wz.heap.size + 1 + 1 + 1 := (by omega); have z2a : w2.heap.size < wz.heap.size := (by omega); have z2b : w2.heap.size < wz.heap.size + 1 := (by omega); have z2c : w2.heap.size < wz.heap.size + 1 + 1 := (by omega); have z2d : w2.heap.size < wz.heap.size + 1 + 1 + 1 := (by omega); have BZ : Below w.heap.size w wz := below_then (by first | (have hhh := HB3.out; go_grown; done) | (have hhh := HB2.out; go_grown; done) | fail) hbz; clear hbz) | (go_at_call 16; refine (ValidColor_i _ _ _ _ _).mono ?_; rintro e wz ⟨rfl, rfl⟩))); (try go_wp2_with fail); (refine hK.out _ _ ?_ (fun hNew => ?_)))
      | fail
    · (try dsimp only)
      first | ((try go_split_ands); (((repeat' apply And.intro) <;> (first | ((repeat (first | (with_reducible assumption) | (with_reducible refine cell_keepD ?_) | (with_reducible refine cell_keepA ?_ _) | (with_reducible refine cell_keepS ?_ _ (by simp only []; omega)) | (with_reducible refine (hc1 _ _ (by go_size)).trans ?_))); done) | (go_cell; done))))) | fail
    clear hK K hHeld
    have hHeld := hNew
    clear hNew
    (try clear hc1)
    (try clear hf1)
    (try simp only [Act.put, List.getElem_toArray, List.getElem_cons_zero, List.getElem_cons_succ, List.setIfInBounds_toArray, List.set_cons_zero, List.set_cons_succ])
    first
      | (refine wpAnyH_take (i := 9) (v := ?_) rfl (by kernel_rfl) (by kernel_rfl) (by kernel_rfl) (fun _ _ _ h => h) (Or.inl ⟨by rfl, ?_⟩) (by assumption) ?_; rotate_left; · ((intro w hSw; (try dsimp only at hSw); go_simp); first | done | (with_reducible rfl)))
      | (refine wpAnyH_take (i := 9) (v := undef) rfl (by kernel_rfl) (by kernel_rfl) (by kernel_rfl) (fun _ _ _ h => h) (Or.inr ⟨by rfl, rfl⟩) (by assumption) ?_)
    (try simp only [Act.put, List.getElem_toArray, List.getElem_cons_zero, List.getElem_cons_succ, List.setIfInBounds_toArray, List.set_cons_zero, List.set_cons_succ])
    first
      | (refine wpAnyH_take (i := 10) (v := ?_) rfl (by kernel_rfl) (by kernel_rfl) (by kernel_rfl) (fun _ _ _ h => h) (Or.inl ⟨by rfl, ?_⟩) (by assumption) ?_; rotate_left; · ((intro w hSw; (try dsimp only at hSw); go_simp); first | done | (with_reducible rfl)))
      | (refine wpAnyH_take (i := 10) (v := undef) rfl (by kernel_rfl) (by kernel_rfl) (by kernel_rfl) (fun _ _ _ h => h) (Or.inr ⟨by rfl, rfl⟩) (by assumption) ?_)
    (try simp only [Act.put, List.getElem_toArray, List.getElem_cons_zero, List.getElem_cons_succ, List.setIfInBounds_toArray, List.set_cons_zero, List.set_cons_succ])
    first
      | (refine wpAnyH_take (i := 11) (v := ?_) rfl (by kernel_rfl) (by kernel_rfl) (by kernel_rfl) (fun _ _ _ h => h) (Or.inl ⟨by rfl, ?_⟩) (by assumption) ?_; rotate_left; · ((intro w hSw; (try dsimp only at hSw); go_simp); first | done | (with_reducible rfl)))
      | (refine wpAnyH_take (i := 11) (v := undef) rfl (by kernel_rfl) (by kernel_rfl) (by kernel_rfl) (fun _ _ _ h => h) (Or.inr ⟨by rfl, rfl⟩) (by assumption) ?_)
    (try simp only [Act.put, List.getElem_toArray, List.getElem_cons_zero, List.getElem_cons_succ, List.setIfInBounds_toArray, List.set_cons_zero, List.set_cons_succ])
    first
      | (refine wpAnyH_take (i := 12) (v := ?_) rfl (by kernel_rfl) (by kernel_rfl) (by kernel_rfl) (fun _ _ _ h => h) (Or.inl ⟨by rfl, ?_⟩) (by assumption) ?_; rotate_left; · ((intro w hSw; (try dsimp only at hSw); go_simp); first | done | (with_reducible rfl)))
      | (refine wpAnyH_take (i := 12) (v := undef) rfl (by kernel_rfl) (by kernel_rfl) (by kernel_rfl) (fun _ _ _ h => h) (Or.inr ⟨by rfl, rfl⟩) (by assumption) ?_)
    (try simp only [Act.put, List.getElem_toArray, List.getElem_cons_zero, List.getElem_cons_succ, List.setIfInBounds_toArray, List.set_cons_zero, List.set_cons_succ])
    refine wpAnyH_ready (rs := [13]) (by kernel_rfl) (by simp) (AllReadyH.cons rfl (fun K hK => ?_) AllReadyH.nil)
    (try go_simp)
    first
      | (refine hK.out _ _ ?_ (fun hNew => ?_))
      | (((first | (go_at_call 20; refine (MixColor_s0 _ _ _ _ _ _ _ _ _ _ HH.out).mono ?_; rintro e wz ⟨rfl, hbz⟩; obtain ⟨hc1, hf1⟩ := bcell hbz; have hz1 := hbz.size; (try simp only [World.size_alloc, World.size_setCell, World.size_drew] at hz1); have z0a : w1.heap.size < wz.heap.size := (by omega); have z0b : w1.heap.size < wz.heap.size + 1 := (by omega); have z0c : w1.heap.size < wz.heap.size + 1 + 1 := (by omega); have z0d : w1.heap.size < wz.heap.size + 1 + 1 + 1 := (by omega); have z1a : w1.heap.size + 1 < wz.heap.size := (by omega); have z1b : w1.heap.size + 1 < wz.heap.size + 1 := (by omega); have z1c : w1.heap.size + 1 < wz.heap.size + 1 + 1 := (by omega); have z1d : w1.heap.size + 1 < wz.heap.size + 1 + 1 + 1 := (by omega); have z2a : w2.heap.size < wz.heap.size := (by omega); have z2b : w2.heap.size < wz.heap.size + 1 := (by omega); have z2c : w2.heap.size < wz.heap.size + 1 + 1 := (by omega); have z2d : w2.heap.size < wz.heap.size + 1 + 1 + 1 := (by omega); have BZ : Below w.heap.size w wz := below_then (by first | (have hhh := HB3.out; go_grown; done) | (have hhh := HB2.out; go_grown; done) | fail) hbz; clear hbz) | (go_at_call 16; refine (ValidColor_i _ _ _ _ _).mono ?_; rintro e wz ⟨rfl, rfl⟩))); (try go_wp2_with fail); (refine hK.out _ _ ?_ (fun hNew => ?_)))
      | fail
    · (try dsimp only)
      first | ((try go_split_ands); (((repeat' apply And.intro) <;> (first | ((repeat (first | (with_reducible assumption) | (with_reducible refine cell_keepD ?_) | (with_reducible refine cell_keepA ?_ _) | (with_reducible refine cell_keepS ?_ _ (by simp only []; omega)) | (with_reducible refine (hc1 _ _ (by go_size)).trans ?_))); done) | (go_cell; done))))) | fail
    clear hK K hHeld
    have hHeld := hNew
    clear hNew
    (try clear hc1)
    (try clear hf1)
    (try simp only [Act.put, List.getElem_toArray, List.getElem_cons_zero, List.getElem_cons_succ, List.setIfInBounds_toArray, List.set_cons_zero, List.set_cons_succ])
    first
      | (refine wpAnyH_take (i := 14) (v := ?_) rfl (by kernel_rfl) (by kernel_rfl) (by kernel_rfl) (fun _ _ _ h => h) (Or.inl ⟨by rfl, ?_⟩) (by assumption) ?_; rotate_left; · ((intro w hSw; (try dsimp only at hSw); go_simp); first | done | (with_reducible rfl)))
      | (refine wpAnyH_take (i := 14) (v := undef) rfl (by kernel_rfl) (by kernel_rfl) (by kernel_rfl) (fun _ _ _ h => h) (Or.inr ⟨by rfl, rfl⟩) (by assumption) ?_)
    (try simp only [Act.put, List.getElem_toArray, List.getElem_cons_zero, List.getElem_cons_succ, List.setIfInBounds_toArray, List.set_cons_zero, List.set_cons_succ])
    first
      | (refine wpAnyH_take (i := 15) (v := ?_) rfl (by kernel_rfl) (by kernel_rfl) (by kernel_rfl) (fun _ _ _ h => h) (Or.inl ⟨by rfl, ?_⟩) (by assumption) ?_; rotate_left; · ((intro w hSw; (try dsimp only at hSw); go_simp); first | done | (with_reducible rfl)))
      | (refine wpAnyH_take (i := 15) (v := undef) rfl (by kernel_rfl) (by kernel_rfl) (by kernel_rfl) (fun _ _ _ h => h) (Or.inr ⟨by rfl, rfl⟩) (by assumption) ?_)
    (try simp only [Act.put, List.getElem_toArray, List.getElem_cons_zero, List.getElem_cons_succ, List.setIfInBounds_toArray, List.set_cons_zero, List.set_cons_succ])
    first
      | (refine wpAnyH_take (i := 16) (v := ?_) rfl (by kernel_rfl) (by kernel_rfl) (by kernel_rfl) (fun _ _ _ h => h) (Or.inl ⟨by rfl, ?_⟩) (by assumption) ?_; rotate_left; · ((intro w hSw; (try dsimp only at hSw); go_simp); first | done | (with_reducible rfl)))
      | (refine wpAnyH_take (i := 16) (v := undef) rfl (by kernel_rfl) (by kernel_rfl) (by kernel_rfl) (fun _ _ _ h => h) (Or.inr ⟨by rfl, rfl⟩) (by assumption) ?_)
    (try simp only [Act.put, List.getElem_toArray, List.getElem_cons_zero, List.getElem_cons_succ, List.setIfInBounds_toArray, List.set_cons_zero, List.set_cons_succ])
    first
      | (refine wpAnyH_take (i := 17) (v := ?_) rfl (by kernel_rfl) (by kernel_rfl) (by kernel_rfl) (fun _ _ _ h => h) (Or.inl ⟨by rfl, ?_⟩) (by assumption) ?_; rotate_left; · ((intro w hSw; (try dsimp only at hSw); go_simp); first | done | (with_reducible rfl)))
      | (refine wpAnyH_take (i := 17) (v := undef) rfl (by kernel_rfl) (by kernel_rfl) (by kernel_rfl) (fun _ _ _ h => h) (Or.inr ⟨by rfl, rfl⟩) (by assumption) ?_)
    (try simp only [Act.put, List.getElem_toArray, List.getElem_cons_zero, List.getElem_cons_succ, List.setIfInBounds_toArray, List.set_cons_zero, List.set_cons_succ])
    first
      | (refine wpAnyH_take (i := 18) (v := ?_) rfl (by kernel_rfl) (by kernel_rfl) (by kernel_rfl) (fun _ _ _ h => h) (Or.inl ⟨by rfl, ?_⟩) (by assumption) ?_; rotate_left; · ((intro w hSw; (try dsimp only at hSw); go_simp); first | done | (with_reducible rfl)))
      | (refine wpAnyH_take (i := 18) (v := undef) rfl (by kernel_rfl) (by kernel_rfl) (by kernel_rfl) (fun _ _ _ h => h) (Or.inr ⟨by rfl, rfl⟩) (by assumption) ?_)
    (try simp only [Act.put, List.getElem_toArray, List.getElem_cons_zero, List.getElem_cons_succ, List.setIfInBounds_toArray, List.set_cons_zero, List.set_cons_succ])
    first
      | (refine wpAnyH_take (i := 19) (v := ?_) rfl (by kernel_rfl) (by kernel_rfl) (by kernel_rfl) (fun _ _ _ h => h) (Or.inl ⟨by rfl, ?_⟩) (by assumption) ?_; rotate_left; · ((intro w hSw; (try dsimp only at hSw); go_simp); first | done | (with_reducible rfl)))
      | (refine wpAnyH_take (i := 19) (v := undef) rfl (by kernel_rfl) (by kernel_rfl) (by kernel_rfl) (fun _ _ _ h => h) (Or.inr ⟨by rfl, rfl⟩) (by assumption) ?_)
    (try simp only [Act.put, List.getElem_toArray, List.getElem_cons_zero, List.getElem_cons_succ, List.setIfInBounds_toArray, List.set_cons_zero, List.set_cons_succ])
    first
      | (refine wpAnyH_take (i := 20) (v := ?_) rfl (by kernel_rfl) (by kernel_rfl) (by kernel_rfl) (fun _ _ _ h => h) (Or.inl ⟨by rfl, ?_⟩) (by assumption) ?_; rotate_left; · ((intro w hSw; (try dsimp only at hSw); go_simp); first | done | (with_reducible rfl)))
      | (refine wpAnyH_take (i := 20) (v := undef) rfl (by kernel_rfl) (by kernel_rfl) (by kernel_rfl) (fun _ _ _ h => h) (Or.inr ⟨by rfl, rfl⟩) (by assumption) ?_)
    (try simp only [Act.put, List.getElem_toArray, List.getElem_cons_zero, List.getElem_cons_succ, List.setIfInBounds_toArray, List.set_cons_zero, List.set_cons_succ])
    first
      | (refine wpAnyH_take (i := 21) (v := ?_) rfl (by kernel_rfl) (by kernel_rfl) (by kernel_rfl) (fun _ _ _ h => h) (Or.inl ⟨by rfl, ?_⟩) (by assumption) ?_; rotate_left; · ((intro w hSw; (try dsimp only at hSw); go_simp); first | done | (with_reducible rfl)))
      | (refine wpAnyH_take (i := 21) (v := undef) rfl (by kernel_rfl) (by kernel_rfl) (by kernel_rfl) (fun _ _ _ h => h) (Or.inr ⟨by rfl, rfl⟩) (by assumption) ?_)
    (try simp only [Act.put, List.getElem_toArray, List.getElem_cons_zero, List.getElem_cons_succ, List.setIfInBounds_toArray, List.set_cons_zero, List.set_cons_succ])
    first
      | (refine wpAnyH_take (i := 22) (v := ?_) rfl (by kernel_rfl) (by kernel_rfl) (by kernel_rfl) (fun _ _ _ h => h) (Or.inl ⟨by rfl, ?_⟩) (by assumption) ?_; rotate_left; · ((intro w hSw; (try dsimp only at hSw); go_simp); first | done | (with_reducible rfl)))
      | (refine wpAnyH_take (i := 22) (v := undef) rfl (by kernel_rfl) (by kernel_rfl) (by kernel_rfl) (fun _ _ _ h => h) (Or.inr ⟨by rfl, rfl⟩) (by assumption) ?_)
    (try simp only [Act.put, List.getElem_toArray, List.getElem_cons_zero, List.getElem_cons_succ, List.setIfInBounds_toArray, List.set_cons_zero, List.set_cons_succ])
    first
      | (refine wpAnyH_take (i := 23) (v := ?_) rfl (by kernel_rfl) (by kernel_rfl) (by kernel_rfl) (fun _ _ _ h => h) (Or.inl ⟨by rfl, ?_⟩) (by assumption) ?_; rotate_left; · ((intro w hSw; (try dsimp only at hSw); go_simp); first | done | (with_reducible rfl)))
      | (refine wpAnyH_take (i := 23) (v := undef) rfl (by kernel_rfl) (by kernel_rfl) (by kernel_rfl) (fun _ _ _ h => h) (Or.inr ⟨by rfl, rfl⟩) (by assumption) ?_)
    (try simp only [Act.put, List.getElem_toArray, List.getElem_cons_zero, List.getElem_cons_succ, List.setIfInBounds_toArray, List.set_cons_zero, List.set_cons_succ])
    (try dsimp only at hHeld)
    obtain ⟨s5_0, s5_1, s5_2, s5_3, s5_4, s5_5, s5_6, s5_7, s5_8, s5_9, s5_10, s5_11⟩ := hHeld
    refine wpAnyH_done (by kernel_rfl) ?_ _
    go_wp2_with fail
    refine wp_region_held_drew (S := fun w' => w'.cell? ⟨w1.heap.size, 0, none⟩ = some (.int .i64 r) ∧ w'.cell? ⟨w1.heap.size, 1, none⟩ = some (.int .i64 g) ∧ w'.cell? ⟨w1.heap.size, 2, none⟩ = some (.int .i64 b) ∧ w'.cell? ⟨w1.heap.size, 3, none⟩ = some (.int .i64 a) ∧ w'.cell? ⟨w1.heap.size + 1, 0, none⟩ = some (.int .i64 r') ∧ w'.cell? ⟨w1.heap.size + 1, 1, none⟩ = some (.int .i64 g') ∧ w'.cell? ⟨w1.heap.size + 1, 2, none⟩ = some (.int .i64 b') ∧ w'.cell? ⟨w1.heap.size + 1, 3, none⟩ = some (.int .i64 a') ∧ w'.cell? ⟨w2.heap.size, 0, none⟩ = some (.int .i64 0) ∧ w'.cell? ⟨w2.heap.size, 1, none⟩ = some (.int .i64 0) ∧ w'.cell? ⟨w2.heap.size, 2, none⟩ = some (.int .i64 0) ∧ w'.cell? ⟨w2.heap.size, 3, none⟩ = some (.int .i64 0)) (by kernel_rfl) ?_ (fun hHeld => ?_)
    · (try dsimp only)
      first | (((repeat' apply And.intro) <;> (first | ((repeat (first | (with_reducible assumption) | (with_reducible refine cell_keepD ?_) | (with_reducible refine cell_keepA ?_ _) | (with_reducible refine cell_keepS ?_ _ (by simp only []; omega)) | (with_reducible refine (hc1 _ _ (by go_size)).trans ?_))); done) | (go_cell; done)))) | fail
    (try clear cA2_0)
    (try clear cA2_1)
    (try clear cA2_2)
    (try clear cA2_3)
    (try clear cB2_0)
    (try clear cB2_1)
    (try clear cB2_2)
    (try clear cB2_3)
    (try clear cC2_0)
    (try clear cC2_1)
    (try clear cC2_2)
    (try clear cC2_3)
    (try clear fA2_0)
    (try clear fA2_1)
    (try clear fA2_2)
    (try clear fA2_3)
    (try clear fB2_0)
    (try clear fB2_1)
    (try clear fB2_2)
    (try clear fB2_3)
    (try clear fC2_0)
    (try clear fC2_1)
    (try clear fC2_2)
    (try clear fC2_3)
    (try clear s5_0)
    (try clear s5_1)
    (try clear s5_2)
    (try clear s5_3)
    (try clear s5_4)
    (try clear s5_5)
    (try clear s5_6)
    (try clear s5_7)
    (try clear s5_8)
    (try clear s5_9)
    (try clear s5_10)
    (try clear s5_11)
    first
      | (refine wpAnyH_take (i := 0) (v := ?_) rfl (by kernel_rfl) (by kernel_rfl) (by kernel_rfl) (fun _ _ _ h => h) (Or.inl ⟨by rfl, ?_⟩) (by assumption) ?_; rotate_left; · ((intro w hSw; (try dsimp only at hSw); go_simp); first | done | (with_reducible rfl)))
      | (refine wpAnyH_take (i := 0) (v := undef) rfl (by kernel_rfl) (by kernel_rfl) (by kernel_rfl) (fun _ _ _ h => h) (Or.inr ⟨by rfl, rfl⟩) (by assumption) ?_)
    (try simp only [Act.put, List.getElem_toArray, List.getElem_cons_zero, List.getElem_cons_succ, List.setIfInBounds_toArray, List.set_cons_zero, List.set_cons_succ])
    first
      | (refine wpAnyH_take (i := 1) (v := ?_) rfl (by kernel_rfl) (by kernel_rfl) (by kernel_rfl) (fun _ _ _ h => h) (Or.inl ⟨by rfl, ?_⟩) (by assumption) ?_; rotate_left; · ((intro w hSw; (try dsimp only at hSw); go_simp); first | done | (with_reducible rfl)))
      | (refine wpAnyH_take (i := 1) (v := undef) rfl (by kernel_rfl) (by kernel_rfl) (by kernel_rfl) (fun _ _ _ h => h) (Or.inr ⟨by rfl, rfl⟩) (by assumption) ?_)
    (try simp only [Act.put, List.getElem_toArray, List.getElem_cons_zero, List.getElem_cons_succ, List.setIfInBounds_toArray, List.set_cons_zero, List.set_cons_succ])
    first
      | (refine wpAnyH_take (i := 2) (v := ?_) rfl (by kernel_rfl) (by kernel_rfl) (by kernel_rfl) (fun _ _ _ h => h) (Or.inl ⟨by rfl, ?_⟩) (by assumption) ?_; rotate_left; · ((intro w hSw; (try dsimp only at hSw); go_simp); first | done | (with_reducible rfl)))
      | (refine wpAnyH_take (i := 2) (v := undef) rfl (by kernel_rfl) (by kernel_rfl) (by kernel_rfl) (fun _ _ _ h => h) (Or.inr ⟨by rfl, rfl⟩) (by assumption) ?_)
    (try simp only [Act.put, List.getElem_toArray, List.getElem_cons_zero, List.getElem_cons_succ, List.setIfInBounds_toArray, List.set_cons_zero, List.set_cons_succ])
    first
      | (refine wpAnyH_take (i := 3) (v := ?_) rfl (by kernel_rfl) (by kernel_rfl) (by kernel_rfl) (fun _ _ _ h => h) (Or.inl ⟨by rfl, ?_⟩) (by assumption) ?_; rotate_left; · ((intro w hSw; (try dsimp only at hSw); go_simp); first | done | (with_reducible rfl)))
      | (refine wpAnyH_take (i := 3) (v := undef) rfl (by kernel_rfl) (by kernel_rfl) (by kernel_rfl) (fun _ _ _ h => h) (Or.inr ⟨by rfl, rfl⟩) (by assumption) ?_)
    (try simp only [Act.put, List.getElem_toArray, List.getElem_cons_zero, List.getElem_cons_succ, List.setIfInBounds_toArray, List.set_cons_zero, List.set_cons_succ])
    refine wpAnyH_ready (rs := [4]) (by kernel_rfl) (by simp) (AllReadyH.cons rfl (fun K hK => ?_) AllReadyH.nil)
    (try go_simp)
    first
      | (refine hK.out _ _ ?_ (fun hNew => ?_))
      | (((first | (go_at_call 20; refine (MixColor_s0 _ _ _ _ _ _ _ _ _ _ HH.out).mono ?_; rintro e wz ⟨rfl, hbz⟩; obtain ⟨hc1, hf1⟩ := bcell hbz; have hz1 := hbz.size; (try simp only [World.size_alloc, World.size_setCell, World.size_drew] at hz1); have z0a : w1.heap.size < wz.heap.size := (by omega); have z0b : w1.heap.size < wz.heap.size + 1 := (by omega); have z0c : w1.heap.size < wz.heap.size + 1 + 1 := (by omega); have z0d : w1.heap.size < wz.heap.size + 1 + 1 + 1 := (by omega); have z1a : w1.heap.size + 1 < wz.heap.size := (by omega); have z1b : w1.heap.size + 1 < wz.heap.size + 1 := (by omega); have z1c : w1.heap.size + 1 < wz.heap.size + 1 + 1 := (by omega); have z1d : w1.heap.size + 1 < wz.heap.size + 1 + 1 + 1 := (by omega); have z2a : w2.heap.size < wz.heap.size := (by omega); have z2b : w2.heap.size < wz.heap.size + 1 := (by omega); have z2c : w2.heap.size < wz.heap.size + 1 + 1 := (by omega); have z2d : w2.heap.size < wz.heap.size + 1 + 1 + 1 := (by omega); have BZ : Below w.heap.size w wz := below_then (by first | (have hhh := HB3.out; go_grown; done) | (have hhh := HB2.out; go_grown; done) | fail) hbz; clear hbz) | (go_at_call 16; refine (ValidColor_i _ _ _ _ _).mono ?_; rintro e wz ⟨rfl, rfl⟩))); (try go_wp2_with fail); (refine hK.out _ _ ?_ (fun hNew => ?_)))
      | fail
    · (try dsimp only)
      first | ((try go_split_ands); (((repeat' apply And.intro) <;> (first | ((repeat (first | (with_reducible assumption) | (with_reducible refine cell_keepD ?_) | (with_reducible refine cell_keepA ?_ _) | (with_reducible refine cell_keepS ?_ _ (by simp only []; omega)) | (with_reducible refine (hc1 _ _ (by go_size)).trans ?_))); done) | (go_cell; done))))) | fail
    clear hK K hHeld
    have hHeld := hNew
    clear hNew
    (try clear hc1)
    (try clear hf1)
    (try simp only [Act.put, List.getElem_toArray, List.getElem_cons_zero, List.getElem_cons_succ, List.setIfInBounds_toArray, List.set_cons_zero, List.set_cons_succ])
    first
      | (refine wpAnyH_take (i := 5) (v := ?_) rfl (by kernel_rfl) (by kernel_rfl) (by kernel_rfl) (fun _ _ _ h => h) (Or.inl ⟨by rfl, ?_⟩) (by assumption) ?_; rotate_left; · ((intro w hSw; (try dsimp only at hSw); go_simp); first | done | (with_reducible rfl)))
      | (refine wpAnyH_take (i := 5) (v := undef) rfl (by kernel_rfl) (by kernel_rfl) (by kernel_rfl) (fun _ _ _ h => h) (Or.inr ⟨by rfl, rfl⟩) (by assumption) ?_)
    (try simp only [Act.put, List.getElem_toArray, List.getElem_cons_zero, List.getElem_cons_succ, List.setIfInBounds_toArray, List.set_cons_zero, List.set_cons_succ])
    first
      | (refine wpAnyH_take (i := 6) (v := ?_) rfl (by kernel_rfl) (by kernel_rfl) (by kernel_rfl) (fun _ _ _ h => h) (Or.inl ⟨by rfl, ?_⟩) (by assumption) ?_; rotate_left; · ((intro w hSw; (try dsimp only at hSw); go_simp); first | done | (with_reducible rfl)))
      | (refine wpAnyH_take (i := 6) (v := undef) rfl (by kernel_rfl) (by kernel_rfl) (by kernel_rfl) (fun _ _ _ h => h) (Or.inr ⟨by rfl, rfl⟩) (by assumption) ?_)
    (try simp only [Act.put, List.getElem_toArray, List.getElem_cons_zero, List.getElem_cons_succ, List.setIfInBounds_toArray, List.set_cons_zero, List.set_cons_succ])
    (try dsimp only at hHeld)
    obtain ⟨s6_0, s6_1, s6_2, s6_3, s6_4, s6_5, s6_6, s6_7, s6_8, s6_9, s6_10, s6_11⟩ := hHeld
    refine wpAnyH_done (by kernel_rfl) ?_ _
    go_wp2_with (first | (go_at_call 16; refine (ValidColor_i _ _ _ _ _).mono ?_; rintro e wz ⟨rfl, rfl⟩) | fail)
    all_goals
      go_ret
      exact ⟨ret_b (by first | rfl | (simp; done) | (simp [*]; done) | (simp; omega)), by have hhh := HB2.out; go_grown⟩
  by_cases h3 : t < 0
  · have HHx : (colB r g b a && colB r' g' b' a' && inB t 0 256) = false := by simp [h1, h2, inB]; omega
    have HH := Lib.hid HHx
    clear HHx
    go_wp2_with fail
    refine (MixColor_i0 _ _ _ _ _ _ _ _ _ _ HH.out).mono ?_
    rintro e w2 ⟨rfl, hb2⟩
    have A2 := Lib.hid (show Row w2 (w1.heap.size) 25 4 (col r g b a) from Row.below (Row.alloc (row_col1 _ _ _ _ _ _ _ (by go_size)) _) hb2 (by go_size))
    have B2 := Lib.hid (show Row w2 (w1.heap.size + 1) 25 4 (col r' g' b' a') from Row.below (row_col1 _ _ _ _ _ _ _ (by go_size)) hb2 (by go_size))
    have HB2 := Lib.hid (show Below w.heap.size w w2 from below_then (by have hhh := HB1.out; go_grown) hb2)
    have hs2 := hb2.size
    (try simp only [World.size_alloc, World.size_setCell, World.size_drew] at hs2)
    clear hb2
    obtain ⟨⟨cA2_0, cA2_1, cA2_2, cA2_3⟩, fA2_0, fA2_1, fA2_2, fA2_3⟩ := col_cells A2.out
    obtain ⟨⟨cB2_0, cB2_1, cB2_2, cB2_3⟩, fB2_0, fB2_1, fB2_2, fB2_3⟩ := col_cells B2.out
    go_wp2_with fail
    refine wp_region_held_drew (S := fun w' => w'.cell? ⟨w1.heap.size, 0, none⟩ = some (.int .i64 r) ∧ w'.cell? ⟨w1.heap.size, 1, none⟩ = some (.int .i64 g) ∧ w'.cell? ⟨w1.heap.size, 2, none⟩ = some (.int .i64 b) ∧ w'.cell? ⟨w1.heap.size, 3, none⟩ = some (.int .i64 a) ∧ w'.cell? ⟨w1.heap.size + 1, 0, none⟩ = some (.int .i64 r') ∧ w'.cell? ⟨w1.heap.size + 1, 1, none⟩ = some (.int .i64 g') ∧ w'.cell? ⟨w1.heap.size + 1, 2, none⟩ = some (.int .i64 b') ∧ w'.cell? ⟨w1.heap.size + 1, 3, none⟩ = some (.int .i64 a') ∧ w'.cell? ⟨w2.heap.size, 0, none⟩ = some (.int .i64 0) ∧ w'.cell? ⟨w2.heap.size, 1, none⟩ = some (.int .i64 0) ∧ w'.cell? ⟨w2.heap.size, 2, none⟩ = some (.int .i64 0) ∧ w'.cell? ⟨w2.heap.size, 3, none⟩ = some (.int .i64 0)) (by kernel_rfl) ?_ (fun hHeld => ?_)
    · (try dsimp only)
      first | (((repeat' apply And.intro) <;> (first | ((repeat (first | (with_reducible assumption) | (with_reducible refine cell_keepD ?_) | (with_reducible refine cell_keepA ?_ _) | (with_reducible refine cell_keepS ?_ _ (by simp only []; omega)) | (with_reducible refine (hc1 _ _ (by go_size)).trans ?_))); done) | (go_cell; done)))) | fail
    (try clear cA2_0)
    (try clear cA2_1)
    (try clear cA2_2)
    (try clear cA2_3)
    (try clear cB2_0)
    (try clear cB2_1)
    (try clear cB2_2)
    (try clear cB2_3)
    (try clear cC2_0)
    (try clear cC2_1)
    (try clear cC2_2)
    (try clear cC2_3)
    (try clear fA2_0)
    (try clear fA2_1)
    (try clear fA2_2)
    (try clear fA2_3)
    (try clear fB2_0)
    (try clear fB2_1)
    (try clear fB2_2)
    (try clear fB2_3)
    (try clear fC2_0)
    (try clear fC2_1)
    (try clear fC2_2)
    (try clear fC2_3)
    first
      | (refine wpAnyH_take (i := 0) (v := ?_) rfl (by kernel_rfl) (by kernel_rfl) (by kernel_rfl) (fun _ _ _ h => h) (Or.inl ⟨by rfl, ?_⟩) (by assumption) ?_; rotate_left; · ((intro w hSw; (try dsimp only at hSw); go_simp); first | done | (with_reducible rfl)))
      | (refine wpAnyH_take (i := 0) (v := undef) rfl (by kernel_rfl) (by kernel_rfl) (by kernel_rfl) (fun _ _ _ h => h) (Or.inr ⟨by rfl, rfl⟩) (by assumption) ?_)
    (try simp only [Act.put, List.getElem_toArray, List.getElem_cons_zero, List.getElem_cons_succ, List.setIfInBounds_toArray, List.set_cons_zero, List.set_cons_succ])
    first
      | (refine wpAnyH_take (i := 1) (v := ?_) rfl (by kernel_rfl) (by kernel_rfl) (by kernel_rfl) (fun _ _ _ h => h) (Or.inl ⟨by rfl, ?_⟩) (by assumption) ?_; rotate_left; · ((intro w hSw; (try dsimp only at hSw); go_simp); first | done | (with_reducible rfl)))
      | (refine wpAnyH_take (i := 1) (v := undef) rfl (by kernel_rfl) (by kernel_rfl) (by kernel_rfl) (fun _ _ _ h => h) (Or.inr ⟨by rfl, rfl⟩) (by assumption) ?_)
    (try simp only [Act.put, List.getElem_toArray, List.getElem_cons_zero, List.getElem_cons_succ, List.setIfInBounds_toArray, List.set_cons_zero, List.set_cons_succ])
    first
      | (refine wpAnyH_take (i := 2) (v := ?_) rfl (by kernel_rfl) (by kernel_rfl) (by kernel_rfl) (fun _ _ _ h => h) (Or.inl ⟨by rfl, ?_⟩) (by assumption) ?_; rotate_left; · ((intro w hSw; (try dsimp only at hSw); go_simp); first | done | (with_reducible rfl)))
      | (refine wpAnyH_take (i := 2) (v := undef) rfl (by kernel_rfl) (by kernel_rfl) (by kernel_rfl) (fun _ _ _ h => h) (Or.inr ⟨by rfl, rfl⟩) (by assumption) ?_)
    (try simp only [Act.put, List.getElem_toArray, List.getElem_cons_zero, List.getElem_cons_succ, List.setIfInBounds_toArray, List.set_cons_zero, List.set_cons_succ])
    first
      | (refine wpAnyH_take (i := 3) (v := ?_) rfl (by kernel_rfl) (by kernel_rfl) (by kernel_rfl) (fun _ _ _ h => h) (Or.inl ⟨by rfl, ?_⟩) (by assumption) ?_; rotate_left; · ((intro w hSw; (try dsimp only at hSw); go_simp); first | done | (with_reducible rfl)))
      | (refine wpAnyH_take (i := 3) (v := undef) rfl (by kernel_rfl) (by kernel_rfl) (by kernel_rfl) (fun _ _ _ h => h) (Or.inr ⟨by rfl, rfl⟩) (by assumption) ?_)
    (try simp only [Act.put, List.getElem_toArray, List.getElem_cons_zero, List.getElem_cons_succ, List.setIfInBounds_toArray, List.set_cons_zero, List.set_cons_succ])
    refine wpAnyH_ready (rs := [4]) (by kernel_rfl) (by simp) (AllReadyH.cons rfl (fun K hK => ?_) AllReadyH.nil)
    (try go_simp)
    first
      | (refine hK.out _ _ ?_ (fun hNew => ?_))
      | (((first | (go_at_call 20; refine (MixColor_s0 _ _ _ _ _ _ _ _ _ _ HH.out).mono ?_; rintro e wz ⟨rfl, hbz⟩; obtain ⟨hc1, hf1⟩ := bcell hbz; have hz1 := hbz.size; (try simp only [World.size_alloc, World.size_setCell, World.size_drew] at hz1); have z0a : w1.heap.size < wz.heap.size := (by omega); have z0b : w1.heap.size < wz.heap.size + 1 := (by omega); have z0c : w1.heap.size < wz.heap.size + 1 + 1 := (by omega); have z0d : w1.heap.size < wz.heap.size + 1 + 1 + 1 := (by omega); have z1a : w1.heap.size + 1 < wz.heap.size := (by omega); have z1b : w1.heap.size + 1 < wz.heap.size + 1 := (by omega); have z1c : w1.heap.size + 1 < wz.heap.size + 1 + 1 := (by omega); have z1d : w1.heap.size + 1 < wz.heap.size + 1 + 1 + 1 := (by omega); have z2a : w2.heap.size < wz.heap.size := (by omega); have z2b : w2.heap.size < wz.heap.size + 1 := (by omega); have z2c : w2.heap.size < wz.heap.size + 1 + 1 := (by omega); have z2d : w2.heap.size < wz.heap.size + 1 + 1 + 1 := (by omega); have BZ : Below w.heap.size w wz := below_then (by first | (have hhh := HB3.out; go_grown; done) | (have hhh := HB2.out; go_grown; done) | fail) hbz; clear hbz) | (go_at_call 16; refine (ValidColor_i _ _ _ _ _).mono ?_; rintro e wz ⟨rfl, rfl⟩))); (try go_wp2_with fail); (refine hK.out _ _ ?_ (fun hNew => ?_)))
      | fail
    · (try dsimp only)
      first | ((try go_split_ands); (((repeat' apply And.intro) <;> (first | ((repeat (first | (with_reducible assumption) | (with_reducible refine cell_keepD ?_) | (with_reducible refine cell_keepA ?_ _) | (with_reducible refine cell_keepS ?_ _ (by simp only []; omega)) | (with_reducible refine (hc1 _ _ (by go_size)).trans ?_))); done) | (go_cell; done))))) | fail
    clear hK K hHeld
    have hHeld := hNew
    clear hNew
    (try clear hc1)
    (try clear hf1)
    (try simp only [Act.put, List.getElem_toArray, List.getElem_cons_zero, List.getElem_cons_succ, List.setIfInBounds_toArray, List.set_cons_zero, List.set_cons_succ])
    first
      | (refine wpAnyH_take (i := 5) (v := ?_) rfl (by kernel_rfl) (by kernel_rfl) (by kernel_rfl) (fun _ _ _ h => h) (Or.inl ⟨by rfl, ?_⟩) (by assumption) ?_; rotate_left; · ((intro w hSw; (try dsimp only at hSw); go_simp); first | done | (with_reducible rfl)))
      | (refine wpAnyH_take (i := 5) (v := undef) rfl (by kernel_rfl) (by kernel_rfl) (by kernel_rfl) (fun _ _ _ h => h) (Or.inr ⟨by rfl, rfl⟩) (by assumption) ?_)
    (try simp only [Act.put, List.getElem_toArray, List.getElem_cons_zero, List.getElem_cons_succ, List.setIfInBounds_toArray, List.set_cons_zero, List.set_cons_succ])
    first
      | (refine wpAnyH_take (i := 6) (v := ?_) rfl (by kernel_rfl) (by kernel_rfl) (by kernel_rfl) (fun _ _ _ h => h) (Or.inl ⟨by rfl, ?_⟩) (by assumption) ?_; rotate_left; · ((intro w hSw; (try dsimp only at hSw); go_simp); first | done | (with_reducible rfl)))
      | (refine wpAnyH_take (i := 6) (v := undef) rfl (by kernel_rfl) (by kernel_rfl) (by kernel_rfl) (fun _ _ _ h => h) (Or.inr ⟨by rfl, rfl⟩) (by assumption) ?_)
    (try simp only [Act.put, List.getElem_toArray, List.getElem_cons_zero, List.getElem_cons_succ, List.setIfInBounds_toArray, List.set_cons_zero, List.set_cons_succ])
    first
      | (refine wpAnyH_take (i := 7) (v := ?_) rfl (by kernel_rfl) (by kernel_rfl) (by kernel_rfl) (fun _ _ _ h => h) (Or.inl ⟨by rfl, ?_⟩) (by assumption) ?_; rotate_left; · ((intro w hSw; (try dsimp only at hSw); go_simp); first | done | (with_reducible rfl)))
      | (refine wpAnyH_take (i := 7) (v := undef) rfl (by kernel_rfl) (by kernel_rfl) (by kernel_rfl) (fun _ _ _ h => h) (Or.inr ⟨by rfl, rfl⟩) (by assumption) ?_)
    (try simp only [Act.put, List.getElem_toArray, List.getElem_cons_zero, List.getElem_cons_succ, List.setIfInBounds_toArray, List.set_cons_zero, List.set_cons_succ])
    refine wpAnyH_ready (rs := [8]) (by kernel_rfl) (by simp) (AllReadyH.cons rfl (fun K hK => ?_) AllReadyH.nil)
    (try go_simp)
    first
      | (refine hK.out _ _ ?_ (fun hNew => ?_))
      | (((first | (go_at_call 20; refine (MixColor_s0 _ _ _ _ _ _ _ _ _ _ HH.out).mono ?_; rintro e wz ⟨rfl, hbz⟩; obtain ⟨hc1, hf1⟩ := bcell hbz; have hz1 := hbz.size; (try simp only [World.size_alloc, World.size_setCell, World.size_drew] at hz1); have z0a : w1.heap.size < wz.heap.size := (by omega); have z0b : w1.heap.size < wz.heap.size + 1 := (by omega); have z0c : w1.heap.size < wz.heap.size + 1 + 1 := (by omega); have z0d : w1.heap.size < wz.heap.size + 1 + 1 + 1 := (by omega); have z1a : w1.heap.size + 1 < wz.heap.size := (by omega); have z1b : w1.heap.size + 1 < wz.heap.size + 1 := (by omega); have z1c : w1.heap.size + 1 < wz.heap.size + 1 + 1 := (by omega); have z1d : w1.heap.size + 1 < wz.heap.size + 1 + 1 + 1 := (by omega); have z2a : w2.heap.size < wz.heap.size := (by omega); have z2b : w2.heap.size < wz.heap.size + 1 := (by omega); have z2c : w2.heap.size < wz.heap.size + 1 + 1 := (by omega); have z2d : w2.heap.size < wz.heap.size + 1 + 1 + 1 := (by omega); have BZ : Below w.heap.size w wz := below_then (by first | (have hhh := HB3.out; go_grown; done) | (have hhh := HB2.out; go_grown; done) | fail) hbz; clear hbz) | (go_at_call 16; refine (ValidColor_i _ _ _ _ _).mono ?_; rintro e wz ⟨rfl, rfl⟩))); (try go_wp2_with fail); (refine hK.out _ _ ?_ (fun hNew => ?_)))
      | fail
    · (try dsimp only)
      first | ((try go_split_ands); (((repeat' apply And.intro) <;> (first | ((repeat (first | (with_reducible assumption) | (with_reducible refine cell_keepD ?_) | (with_reducible refine cell_keepA ?_ _) | (with_reducible refine cell_keepS ?_ _ (by simp only []; omega)) | (with_reducible refine (hc1 _ _ (by go_size)).trans ?_))); done) | (go_cell; done))))) | fail
    clear hK K hHeld
    have hHeld := hNew
    clear hNew
    (try clear hc1)
    (try clear hf1)
    (try simp only [Act.put, List.getElem_toArray, List.getElem_cons_zero, List.getElem_cons_succ, List.setIfInBounds_toArray, List.set_cons_zero, List.set_cons_succ])
    first
      | (refine wpAnyH_take (i := 9) (v := ?_) rfl (by kernel_rfl) (by kernel_rfl) (by kernel_rfl) (fun _ _ _ h => h) (Or.inl ⟨by rfl, ?_⟩) (by assumption) ?_; rotate_left; · ((intro w hSw; (try dsimp only at hSw); go_simp); first | done | (with_reducible rfl)))
      | (refine wpAnyH_take (i := 9) (v := undef) rfl (by kernel_rfl) (by kernel_rfl) (by kernel_rfl) (fun _ _ _ h => h) (Or.inr ⟨by rfl, rfl⟩) (by assumption) ?_)
    (try simp only [Act.put, List.getElem_toArray, List.getElem_cons_zero, List.getElem_cons_succ, List.setIfInBounds_toArray, List.set_cons_zero, List.set_cons_succ])
    first
      | (refine wpAnyH_take (i := 10) (v := ?_) rfl (by kernel_rfl) (by kernel_rfl) (by kernel_rfl) (fun _ _ _ h => h) (Or.inl ⟨by rfl, ?_⟩) (by assumption) ?_; rotate_left; · ((intro w hSw; (try dsimp only at hSw); go_simp); first | done | (with_reducible rfl)))
      | (refine wpAnyH_take (i := 10) (v := undef) rfl (by kernel_rfl) (by kernel_rfl) (by kernel_rfl) (fun _ _ _ h => h) (Or.inr ⟨by rfl, rfl⟩) (by assumption) ?_)
    (try simp only [Act.put, List.getElem_toArray, List.getElem_cons_zero, List.getElem_cons_succ, List.setIfInBounds_toArray, List.set_cons_zero, List.set_cons_succ])
    first
      | (refine wpAnyH_take (i := 11) (v := ?_) rfl (by kernel_rfl) (by kernel_rfl) (by kernel_rfl) (fun _ _ _ h => h) (Or.inl ⟨by rfl, ?_⟩) (by assumption) ?_; rotate_left; · ((intro w hSw; (try dsimp only at hSw); go_simp); first | done | (with_reducible rfl)))
      | (refine wpAnyH_take (i := 11) (v := undef) rfl (by kernel_rfl) (by kernel_rfl) (by kernel_rfl) (fun _ _ _ h => h) (Or.inr ⟨by rfl, rfl⟩) (by assumption) ?_)
    (try simp only [Act.put, List.getElem_toArray, List.getElem_cons_zero, List.getElem_cons_succ, List.setIfInBounds_toArray, List.set_cons_zero, List.set_cons_succ])
    first
      | (refine wpAnyH_take (i := 12) (v := ?_) rfl (by kernel_rfl) (by kernel_rfl) (by kernel_rfl) (fun _ _ _ h => h) (Or.inl ⟨by rfl, ?_⟩) (by assumption) ?_; rotate_left; · ((intro w hSw; (try dsimp only at hSw); go_simp); first | done | (with_reducible rfl)))
      | (refine wpAnyH_take (i := 12) (v := undef) rfl (by kernel_rfl) (by kernel_rfl) (by kernel_rfl) (fun _ _ _ h => h) (Or.inr ⟨by rfl, rfl⟩) (by assumption) ?_)
    (try simp only [Act.put, List.getElem_toArray, List.getElem_cons_zero, List.getElem_cons_succ, List.setIfInBounds_toArray, List.set_cons_zero, List.set_cons_succ])
    refine wpAnyH_ready (rs := [13]) (by kernel_rfl) (by simp) (AllReadyH.cons rfl (fun K hK => ?_) AllReadyH.nil)
    (try go_simp)
    first
      | (refine hK.out _ _ ?_ (fun hNew => ?_))
      | (((first | (go_at_call 20; refine (MixColor_s0 _ _ _ _ _ _ _ _ _ _ HH.out).mono ?_; rintro e wz ⟨rfl, hbz⟩; obtain ⟨hc1, hf1⟩ := bcell hbz; have hz1 := hbz.size; (try simp only [World.size_alloc, World.size_setCell, World.size_drew] at hz1); have z0a : w1.heap.size < wz.heap.size := (by omega); have z0b : w1.heap.size < wz.heap.size + 1 := (by omega); have z0c : w1.heap.size < wz.heap.size + 1 + 1 := (by omega); have z0d : w1.heap.size < wz.heap.size + 1 + 1 + 1 := (by omega); have z1a : w1.heap.size + 1 < wz.heap.size := (by omega); have z1b : w1.heap.size + 1 < wz.heap.size + 1 := (by omega); have z1c : w1.heap.size + 1 < wz.heap.size + 1 + 1 := (by omega); have z1d : w1.heap.size + 1 < wz.heap.size + 1 + 1 + 1 := (by omega); have z2a : w2.heap.size < wz.heap.size := (by omega); have z2b : w2.heap.size < wz.heap.size + 1 := (by omega); have z2c : w2.heap.size < wz.heap.size + 1 + 1 := (by omega); have z2d : w2.heap.size < wz.heap.size + 1 + 1 + 1 := (by omega); have BZ : Below w.heap.size w wz := below_then (by first | (have hhh := HB3.out; go_grown; done) | (have hhh := HB2.out; go_grown; done) | fail) hbz; clear hbz) | (go_at_call 16; refine (ValidColor_i _ _ _ _ _).mono ?_; rintro e wz ⟨rfl, rfl⟩))); (try go_wp2_with fail); (refine hK.out _ _ ?_ (fun hNew => ?_)))
      | fail
    · (try dsimp only)
      first | ((try go_split_ands); (((repeat' apply And.intro) <;> (first | ((repeat (first | (with_reducible assumption) | (with_reducible refine cell_keepD ?_) | (with_reducible refine cell_keepA ?_ _) | (with_reducible refine cell_keepS ?_ _ (by simp only []; omega)) | (with_reducible refine (hc1 _ _ (by go_size)).trans ?_))); done) | (go_cell; done))))) | fail
    clear hK K hHeld
    have hHeld := hNew
    clear hNew
    (try clear hc1)
    (try clear hf1)
    (try simp only [Act.put, List.getElem_toArray, List.getElem_cons_zero, List.getElem_cons_succ, List.setIfInBounds_toArray, List.set_cons_zero, List.set_cons_succ])
    first
      | (refine wpAnyH_take (i := 14) (v := ?_) rfl (by kernel_rfl) (by kernel_rfl) (by kernel_rfl) (fun _ _ _ h => h) (Or.inl ⟨by rfl, ?_⟩) (by assumption) ?_; rotate_left; · ((intro w hSw; (try dsimp only at hSw); go_simp); first | done | (with_reducible rfl)))
      | (refine wpAnyH_take (i := 14) (v := undef) rfl (by kernel_rfl) (by kernel_rfl) (by kernel_rfl) (fun _ _ _ h => h) (Or.inr ⟨by rfl, rfl⟩) (by assumption) ?_)
    (try simp only [Act.put, List.getElem_toArray, List.getElem_cons_zero, List.getElem_cons_succ, List.setIfInBounds_toArray, List.set_cons_zero, List.set_cons_succ])
    first
      | (refine wpAnyH_take (i := 15) (v := ?_) rfl (by kernel_rfl) (by kernel_rfl) (by kernel_rfl) (fun _ _ _ h => h) (Or.inl ⟨by rfl, ?_⟩) (by assumption) ?_; rotate_left; · ((intro w hSw; (try dsimp only at hSw); go_simp); first | done | (with_reducible rfl)))
      | (refine wpAnyH_take (i := 15) (v := undef) rfl (by kernel_rfl) (by kernel_rfl) (by kernel_rfl) (fun _ _ _ h => h) (Or.inr ⟨by rfl, rfl⟩) (by assumption) ?_)
    (try simp only [Act.put, List.getElem_toArray, List.getElem_cons_zero, List.getElem_cons_succ, List.setIfInBounds_toArray, List.set_cons_zero, List.set_cons_succ])
    first
      | (refine wpAnyH_take (i := 16) (v := ?_) rfl (by kernel_rfl) (by kernel_rfl) (by kernel_rfl) (fun _ _ _ h => h) (Or.inl ⟨by rfl, ?_⟩) (by assumption) ?_; rotate_left; · ((intro w hSw; (try dsimp only at hSw); go_simp); first | done | (with_reducible rfl)))
      | (refine wpAnyH_take (i := 16) (v := undef) rfl (by kernel_rfl) (by kernel_rfl) (by kernel_rfl) (fun _ _ _ h => h) (Or.inr ⟨by rfl, rfl⟩) (by assumption) ?_)
    (try simp only [Act.put, List.getElem_toArray, List.getElem_cons_zero, List.getElem_cons_succ, List.setIfInBounds_toArray, List.set_cons_zero, List.set_cons_succ])
    first
      | (refine wpAnyH_take (i := 17) (v := ?_) rfl (by kernel_rfl) (by kernel_rfl) (by kernel_rfl) (fun _ _ _ h => h) (Or.inl ⟨by rfl, ?_⟩) (by assumption) ?_; rotate_left; · ((intro w hSw; (try dsimp only at hSw); go_simp); first | done | (with_reducible rfl)))
      | (refine wpAnyH_take (i := 17) (v := undef) rfl (by kernel_rfl) (by kernel_rfl) (by kernel_rfl) (fun _ _ _ h => h) (Or.inr ⟨by rfl, rfl⟩) (by assumption) ?_)
    (try simp only [Act.put, List.getElem_toArray, List.getElem_cons_zero, List.getElem_cons_succ, List.setIfInBounds_toArray, List.set_cons_zero, List.set_cons_succ])
    first
      | (refine wpAnyH_take (i := 18) (v := ?_) rfl (by kernel_rfl) (by kernel_rfl) (by kernel_rfl) (fun _ _ _ h => h) (Or.inl ⟨by rfl, ?_⟩) (by assumption) ?_; rotate_left; · ((intro w hSw; (try dsimp only at hSw); go_simp); first | done | (with_reducible rfl)))
      | (refine wpAnyH_take (i := 18) (v := undef) rfl (by kernel_rfl) (by kernel_rfl) (by kernel_rfl) (fun _ _ _ h => h) (Or.inr ⟨by rfl, rfl⟩) (by assumption) ?_)
    (try simp only [Act.put, List.getElem_toArray, List.getElem_cons_zero, List.getElem_cons_succ, List.setIfInBounds_toArray, List.set_cons_zero, List.set_cons_succ])
    first
      | (refine wpAnyH_take (i := 19) (v := ?_) rfl (by kernel_rfl) (by kernel_rfl) (by kernel_rfl) (fun _ _ _ h => h) (Or.inl ⟨by rfl, ?_⟩) (by assumption) ?_; rotate_left; · ((intro w hSw; (try dsimp only at hSw); go_simp); first | done | (with_reducible rfl)))
      | (refine wpAnyH_take (i := 19) (v := undef) rfl (by kernel_rfl) (by kernel_rfl) (by kernel_rfl) (fun _ _ _ h => h) (Or.inr ⟨by rfl, rfl⟩) (by assumption) ?_)
    (try simp only [Act.put, List.getElem_toArray, List.getElem_cons_zero, List.getElem_cons_succ, List.setIfInBounds_toArray, List.set_cons_zero, List.set_cons_succ])
    first
      | (refine wpAnyH_take (i := 20) (v := ?_) rfl (by kernel_rfl) (by kernel_rfl) (by kernel_rfl) (fun _ _ _ h => h) (Or.inl ⟨by rfl, ?_⟩) (by assumption) ?_; rotate_left; · ((intro w hSw; (try dsimp only at hSw); go_simp); first | done | (with_reducible rfl)))
      | (refine wpAnyH_take (i := 20) (v := undef) rfl (by kernel_rfl) (by kernel_rfl) (by kernel_rfl) (fun _ _ _ h => h) (Or.inr ⟨by rfl, rfl⟩) (by assumption) ?_)
    (try simp only [Act.put, List.getElem_toArray, List.getElem_cons_zero, List.getElem_cons_succ, List.setIfInBounds_toArray, List.set_cons_zero, List.set_cons_succ])
    first
      | (refine wpAnyH_take (i := 21) (v := ?_) rfl (by kernel_rfl) (by kernel_rfl) (by kernel_rfl) (fun _ _ _ h => h) (Or.inl ⟨by rfl, ?_⟩) (by assumption) ?_; rotate_left; · ((intro w hSw; (try dsimp only at hSw); go_simp); first | done | (with_reducible rfl)))
      | (refine wpAnyH_take (i := 21) (v := undef) rfl (by kernel_rfl) (by kernel_rfl) (by kernel_rfl) (fun _ _ _ h => h) (Or.inr ⟨by rfl, rfl⟩) (by assumption) ?_)
    (try simp only [Act.put, List.getElem_toArray, List.getElem_cons_zero, List.getElem_cons_succ, List.setIfInBounds_toArray, List.set_cons_zero, List.set_cons_succ])
    first
      | (refine wpAnyH_take (i := 22) (v := ?_) rfl (by kernel_rfl) (by kernel_rfl) (by kernel_rfl) (fun _ _ _ h => h) (Or.inl ⟨by rfl, ?_⟩) (by assumption) ?_; rotate_left; · ((intro w hSw; (try dsimp only at hSw); go_simp); first | done | (with_reducible rfl)))
      | (refine wpAnyH_take (i := 22) (v := undef) rfl (by kernel_rfl) (by kernel_rfl) (by kernel_rfl) (fun _ _ _ h => h) (Or.inr ⟨by rfl, rfl⟩) (by assumption) ?_)
    (try simp only [Act.put, List.getElem_toArray, List.getElem_cons_zero, List.getElem_cons_succ, List.setIfInBounds_toArray, List.set_cons_zero, List.set_cons_succ])
    first
      | (refine wpAnyH_take (i := 23) (v := ?_) rfl (by kernel_rfl) (by kernel_rfl) (by kernel_rfl) (fun _ _ _ h => h) (Or.inl ⟨by rfl, ?_⟩) (by assumption) ?_; rotate_left; · ((intro w hSw; (try dsimp only at hSw); go_simp); first | done | (with_reducible rfl)))
      | (refine wpAnyH_take (i := 23) (v := undef) rfl (by kernel_rfl) (by kernel_rfl) (by kernel_rfl) (fun _ _ _ h => h) (Or.inr ⟨by rfl, rfl⟩) (by assumption) ?_)
    (try simp only [Act.put, List.getElem_toArray, List.getElem_cons_zero, List.getElem_cons_succ, List.setIfInBounds_toArray, List.set_cons_zero, List.set_cons_succ])
    (try dsimp only at hHeld)
    obtain ⟨s5_0, s5_1, s5_2, s5_3, s5_4, s5_5, s5_6, s5_7, s5_8, s5_9, s5_10, s5_11⟩ := hHeld
    refine wpAnyH_done (by kernel_rfl) ?_ _
    go_wp2_with fail
    refine wp_region_held_drew (S := fun w' => w'.cell? ⟨w1.heap.size, 0, none⟩ = some (.int .i64 r) ∧ w'.cell? ⟨w1.heap.size, 1, none⟩ = some (.int .i64 g) ∧ w'.cell? ⟨w1.heap.size, 2, none⟩ = some (.int .i64 b) ∧ w'.cell? ⟨w1.heap.size, 3, none⟩ = some (.int .i64 a) ∧ w'.cell? ⟨w1.heap.size + 1, 0, none⟩ = some (.int .i64 r') ∧ w'.cell? ⟨w1.heap.size + 1, 1, none⟩ = some (.int .i64 g') ∧ w'.cell? ⟨w1.heap.size + 1, 2, none⟩ = some (.int .i64 b') ∧ w'.cell? ⟨w1.heap.size + 1, 3, none⟩ = some (.int .i64 a') ∧ w'.cell? ⟨w2.heap.size, 0, none⟩ = some (.int .i64 0) ∧ w'.cell? ⟨w2.heap.size, 1, none⟩ = some (.int .i64 0) ∧ w'.cell? ⟨w2.heap.size, 2, none⟩ = some (.int .i64 0) ∧ w'.cell? ⟨w2.heap.size, 3, none⟩ = some (.int .i64 0)) (by kernel_rfl) ?_ (fun hHeld => ?_)
    · (try dsimp only)
      first | (((repeat' apply And.intro) <;> (first | ((repeat (first | (with_reducible assumption) | (with_reducible refine cell_keepD ?_) | (with_reducible refine cell_keepA ?_ _) | (with_reducible refine cell_keepS ?_ _ (by simp only []; omega)) | (with_reducible refine (hc1 _ _ (by go_size)).trans ?_))); done) | (go_cell; done)))) | fail
    (try clear cA2_0)
    (try clear cA2_1)
    (try clear cA2_2)
    (try clear cA2_3)
    (try clear cB2_0)
    (try clear cB2_1)
    (try clear cB2_2)
    (try clear cB2_3)
    (try clear cC2_0)
    (try clear cC2_1)
    (try clear cC2_2)
    (try clear cC2_3)
    (try clear fA2_0)
    (try clear fA2_1)
    (try clear fA2_2)
    (try clear fA2_3)
    (try clear fB2_0)
    (try clear fB2_1)
    (try clear fB2_2)
    (try clear fB2_3)
    (try clear fC2_0)
    (try clear fC2_1)
    (try clear fC2_2)
    (try clear fC2_3)
    (try clear s5_0)
    (try clear s5_1)
    (try clear s5_2)
    (try clear s5_3)
    (try clear s5_4)
    (try clear s5_5)
    (try clear s5_6)
    (try clear s5_7)
    (try clear s5_8)
    (try clear s5_9)
    (try clear s5_10)
    (try clear s5_11)
    first
      | (refine wpAnyH_take (i := 0) (v := ?_) rfl (by kernel_rfl) (by kernel_rfl) (by kernel_rfl) (fun _ _ _ h => h) (Or.inl ⟨by rfl, ?_⟩) (by assumption) ?_; rotate_left; · ((intro w hSw; (try dsimp only at hSw); go_simp); first | done | (with_reducible rfl)))
      | (refine wpAnyH_take (i := 0) (v := undef) rfl (by kernel_rfl) (by kernel_rfl) (by kernel_rfl) (fun _ _ _ h => h) (Or.inr ⟨by rfl, rfl⟩) (by assumption) ?_)
    (try simp only [Act.put, List.getElem_toArray, List.getElem_cons_zero, List.getElem_cons_succ, List.setIfInBounds_toArray, List.set_cons_zero, List.set_cons_succ])
    first
      | (refine wpAnyH_take (i := 1) (v := ?_) rfl (by kernel_rfl) (by kernel_rfl) (by kernel_rfl) (fun _ _ _ h => h) (Or.inl ⟨by rfl, ?_⟩) (by assumption) ?_; rotate_left; · ((intro w hSw; (try dsimp only at hSw); go_simp); first | done | (with_reducible rfl)))
      | (refine wpAnyH_take (i := 1) (v := undef) rfl (by kernel_rfl) (by kernel_rfl) (by kernel_rfl) (fun _ _ _ h => h) (Or.inr ⟨by rfl, rfl⟩) (by assumption) ?_)
    (try simp only [Act.put, List.getElem_toArray, List.getElem_cons_zero, List.getElem_cons_succ, List.setIfInBounds_toArray, List.set_cons_zero, List.set_cons_succ])
    first
      | (refine wpAnyH_take (i := 2) (v := ?_) rfl (by kernel_rfl) (by kernel_rfl) (by kernel_rfl) (fun _ _ _ h => h) (Or.inl ⟨by rfl, ?_⟩) (by assumption) ?_; rotate_left; · ((intro w hSw; (try dsimp only at hSw); go_simp); first | done | (with_reducible rfl)))
      | (refine wpAnyH_take (i := 2) (v := undef) rfl (by kernel_rfl) (by kernel_rfl) (by kernel_rfl) (fun _ _ _ h => h) (Or.inr ⟨by rfl, rfl⟩) (by assumption) ?_)
    (try simp only [Act.put, List.getElem_toArray, List.getElem_cons_zero, List.getElem_cons_succ, List.setIfInBounds_toArray, List.set_cons_zero, List.set_cons_succ])
    first
      | (refine wpAnyH_take (i := 3) (v := ?_) rfl (by kernel_rfl) (by kernel_rfl) (by kernel_rfl) (fun _ _ _ h => h) (Or.inl ⟨by rfl, ?_⟩) (by assumption) ?_; rotate_left; · ((intro w hSw; (try dsimp only at hSw); go_simp); first | done | (with_reducible rfl)))
      | (refine wpAnyH_take (i := 3) (v := undef) rfl (by kernel_rfl) (by kernel_rfl) (by kernel_rfl) (fun _ _ _ h => h) (Or.inr ⟨by rfl, rfl⟩) (by assumption) ?_)
    (try simp only [Act.put, List.getElem_toArray, List.getElem_cons_zero, List.getElem_cons_succ, List.setIfInBounds_toArray, List.set_cons_zero, List.set_cons_succ])
    refine wpAnyH_ready (rs := [4]) (by kernel_rfl) (by simp) (AllReadyH.cons rfl (fun K hK => ?_) AllReadyH.nil)
    (try go_simp)
    first
      | (refine hK.out _ _ ?_ (fun hNew => ?_))
      | (((first | (go_at_call 20; refine (MixColor_s0 _ _ _ _ _ _ _ _ _ _ HH.out).mono ?_; rintro e wz ⟨rfl, hbz⟩; obtain ⟨hc1, hf1⟩ := bcell hbz; have hz1 := hbz.size; (try simp only [World.size_alloc, World.size_setCell, World.size_drew] at hz1); have z0a : w1.heap.size < wz.heap.size := (by omega); have z0b : w1.heap.size < wz.heap.size + 1 := (by omega); have z0c : w1.heap.size < wz.heap.size + 1 + 1 := (by omega); have z0d : w1.heap.size < wz.heap.size + 1 + 1 + 1 := (by omega); have z1a : w1.heap.size + 1 < wz.heap.size := (by omega); have z1b : w1.heap.size + 1 < wz.heap.size + 1 := (by omega); have z1c : w1.heap.size + 1 < wz.heap.size + 1 + 1 := (by omega); have z1d : w1.heap.size + 1 < wz.heap.size + 1 + 1 + 1 := (by omega); have z2a : w2.heap.size < wz.heap.size := (by omega); have z2b : w2.heap.size < wz.heap.size + 1 := (by omega); have z2c : w2.heap.size < wz.heap.size + 1 + 1 := (by omega); have z2d : w2.heap.size < wz.heap.size + 1 + 1 + 1 := (by omega); have BZ : Below w.heap.size w wz := below_then (by first | (have hhh := HB3.out; go_grown; done) | (have hhh := HB2.out; go_grown; done) | fail) hbz; clear hbz) | (go_at_call 16; refine (ValidColor_i _ _ _ _ _).mono ?_; rintro e wz ⟨rfl, rfl⟩))); (try go_wp2_with fail); (refine hK.out _ _ ?_ (fun hNew => ?_)))
      | fail
    · (try dsimp only)
      first | ((try go_split_ands); (((repeat' apply And.intro) <;> (first | ((repeat (first | (with_reducible assumption) | (with_reducible refine cell_keepD ?_) | (with_reducible refine cell_keepA ?_ _) | (with_reducible refine cell_keepS ?_ _ (by simp only []; omega)) | (with_reducible refine (hc1 _ _ (by go_size)).trans ?_))); done) | (go_cell; done))))) | fail
    clear hK K hHeld
    have hHeld := hNew
    clear hNew
    (try clear hc1)
    (try clear hf1)
    (try simp only [Act.put, List.getElem_toArray, List.getElem_cons_zero, List.getElem_cons_succ, List.setIfInBounds_toArray, List.set_cons_zero, List.set_cons_succ])
    first
      | (refine wpAnyH_take (i := 5) (v := ?_) rfl (by kernel_rfl) (by kernel_rfl) (by kernel_rfl) (fun _ _ _ h => h) (Or.inl ⟨by rfl, ?_⟩) (by assumption) ?_; rotate_left; · ((intro w hSw; (try dsimp only at hSw); go_simp); first | done | (with_reducible rfl)))
      | (refine wpAnyH_take (i := 5) (v := undef) rfl (by kernel_rfl) (by kernel_rfl) (by kernel_rfl) (fun _ _ _ h => h) (Or.inr ⟨by rfl, rfl⟩) (by assumption) ?_)
    (try simp only [Act.put, List.getElem_toArray, List.getElem_cons_zero, List.getElem_cons_succ, List.setIfInBounds_toArray, List.set_cons_zero, List.set_cons_succ])
    first
      | (refine wpAnyH_take (i := 6) (v := ?_) rfl (by kernel_rfl) (by kernel_rfl) (by kernel_rfl) (fun _ _ _ h => h) (Or.inl ⟨by rfl, ?_⟩) (by assumption) ?_; rotate_left; · ((intro w hSw; (try dsimp only at hSw); go_simp); first | done | (with_reducible rfl)))
      | (refine wpAnyH_take (i := 6) (v := undef) rfl (by kernel_rfl) (by kernel_rfl) (by kernel_rfl) (fun _ _ _ h => h) (Or.inr ⟨by rfl, rfl⟩) (by assumption) ?_)
    (try simp only [Act.put, List.getElem_toArray, List.getElem_cons_zero, List.getElem_cons_succ, List.setIfInBounds_toArray, List.set_cons_zero, List.set_cons_succ])
    (try dsimp only at hHeld)
    obtain ⟨s6_0, s6_1, s6_2, s6_3, s6_4, s6_5, s6_6, s6_7, s6_8, s6_9, s6_10, s6_11⟩ := hHeld
    refine wpAnyH_done (by kernel_rfl) ?_ _
    go_wp2_with (first | (go_at_call 16; refine (ValidColor_i _ _ _ _ _).mono ?_; rintro e wz ⟨rfl, rfl⟩) | fail)
    all_goals
      go_ret
      exact ⟨ret_b (by first | rfl | (simp; done) | (simp [*]; done) | (simp; omega)), by have hhh := HB2.out; go_grown⟩
  by_cases h4 : 256 < t
  · have hn1 : decide (t < 0) = false := by simp; omega
    have HHx : (colB r g b a && colB r' g' b' a' && inB t 0 256) = false := by simp [h1, h2, inB]; omega
    have HH := Lib.hid HHx
    clear HHx
    go_wp2_with fail
    refine (MixColor_i0 _ _ _ _ _ _ _ _ _ _ HH.out).mono ?_
    rintro e w2 ⟨rfl, hb2⟩
    have A2 := Lib.hid (show Row w2 (w1.heap.size) 25 4 (col r g b a) from Row.below (Row.alloc (row_col1 _ _ _ _ _ _ _ (by go_size)) _) hb2 (by go_size))
    have B2 := Lib.hid (show Row w2 (w1.heap.size + 1) 25 4 (col r' g' b' a') from Row.below (row_col1 _ _ _ _ _ _ _ (by go_size)) hb2 (by go_size))
    have HB2 := Lib.hid (show Below w.heap.size w w2 from below_then (by have hhh := HB1.out; go_grown) hb2)
    have hs2 := hb2.size
    (try simp only [World.size_alloc, World.size_setCell, World.size_drew] at hs2)
    clear hb2
    obtain ⟨⟨cA2_0, cA2_1, cA2_2, cA2_3⟩, fA2_0, fA2_1, fA2_2, fA2_3⟩ := col_cells A2.out
    obtain ⟨⟨cB2_0, cB2_1, cB2_2, cB2_3⟩, fB2_0, fB2_1, fB2_2, fB2_3⟩ := col_cells B2.out
    go_wp2_with fail
    refine wp_region_held_drew (S := fun w' => w'.cell? ⟨w1.heap.size, 0, none⟩ = some (.int .i64 r) ∧ w'.cell? ⟨w1.heap.size, 1, none⟩ = some (.int .i64 g) ∧ w'.cell? ⟨w1.heap.size, 2, none⟩ = some (.int .i64 b) ∧ w'.cell? ⟨w1.heap.size, 3, none⟩ = some (.int .i64 a) ∧ w'.cell? ⟨w1.heap.size + 1, 0, none⟩ = some (.int .i64 r') ∧ w'.cell? ⟨w1.heap.size + 1, 1, none⟩ = some (.int .i64 g') ∧ w'.cell? ⟨w1.heap.size + 1, 2, none⟩ = some (.int .i64 b') ∧ w'.cell? ⟨w1.heap.size + 1, 3, none⟩ = some (.int .i64 a') ∧ w'.cell? ⟨w2.heap.size, 0, none⟩ = some (.int .i64 0) ∧ w'.cell? ⟨w2.heap.size, 1, none⟩ = some (.int .i64 0) ∧ w'.cell? ⟨w2.heap.size, 2, none⟩ = some (.int .i64 0) ∧ w'.cell? ⟨w2.heap.size, 3, none⟩ = some (.int .i64 0)) (by kernel_rfl) ?_ (fun hHeld => ?_)
    · (try dsimp only)
      first | (((repeat' apply And.intro) <;> (first | ((repeat (first | (with_reducible assumption) | (with_reducible refine cell_keepD ?_) | (with_reducible refine cell_keepA ?_ _) | (with_reducible refine cell_keepS ?_ _ (by simp only []; omega)) | (with_reducible refine (hc1 _ _ (by go_size)).trans ?_))); done) | (go_cell; done)))) | fail
    (try clear cA2_0)
    (try clear cA2_1)
    (try clear cA2_2)
    (try clear cA2_3)
    (try clear cB2_0)
    (try clear cB2_1)
    (try clear cB2_2)
    (try clear cB2_3)
    (try clear cC2_0)
    (try clear cC2_1)
    (try clear cC2_2)
    (try clear cC2_3)
    (try clear fA2_0)
    (try clear fA2_1)
    (try clear fA2_2)
    (try clear fA2_3)
    (try clear fB2_0)
    (try clear fB2_1)
    (try clear fB2_2)
    (try clear fB2_3)
    (try clear fC2_0)
    (try clear fC2_1)
    (try clear fC2_2)
    (try clear fC2_3)
    first
      | (refine wpAnyH_take (i := 0) (v := ?_) rfl (by kernel_rfl) (by kernel_rfl) (by kernel_rfl) (fun _ _ _ h => h) (Or.inl ⟨by rfl, ?_⟩) (by assumption) ?_; rotate_left; · ((intro w hSw; (try dsimp only at hSw); go_simp); first | done | (with_reducible rfl)))
      | (refine wpAnyH_take (i := 0) (v := undef) rfl (by kernel_rfl) (by kernel_rfl) (by kernel_rfl) (fun _ _ _ h => h) (Or.inr ⟨by rfl, rfl⟩) (by assumption) ?_)
    (try simp only [Act.put, List.getElem_toArray, List.getElem_cons_zero, List.getElem_cons_succ, List.setIfInBounds_toArray, List.set_cons_zero, List.set_cons_succ])
    first
      | (refine wpAnyH_take (i := 1) (v := ?_) rfl (by kernel_rfl) (by kernel_rfl) (by kernel_rfl) (fun _ _ _ h => h) (Or.inl ⟨by rfl, ?_⟩) (by assumption) ?_; rotate_left; · ((intro w hSw; (try dsimp only at hSw); go_simp); first | done | (with_reducible rfl)))
      | (refine wpAnyH_take (i := 1) (v := undef) rfl (by kernel_rfl) (by kernel_rfl) (by kernel_rfl) (fun _ _ _ h => h) (Or.inr ⟨by rfl, rfl⟩) (by assumption) ?_)
    (try simp only [Act.put, List.getElem_toArray, List.getElem_cons_zero, List.getElem_cons_succ, List.setIfInBounds_toArray, List.set_cons_zero, List.set_cons_succ])
    first
      | (refine wpAnyH_take (i := 2) (v := ?_) rfl (by kernel_rfl) (by kernel_rfl) (by kernel_rfl) (fun _ _ _ h => h) (Or.inl ⟨by rfl, ?_⟩) (by assumption) ?_; rotate_left; · ((intro w hSw; (try dsimp only at hSw); go_simp); first | done | (with_reducible rfl)))
      | (refine wpAnyH_take (i := 2) (v := undef) rfl (by kernel_rfl) (by kernel_rfl) (by kernel_rfl) (fun _ _ _ h => h) (Or.inr ⟨by rfl, rfl⟩) (by assumption) ?_)
    (try simp only [Act.put, List.getElem_toArray, List.getElem_cons_zero, List.getElem_cons_succ, List.setIfInBounds_toArray, List.set_cons_zero, List.set_cons_succ])
    first
      | (refine wpAnyH_take (i := 3) (v := ?_) rfl (by kernel_rfl) (by kernel_rfl) (by kernel_rfl) (fun _ _ _ h => h) (Or.inl ⟨by rfl, ?_⟩) (by assumption) ?_; rotate_left; · ((intro w hSw; (try dsimp only at hSw); go_simp); first | done | (with_reducible rfl)))
      | (refine wpAnyH_take (i := 3) (v := undef) rfl (by kernel_rfl) (by kernel_rfl) (by kernel_rfl) (fun _ _ _ h => h) (Or.inr ⟨by rfl, rfl⟩) (by assumption) ?_)
    (try simp only [Act.put, List.getElem_toArray, List.getElem_cons_zero, List.getElem_cons_succ, List.setIfInBounds_toArray, List.set_cons_zero, List.set_cons_succ])
    refine wpAnyH_ready (rs := [4]) (by kernel_rfl) (by simp) (AllReadyH.cons rfl (fun K hK => ?_) AllReadyH.nil)
    (try go_simp)
    first
      | (refine hK.out _ _ ?_ (fun hNew => ?_))
      | (((first | (go_at_call 20; refine (MixColor_s0 _ _ _ _ _ _ _ _ _ _ HH.out).mono ?_; rintro e wz ⟨rfl, hbz⟩; obtain ⟨hc1, hf1⟩ := bcell hbz; have hz1 := hbz.size; (try simp only [World.size_alloc, World.size_setCell, World.size_drew] at hz1); have z0a : w1.heap.size < wz.heap.size := (by omega); have z0b : w1.heap.size < wz.heap.size + 1 := (by omega); have z0c : w1.heap.size < wz.heap.size + 1 + 1 := (by omega); have z0d : w1.heap.size < wz.heap.size + 1 + 1 + 1 := (by omega); have z1a : w1.heap.size + 1 < wz.heap.size := (by omega); have z1b : w1.heap.size + 1 < wz.heap.size + 1 := (by omega); have z1c : w1.heap.size + 1 < wz.heap.size + 1 + 1 := (by omega); have z1d : w1.heap.size + 1 < wz.heap.size + 1 + 1 + 1 := (by omega); have z2a : w2.heap.size < wz.heap.size := (by omega); have z2b : w2.heap.size < wz.heap.size + 1 := (by omega); have z2c : w2.heap.size < wz.heap.size + 1 + 1 := (by omega); have z2d : w2.heap.size < wz.heap.size + 1 + 1 + 1 := (by omega); have BZ : Below w.heap.size w wz := below_then (by first | (have hhh := HB3.out; go_grown; done) | (have hhh := HB2.out; go_grown; done) | fail) hbz; clear hbz) | (go_at_call 16; refine (ValidColor_i _ _ _ _ _).mono ?_; rintro e wz ⟨rfl, rfl⟩))); (try go_wp2_with fail); (refine hK.out _ _ ?_ (fun hNew => ?_)))
      | fail
    · (try dsimp only)
      first | ((try go_split_ands); (((repeat' apply And.intro) <;> (first | ((repeat (first | (with_reducible assumption) | (with_reducible refine cell_keepD ?_) | (with_reducible refine cell_keepA ?_ _) | (with_reducible refine cell_keepS ?_ _ (by simp only []; omega)) | (with_reducible refine (hc1 _ _ (by go_size)).trans ?_))); done) | (go_cell; done))))) | fail
    clear hK K hHeld
    have hHeld := hNew
    clear hNew
    (try clear hc1)
    (try clear hf1)
    (try simp only [Act.put, List.getElem_toArray, List.getElem_cons_zero, List.getElem_cons_succ, List.setIfInBounds_toArray, List.set_cons_zero, List.set_cons_succ])
    first
      | (refine wpAnyH_take (i := 5) (v := ?_) rfl (by kernel_rfl) (by kernel_rfl) (by kernel_rfl) (fun _ _ _ h => h) (Or.inl ⟨by rfl, ?_⟩) (by assumption) ?_; rotate_left; · ((intro w hSw; (try dsimp only at hSw); go_simp); first | done | (with_reducible rfl)))
      | (refine wpAnyH_take (i := 5) (v := undef) rfl (by kernel_rfl) (by kernel_rfl) (by kernel_rfl) (fun _ _ _ h => h) (Or.inr ⟨by rfl, rfl⟩) (by assumption) ?_)
    (try simp only [Act.put, List.getElem_toArray, List.getElem_cons_zero, List.getElem_cons_succ, List.setIfInBounds_toArray, List.set_cons_zero, List.set_cons_succ])
    first
      | (refine wpAnyH_take (i := 6) (v := ?_) rfl (by kernel_rfl) (by kernel_rfl) (by kernel_rfl) (fun _ _ _ h => h) (Or.inl ⟨by rfl, ?_⟩) (by assumption) ?_; rotate_left; · ((intro w hSw; (try dsimp only at hSw); go_simp); first | done | (with_reducible rfl)))
      | (refine wpAnyH_take (i := 6) (v := undef) rfl (by kernel_rfl) (by kernel_rfl) (by kernel_rfl) (fun _ _ _ h => h) (Or.inr ⟨by rfl, rfl⟩) (by assumption) ?_)
    (try simp only [Act.put, List.getElem_toArray, List.getElem_cons_zero, List.getElem_cons_succ, List.setIfInBounds_toArray, List.set_cons_zero, List.set_cons_succ])
    first
      | (refine wpAnyH_take (i := 7) (v := ?_) rfl (by kernel_rfl) (by kernel_rfl) (by kernel_rfl) (fun _ _ _ h => h) (Or.inl ⟨by rfl, ?_⟩) (by assumption) ?_; rotate_left; · ((intro w hSw; (try dsimp only at hSw); go_simp); first | done | (with_reducible rfl)))
      | (refine wpAnyH_take (i := 7) (v := undef) rfl (by kernel_rfl) (by kernel_rfl) (by kernel_rfl) (fun _ _ _ h => h) (Or.inr ⟨by rfl, rfl⟩) (by assumption) ?_)
    (try simp only [Act.put, List.getElem_toArray, List.getElem_cons_zero, List.getElem_cons_succ, List.setIfInBounds_toArray, List.set_cons_zero, List.set_cons_succ])
    refine wpAnyH_ready (rs := [8]) (by kernel_rfl) (by simp) (AllReadyH.cons rfl (fun K hK => ?_) AllReadyH.nil)
    (try go_simp)
    first
      | (refine hK.out _ _ ?_ (fun hNew => ?_))
      | (((first | (go_at_call 20; refine (MixColor_s0 _ _ _ _ _ _ _ _ _ _ HH.out).mono ?_; rintro e wz ⟨rfl, hbz⟩; obtain ⟨hc1, hf1⟩ := bcell hbz; have hz1 := hbz.size; (try simp only [World.size_alloc, World.size_setCell, World.size_drew] at hz1); have z0a : w1.heap.size < wz.heap.size := (by omega); have z0b : w1.heap.size < wz.heap.size + 1 := (by omega); have z0c : w1.heap.size < wz.heap.size + 1 + 1 := (by omega); have z0d : w1.heap.size < wz.heap.size + 1 + 1 + 1 := (by omega); have z1a : w1.heap.size + 1 < wz.heap.size := (by omega); have z1b : w1.heap.size + 1 < wz.heap.size + 1 := (by omega); have z1c : w1.heap.size + 1 < wz.heap.size + 1 + 1 := (by omega); have z1d : w1.heap.size + 1 < wz.heap.size + 1 + 1 + 1 := (by omega); have z2a : w2.heap.size < wz.heap.size := (by omega); have z2b : w2.heap.size < wz.heap.size + 1 := (by omega); have z2c : w2.heap.size < wz.heap.size + 1 + 1 := (by omega); have z2d : w2.heap.size < wz.heap.size + 1 + 1 + 1 := (by omega); have BZ : Below w.heap.size w wz := below_then (by first | (have hhh := HB3.out; go_grown; done) | (have hhh := HB2.out; go_grown; done) | fail) hbz; clear hbz) | (go_at_call 16; refine (ValidColor_i _ _ _ _ _).mono ?_; rintro e wz ⟨rfl, rfl⟩))); (try go_wp2_with fail); (refine hK.out _ _ ?_ (fun hNew => ?_)))
      | fail
    · (try dsimp only)
      first | ((try go_split_ands); (((repeat' apply And.intro) <;> (first | ((repeat (first | (with_reducible assumption) | (with_reducible refine cell_keepD ?_) | (with_reducible refine cell_keepA ?_ _) | (with_reducible refine cell_keepS ?_ _ (by simp only []; omega)) | (with_reducible refine (hc1 _ _ (by go_size)).trans ?_))); done) | (go_cell; done))))) | fail
    clear hK K hHeld
    have hHeld := hNew
    clear hNew
    (try clear hc1)
    (try clear hf1)
    (try simp only [Act.put, List.getElem_toArray, List.getElem_cons_zero, List.getElem_cons_succ, List.setIfInBounds_toArray, List.set_cons_zero, List.set_cons_succ])
    first
      | (refine wpAnyH_take (i := 9) (v := ?_) rfl (by kernel_rfl) (by kernel_rfl) (by kernel_rfl) (fun _ _ _ h => h) (Or.inl ⟨by rfl, ?_⟩) (by assumption) ?_; rotate_left; · ((intro w hSw; (try dsimp only at hSw); go_simp); first | done | (with_reducible rfl)))
      | (refine wpAnyH_take (i := 9) (v := undef) rfl (by kernel_rfl) (by kernel_rfl) (by kernel_rfl) (fun _ _ _ h => h) (Or.inr ⟨by rfl, rfl⟩) (by assumption) ?_)
    (try simp only [Act.put, List.getElem_toArray, List.getElem_cons_zero, List.getElem_cons_succ, List.setIfInBounds_toArray, List.set_cons_zero, List.set_cons_succ])
    first
      | (refine wpAnyH_take (i := 10) (v := ?_) rfl (by kernel_rfl) (by kernel_rfl) (by kernel_rfl) (fun _ _ _ h => h) (Or.inl ⟨by rfl, ?_⟩) (by assumption) ?_; rotate_left; · ((intro w hSw; (try dsimp only at hSw); go_simp); first | done | (with_reducible rfl)))
      | (refine wpAnyH_take (i := 10) (v := undef) rfl (by kernel_rfl) (by kernel_rfl) (by kernel_rfl) (fun _ _ _ h => h) (Or.inr ⟨by rfl, rfl⟩) (by assumption) ?_)
    (try simp only [Act.put, List.getElem_toArray, List.getElem_cons_zero, List.getElem_cons_succ, List.setIfInBounds_toArray, List.set_cons_zero, List.set_cons_succ])
    first
      | (refine wpAnyH_take (i := 11) (v := ?_) rfl (by kernel_rfl) (by kernel_rfl) (by kernel_rfl) (fun _ _ _ h => h) (Or.inl ⟨by rfl, ?_⟩) (by assumption) ?_; rotate_left; · ((intro w hSw; (try dsimp only at hSw); go_simp); first | done | (with_reducible rfl)))
      | (refine wpAnyH_take (i := 11) (v := undef) rfl (by kernel_rfl) (by kernel_rfl) (by kernel_rfl) (fun _ _ _ h => h) (Or.inr ⟨by rfl, rfl⟩) (by assumption) ?_)
    (try simp only [Act.put, List.getElem_toArray, List.getElem_cons_zero, List.getElem_cons_succ, List.setIfInBounds_toArray, List.set_cons_zero, List.set_cons_succ])
    first
      | (refine wpAnyH_take (i := 12) (v := ?_) rfl (by kernel_rfl) (by kernel_rfl) (by kernel_rfl) (fun _ _ _ h => h) (Or.inl ⟨by rfl, ?_⟩) (by assumption) ?_; rotate_left; · ((intro w hSw; (try dsimp only at hSw); go_simp); first | done | (with_reducible rfl)))
      | (refine wpAnyH_take (i := 12) (v := undef) rfl (by kernel_rfl) (by kernel_rfl) (by kernel_rfl) (fun _ _ _ h => h) (Or.inr ⟨by rfl, rfl⟩) (by assumption) ?_)
    (try simp only [Act.put, List.getElem_toArray, List.getElem_cons_zero, List.getElem_cons_succ, List.setIfInBounds_toArray, List.set_cons_zero, List.set_cons_succ])
    refine wpAnyH_ready (rs := [13]) (by kernel_rfl) (by simp) (AllReadyH.cons rfl (fun K hK => ?_) AllReadyH.nil)
    (try go_simp)
    first
      | (refine hK.out _ _ ?_ (fun hNew => ?_))
      | (((first | (go_at_call 20; refine (MixColor_s0 _ _ _ _ _ _ _ _ _ _ HH.out).mono ?_; rintro e wz ⟨rfl, hbz⟩; obtain ⟨hc1, hf1⟩ := bcell hbz; have hz1 := hbz.size; (try simp only [World.size_alloc, World.size_setCell, World.size_drew] at hz1); have z0a : w1.heap.size < wz.heap.size := (by omega); have z0b : w1.heap.size < wz.heap.size + 1 := (by omega); have z0c : w1.heap.size < wz.heap.size + 1 + 1 := (by omega); have z0d : w1.heap.size < wz.heap.size + 1 + 1 + 1 := (by omega); have z1a : w1.heap.size + 1 < wz.heap.size := (by omega); have z1b : w1.heap.size + 1 < wz.heap.size + 1 := (by omega); have z1c : w1.heap.size + 1 < wz.heap.size + 1 + 1 := (by omega); have z1d : w1.heap.size + 1 < wz.heap.size + 1 + 1 + 1 := (by omega); have z2a : w2.heap.size < wz.heap.size := (by omega); have z2b : w2.heap.size < wz.heap.size + 1 := (by omega); have z2c : w2.heap.size < wz.heap.size + 1 + 1 := (by omega); have z2d : w2.heap.size < wz.heap.size + 1 + 1 + 1 := (by omega); have BZ : Below w.heap.size w wz := below_then (by first | (have hhh := HB3.out; go_grown; done) | (have hhh := HB2.out; go_grown; done) | fail) hbz; clear hbz) | (go_at_call 16; refine (ValidColor_i _ _ _ _ _).mono ?_; rintro e wz ⟨rfl, rfl⟩))); (try go_wp2_with fail); (refine hK.out _ _ ?_ (fun hNew => ?_)))
      | fail
    · (try dsimp only)
      first | ((try go_split_ands); (((repeat' apply And.intro) <;> (first | ((repeat (first | (with_reducible assumption) | (with_reducible refine cell_keepD ?_) | (with_reducible refine cell_keepA ?_ _) | (with_reducible refine cell_keepS ?_ _ (by simp only []; omega)) | (with_reducible refine (hc1 _ _ (by go_size)).trans ?_))); done) | (go_cell; done))))) | fail
    clear hK K hHeld
    have hHeld := hNew
    clear hNew
    (try clear hc1)
    (try clear hf1)
    (try simp only [Act.put, List.getElem_toArray, List.getElem_cons_zero, List.getElem_cons_succ, List.setIfInBounds_toArray, List.set_cons_zero, List.set_cons_succ])
    first
      | (refine wpAnyH_take (i := 14) (v := ?_) rfl (by kernel_rfl) (by kernel_rfl) (by kernel_rfl) (fun _ _ _ h => h) (Or.inl ⟨by rfl, ?_⟩) (by assumption) ?_; rotate_left; · ((intro w hSw; (try dsimp only at hSw); go_simp); first | done | (with_reducible rfl)))
      | (refine wpAnyH_take (i := 14) (v := undef) rfl (by kernel_rfl) (by kernel_rfl) (by kernel_rfl) (fun _ _ _ h => h) (Or.inr ⟨by rfl, rfl⟩) (by assumption) ?_)
    (try simp only [Act.put, List.getElem_toArray, List.getElem_cons_zero, List.getElem_cons_succ, List.setIfInBounds_toArray, List.set_cons_zero, List.set_cons_succ])
    first
      | (refine wpAnyH_take (i := 15) (v := ?_) rfl (by kernel_rfl) (by kernel_rfl) (by kernel_rfl) (fun _ _ _ h => h) (Or.inl ⟨by rfl, ?_⟩) (by assumption) ?_; rotate_left; · ((intro w hSw; (try dsimp only at hSw); go_simp); first | done | (with_reducible rfl)))
      | (refine wpAnyH_take (i := 15) (v := undef) rfl (by kernel_rfl) (by kernel_rfl) (by kernel_rfl) (fun _ _ _ h => h) (Or.inr ⟨by rfl, rfl⟩) (by assumption) ?_)
    (try simp only [Act.put, List.getElem_toArray, List.getElem_cons_zero, List.getElem_cons_succ, List.setIfInBounds_toArray, List.set_cons_zero, List.set_cons_succ])
    first
      | (refine wpAnyH_take (i := 16) (v := ?_) rfl (by kernel_rfl) (by kernel_rfl) (by kernel_rfl) (fun _ _ _ h => h) (Or.inl ⟨by rfl, ?_⟩) (by assumption) ?_; rotate_left; · ((intro w hSw; (try dsimp only at hSw); go_simp); first | done | (with_reducible rfl)))
      | (refine wpAnyH_take (i := 16) (v := undef) rfl (by kernel_rfl) (by kernel_rfl) (by kernel_rfl) (fun _ _ _ h => h) (Or.inr ⟨by rfl, rfl⟩) (by assumption) ?_)
    (try simp only [Act.put, List.getElem_toArray, List.getElem_cons_zero, List.getElem_cons_succ, List.setIfInBounds_toArray, List.set_cons_zero, List.set_cons_succ])
    first
      | (refine wpAnyH_take (i := 17) (v := ?_) rfl (by kernel_rfl) (by kernel_rfl) (by kernel_rfl) (fun _ _ _ h => h) (Or.inl ⟨by rfl, ?_⟩) (by assumption) ?_; rotate_left; · ((intro w hSw; (try dsimp only at hSw); go_simp); first | done | (with_reducible rfl)))
      | (refine wpAnyH_take (i := 17) (v := undef) rfl (by kernel_rfl) (by kernel_rfl) (by kernel_rfl) (fun _ _ _ h => h) (Or.inr ⟨by rfl, rfl⟩) (by assumption) ?_)
    (try simp only [Act.put, List.getElem_toArray, List.getElem_cons_zero, List.getElem_cons_succ, List.setIfInBounds_toArray, List.set_cons_zero, List.set_cons_succ])
    first
      | (refine wpAnyH_take (i := 18) (v := ?_) rfl (by kernel_rfl) (by kernel_rfl) (by kernel_rfl) (fun _ _ _ h => h) (Or.inl ⟨by rfl, ?_⟩) (by assumption) ?_; rotate_left; · ((intro w hSw; (try dsimp only at hSw); go_simp); first | done | (with_reducible rfl)))
      | (refine wpAnyH_take (i := 18) (v := undef) rfl (by kernel_rfl) (by kernel_rfl) (by kernel_rfl) (fun _ _ _ h => h) (Or.inr ⟨by rfl, rfl⟩) (by assumption) ?_)
    (try simp only [Act.put, List.getElem_toArray, List.getElem_cons_zero, List.getElem_cons_succ, List.setIfInBounds_toArray, List.set_cons_zero, List.set_cons_succ])
    first
      | (refine wpAnyH_take (i := 19) (v := ?_) rfl (by kernel_rfl) (by kernel_rfl) (by kernel_rfl) (fun _ _ _ h => h) (Or.inl ⟨by rfl, ?_⟩) (by assumption) ?_; rotate_left; · ((intro w hSw; (try dsimp only at hSw); go_simp); first | done | (with_reducible rfl)))
      | (refine wpAnyH_take (i := 19) (v := undef) rfl (by kernel_rfl) (by kernel_rfl) (by kernel_rfl) (fun _ _ _ h => h) (Or.inr ⟨by rfl, rfl⟩) (by assumption) ?_)
    (try simp only [Act.put, List.getElem_toArray, List.getElem_cons_zero, List.getElem_cons_succ, List.setIfInBounds_toArray, List.set_cons_zero, List.set_cons_succ])
    first
      | (refine wpAnyH_take (i := 20) (v := ?_) rfl (by kernel_rfl) (by kernel_rfl) (by kernel_rfl) (fun _ _ _ h => h) (Or.inl ⟨by rfl, ?_⟩) (by assumption) ?_; rotate_left; · ((intro w hSw; (try dsimp only at hSw); go_simp); first | done | (with_reducible rfl)))
      | (refine wpAnyH_take (i := 20) (v := undef) rfl (by kernel_rfl) (by kernel_rfl) (by kernel_rfl) (fun _ _ _ h => h) (Or.inr ⟨by rfl, rfl⟩) (by assumption) ?_)
    (try simp only [Act.put, List.getElem_toArray, List.getElem_cons_zero, List.getElem_cons_succ, List.setIfInBounds_toArray, List.set_cons_zero, List.set_cons_succ])
    first
      | (refine wpAnyH_take (i := 21) (v := ?_) rfl (by kernel_rfl) (by kernel_rfl) (by kernel_rfl) (fun _ _ _ h => h) (Or.inl ⟨by rfl, ?_⟩) (by assumption) ?_; rotate_left; · ((intro w hSw; (try dsimp only at hSw); go_simp); first | done | (with_reducible rfl)))
      | (refine wpAnyH_take (i := 21) (v := undef) rfl (by kernel_rfl) (by kernel_rfl) (by kernel_rfl) (fun _ _ _ h => h) (Or.inr ⟨by rfl, rfl⟩) (by assumption) ?_)
    (try simp only [Act.put, List.getElem_toArray, List.getElem_cons_zero, List.getElem_cons_succ, List.setIfInBounds_toArray, List.set_cons_zero, List.set_cons_succ])
    first
      | (refine wpAnyH_take (i := 22) (v := ?_) rfl (by kernel_rfl) (by kernel_rfl) (by kernel_rfl) (fun _ _ _ h => h) (Or.inl ⟨by rfl, ?_⟩) (by assumption) ?_; rotate_left; · ((intro w hSw; (try dsimp only at hSw); go_simp); first | done | (with_reducible rfl)))
      | (refine wpAnyH_take (i := 22) (v := undef) rfl (by kernel_rfl) (by kernel_rfl) (by kernel_rfl) (fun _ _ _ h => h) (Or.inr ⟨by rfl, rfl⟩) (by assumption) ?_)
    (try simp only [Act.put, List.getElem_toArray, List.getElem_cons_zero, List.getElem_cons_succ, List.setIfInBounds_toArray, List.set_cons_zero, List.set_cons_succ])
    first
      | (refine wpAnyH_take (i := 23) (v := ?_) rfl (by kernel_rfl) (by kernel_rfl) (by kernel_rfl) (fun _ _ _ h => h) (Or.inl ⟨by rfl, ?_⟩) (by assumption) ?_; rotate_left; · ((intro w hSw; (try dsimp only at hSw); go_simp); first | done | (with_reducible rfl)))
      | (refine wpAnyH_take (i := 23) (v := undef) rfl (by kernel_rfl) (by kernel_rfl) (by kernel_rfl) (fun _ _ _ h => h) (Or.inr ⟨by rfl, rfl⟩) (by assumption) ?_)
    (try simp only [Act.put, List.getElem_toArray, List.getElem_cons_zero, List.getElem_cons_succ, List.setIfInBounds_toArray, List.set_cons_zero, List.set_cons_succ])
    (try dsimp only at hHeld)
    obtain ⟨s5_0, s5_1, s5_2, s5_3, s5_4, s5_5, s5_6, s5_7, s5_8, s5_9, s5_10, s5_11⟩ := hHeld
    refine wpAnyH_done (by kernel_rfl) ?_ _
    go_wp2_with fail
    refine wp_region_held_drew (S := fun w' => w'.cell? ⟨w1.heap.size, 0, none⟩ = some (.int .i64 r) ∧ w'.cell? ⟨w1.heap.size, 1, none⟩ = some (.int .i64 g) ∧ w'.cell? ⟨w1.heap.size, 2, none⟩ = some (.int .i64 b) ∧ w'.cell? ⟨w1.heap.size, 3, none⟩ = some (.int .i64 a) ∧ w'.cell? ⟨w1.heap.size + 1, 0, none⟩ = some (.int .i64 r') ∧ w'.cell? ⟨w1.heap.size + 1, 1, none⟩ = some (.int .i64 g') ∧ w'.cell? ⟨w1.heap.size + 1, 2, none⟩ = some (.int .i64 b') ∧ w'.cell? ⟨w1.heap.size + 1, 3, none⟩ = some (.int .i64 a') ∧ w'.cell? ⟨w2.heap.size, 0, none⟩ = some (.int .i64 0) ∧ w'.cell? ⟨w2.heap.size, 1, none⟩ = some (.int .i64 0) ∧ w'.cell? ⟨w2.heap.size, 2, none⟩ = some (.int .i64 0) ∧ w'.cell? ⟨w2.heap.size, 3, none⟩ = some (.int .i64 0)) (by kernel_rfl) ?_ (fun hHeld => ?_)
    · (try dsimp only)
      first | (((repeat' apply And.intro) <;> (first | ((repeat (first | (with_reducible assumption) | (with_reducible refine cell_keepD ?_) | (with_reducible refine cell_keepA ?_ _) | (with_reducible refine cell_keepS ?_ _ (by simp only []; omega)) | (with_reducible refine (hc1 _ _ (by go_size)).trans ?_))); done) | (go_cell; done)))) | fail
    (try clear cA2_0)
    (try clear cA2_1)
    (try clear cA2_2)
    (try clear cA2_3)
    (try clear cB2_0)
    (try clear cB2_1)
    (try clear cB2_2)
    (try clear cB2_3)
    (try clear cC2_0)
    (try clear cC2_1)
    (try clear cC2_2)
    (try clear cC2_3)
    (try clear fA2_0)
    (try clear fA2_1)
    (try clear fA2_2)
    (try clear fA2_3)
    (try clear fB2_0)
    (try clear fB2_1)
    (try clear fB2_2)
    (try clear fB2_3)
    (try clear fC2_0)
    (try clear fC2_1)
    (try clear fC2_2)
    (try clear fC2_3)
    (try clear s5_0)
    (try clear s5_1)
    (try clear s5_2)
    (try clear s5_3)
    (try clear s5_4)
    (try clear s5_5)
    (try clear s5_6)
    (try clear s5_7)
    (try clear s5_8)
    (try clear s5_9)
    (try clear s5_10)
    (try clear s5_11)
    first
      | (refine wpAnyH_take (i := 0) (v := ?_) rfl (by kernel_rfl) (by kernel_rfl) (by kernel_rfl) (fun _ _ _ h => h) (Or.inl ⟨by rfl, ?_⟩) (by assumption) ?_; rotate_left; · ((intro w hSw; (try dsimp only at hSw); go_simp); first | done | (with_reducible rfl)))
      | (refine wpAnyH_take (i := 0) (v := undef) rfl (by kernel_rfl) (by kernel_rfl) (by kernel_rfl) (fun _ _ _ h => h) (Or.inr ⟨by rfl, rfl⟩) (by assumption) ?_)
    (try simp only [Act.put, List.getElem_toArray, List.getElem_cons_zero, List.getElem_cons_succ, List.setIfInBounds_toArray, List.set_cons_zero, List.set_cons_succ])
    first
      | (refine wpAnyH_take (i := 1) (v := ?_) rfl (by kernel_rfl) (by kernel_rfl) (by kernel_rfl) (fun _ _ _ h => h) (Or.inl ⟨by rfl, ?_⟩) (by assumption) ?_; rotate_left; · ((intro w hSw; (try dsimp only at hSw); go_simp); first | done | (with_reducible rfl)))
      | (refine wpAnyH_take (i := 1) (v := undef) rfl (by kernel_rfl) (by kernel_rfl) (by kernel_rfl) (fun _ _ _ h => h) (Or.inr ⟨by rfl, rfl⟩) (by assumption) ?_)
    (try simp only [Act.put, List.getElem_toArray, List.getElem_cons_zero, List.getElem_cons_succ, List.setIfInBounds_toArray, List.set_cons_zero, List.set_cons_succ])
    first
      | (refine wpAnyH_take (i := 2) (v := ?_) rfl (by kernel_rfl) (by kernel_rfl) (by kernel_rfl) (fun _ _ _ h => h) (Or.inl ⟨by rfl, ?_⟩) (by assumption) ?_; rotate_left; · ((intro w hSw; (try dsimp only at hSw); go_simp); first | done | (with_reducible rfl)))
      | (refine wpAnyH_take (i := 2) (v := undef) rfl (by kernel_rfl) (by kernel_rfl) (by kernel_rfl) (fun _ _ _ h => h) (Or.inr ⟨by rfl, rfl⟩) (by assumption) ?_)
    (try simp only [Act.put, List.getElem_toArray, List.getElem_cons_zero, List.getElem_cons_succ, List.setIfInBounds_toArray, List.set_cons_zero, List.set_cons_succ])
    first
      | (refine wpAnyH_take (i := 3) (v := ?_) rfl (by kernel_rfl) (by kernel_rfl) (by kernel_rfl) (fun _ _ _ h => h) (Or.inl ⟨by rfl, ?_⟩) (by assumption) ?_; rotate_left; · ((intro w hSw; (try dsimp only at hSw); go_simp); first | done | (with_reducible rfl)))
      | (refine wpAnyH_take (i := 3) (v := undef) rfl (by kernel_rfl) (by kernel_rfl) (by kernel_rfl) (fun _ _ _ h => h) (Or.inr ⟨by rfl, rfl⟩) (by assumption) ?_)
    (try simp only [Act.put, List.getElem_toArray, List.getElem_cons_zero, List.getElem_cons_succ, List.setIfInBounds_toArray, List.set_cons_zero, List.set_cons_succ])
    refine wpAnyH_ready (rs := [4]) (by kernel_rfl) (by simp) (AllReadyH.cons rfl (fun K hK => ?_) AllReadyH.nil)
    (try go_simp)
    first
      | (refine hK.out _ _ ?_ (fun hNew => ?_))
      | (((first | (go_at_call 20; refine (MixColor_s0 _ _ _ _ _ _ _ _ _ _ HH.out).mono ?_; rintro e wz ⟨rfl, hbz⟩; obtain ⟨hc1, hf1⟩ := bcell hbz; have hz1 := hbz.size; (try simp only [World.size_alloc, World.size_setCell, World.size_drew] at hz1); have z0a : w1.heap.size < wz.heap.size := (by omega); have z0b : w1.heap.size < wz.heap.size + 1 := (by omega); have z0c : w1.heap.size < wz.heap.size + 1 + 1 := (by omega); have z0d : w1.heap.size < wz.heap.size + 1 + 1 + 1 := (by omega); have z1a : w1.heap.size + 1 < wz.heap.size := (by omega); have z1b : w1.heap.size + 1 < wz.heap.size + 1 := (by omega); have z1c : w1.heap.size + 1 < wz.heap.size + 1 + 1 := (by omega); have z1d : w1.heap.size + 1 < wz.heap.size + 1 + 1 + 1 := (by omega); have z2a : w2.heap.size < wz.heap.size := (by omega); have z2b : w2.heap.size < wz.heap.size + 1 := (by omega); have z2c : w2.heap.size < wz.heap.size + 1 + 1 := (by omega); have z2d : w2.heap.size < wz.heap.size + 1 + 1 + 1 := (by omega); have BZ : Below w.heap.size w wz := below_then (by first | (have hhh := HB3.out; go_grown; done) | (have hhh := HB2.out; go_grown; done) | fail) hbz; clear hbz) | (go_at_call 16; refine (ValidColor_i _ _ _ _ _).mono ?_; rintro e wz ⟨rfl, rfl⟩))); (try go_wp2_with fail); (refine hK.out _ _ ?_ (fun hNew => ?_)))
      | fail
    · (try dsimp only)
      first | ((try go_split_ands); (((repeat' apply And.intro) <;> (first | ((repeat (first | (with_reducible assumption) | (with_reducible refine cell_keepD ?_) | (with_reducible refine cell_keepA ?_ _) | (with_reducible refine cell_keepS ?_ _ (by simp only []; omega)) | (with_reducible refine (hc1 _ _ (by go_size)).trans ?_))); done) | (go_cell; done))))) | fail
    clear hK K hHeld
    have hHeld := hNew
    clear hNew
    (try clear hc1)
    (try clear hf1)
    (try simp only [Act.put, List.getElem_toArray, List.getElem_cons_zero, List.getElem_cons_succ, List.setIfInBounds_toArray, List.set_cons_zero, List.set_cons_succ])
    first
      | (refine wpAnyH_take (i := 5) (v := ?_) rfl (by kernel_rfl) (by kernel_rfl) (by kernel_rfl) (fun _ _ _ h => h) (Or.inl ⟨by rfl, ?_⟩) (by assumption) ?_; rotate_left; · ((intro w hSw; (try dsimp only at hSw); go_simp); first | done | (with_reducible rfl)))
      | (refine wpAnyH_take (i := 5) (v := undef) rfl (by kernel_rfl) (by kernel_rfl) (by kernel_rfl) (fun _ _ _ h => h) (Or.inr ⟨by rfl, rfl⟩) (by assumption) ?_)
    (try simp only [Act.put, List.getElem_toArray, List.getElem_cons_zero, List.getElem_cons_succ, List.setIfInBounds_toArray, List.set_cons_zero, List.set_cons_succ])
    first
      | (refine wpAnyH_take (i := 6) (v := ?_) rfl (by kernel_rfl) (by kernel_rfl) (by kernel_rfl) (fun _ _ _ h => h) (Or.inl ⟨by rfl, ?_⟩) (by assumption) ?_; rotate_left; · ((intro w hSw; (try dsimp only at hSw); go_simp); first | done | (with_reducible rfl)))
      | (refine wpAnyH_take (i := 6) (v := undef) rfl (by kernel_rfl) (by kernel_rfl) (by kernel_rfl) (fun _ _ _ h => h) (Or.inr ⟨by rfl, rfl⟩) (by assumption) ?_)
    (try simp only [Act.put, List.getElem_toArray, List.getElem_cons_zero, List.getElem_cons_succ, List.setIfInBounds_toArray, List.set_cons_zero, List.set_cons_succ])
    (try dsimp only at hHeld)
    obtain ⟨s6_0, s6_1, s6_2, s6_3, s6_4, s6_5, s6_6, s6_7, s6_8, s6_9, s6_10, s6_11⟩ := hHeld
    refine wpAnyH_done (by kernel_rfl) ?_ _
    go_wp2_with (first | (go_at_call 16; refine (ValidColor_i _ _ _ _ _).mono ?_; rintro e wz ⟨rfl, rfl⟩) | fail)
    all_goals
      go_ret
      exact ⟨ret_b (by first | rfl | (simp; done) | (simp [*]; done) | (simp; omega)), by have hhh := HB2.out; go_grown⟩
  have g1 := colB_true.1 h1
  have g2 := colB_true.1 h2
  have mr0 := mx_zero r r'
  have mr1 := mx_full r r'
  have mg0 := mx_zero g g'
  have mg1 := mx_full g g'
  have mb0 := mx_zero b b'
  have mb1 := mx_full b b'
  have ma0 := mx_zero a a'
  have ma1 := mx_full a a'
  have sr := mx_same r t
  have sg := mx_same g t
  have sb := mx_same b t
  have sa := mx_same a t
  have ev := mx_valid (t := t) (by omega) (by omega) h1 h2
  obtain ⟨br1, br2⟩ := mx_between (x := r) (y := r') (t := t) (by omega) (by omega)
  obtain ⟨ba1, ba2⟩ := mx_between (x := a) (y := a') (t := t) (by omega) (by omega)
  have nr : (if r' < r then r' else r) = min r r' := by split <;> omega
  have xr : (if r < r' then r' else r) = max r r' := by split <;> omega
  obtain ⟨mnr, hmnr⟩ : ∃ z, z = min r r' := ⟨_, rfl⟩
  obtain ⟨mxxr, hmxr⟩ : ∃ z, z = max r r' := ⟨_, rfl⟩
  rw [← hmnr] at nr br1
  rw [← hmxr] at xr br2
  have dnr : decide (mnr ≤ mx r r' t) = true := by rw [decide_eq_true_eq]; exact br1
  have dxr : decide (mx r r' t ≤ mxxr) = true := by rw [decide_eq_true_eq]; exact br2
  clear hmnr hmxr
  have na : (if a' < a then a' else a) = min a a' := by split <;> omega
  have xa : (if a < a' then a' else a) = max a a' := by split <;> omega
  obtain ⟨mna, hmna⟩ : ∃ z, z = min a a' := ⟨_, rfl⟩
  obtain ⟨mxxa, hmxa⟩ : ∃ z, z = max a a' := ⟨_, rfl⟩
  rw [← hmna] at na ba1
  rw [← hmxa] at xa ba2
  have dna : decide (mna ≤ mx a a' t) = true := by rw [decide_eq_true_eq]; exact ba1
  have dxa : decide (mx a a' t ≤ mxxa) = true := by rw [decide_eq_true_eq]; exact ba2
  clear hmna hmxa
  have hn1 : decide (t < 0) = false := by simp; omega
  have hn2 : decide (256 < t) = false := by simp; omega
  go_wp2_with fail
  refine (MixColor_iV _ _ _ _ _ _ _ _ _ _ h1 h2 (by omega) (by omega)).mono ?_
  rintro e w2 ⟨rfl, hb2⟩
  have A2 := Lib.hid (show Row w2 (w1.heap.size) 25 4 (col r g b a) from Row.below (Row.alloc (row_col1 _ _ _ _ _ _ _ (by go_size)) _) hb2 (by go_size))
  have B2 := Lib.hid (show Row w2 (w1.heap.size + 1) 25 4 (col r' g' b' a') from Row.below (row_col1 _ _ _ _ _ _ _ (by go_size)) hb2 (by go_size))
  have HB2 := Lib.hid (show Below w.heap.size w w2 from below_then (by have hhh := HB1.out; go_grown) hb2)
  have hs2 := hb2.size
  (try simp only [World.size_alloc, World.size_setCell, World.size_drew] at hs2)
  clear hb2
  obtain ⟨⟨cA2_0, cA2_1, cA2_2, cA2_3⟩, fA2_0, fA2_1, fA2_2, fA2_3⟩ := col_cells A2.out
  obtain ⟨⟨cB2_0, cB2_1, cB2_2, cB2_3⟩, fB2_0, fB2_1, fB2_2, fB2_3⟩ := col_cells B2.out
  go_wp2_with fail
  refine wp_region_held_drew (S := fun w' => w'.cell? ⟨w1.heap.size, 0, none⟩ = some (.int .i64 r) ∧ w'.cell? ⟨w1.heap.size, 1, none⟩ = some (.int .i64 g) ∧ w'.cell? ⟨w1.heap.size, 2, none⟩ = some (.int .i64 b) ∧ w'.cell? ⟨w1.heap.size, 3, none⟩ = some (.int .i64 a) ∧ w'.cell? ⟨w1.heap.size + 1, 0, none⟩ = some (.int .i64 r') ∧ w'.cell? ⟨w1.heap.size + 1, 1, none⟩ = some (.int .i64 g') ∧ w'.cell? ⟨w1.heap.size + 1, 2, none⟩ = some (.int .i64 b') ∧ w'.cell? ⟨w1.heap.size + 1, 3, none⟩ = some (.int .i64 a') ∧ w'.cell? ⟨w2.heap.size, 0, none⟩ = some (.int .i64 (mx r r' t)) ∧ w'.cell? ⟨w2.heap.size, 1, none⟩ = some (.int .i64 (mx g g' t)) ∧ w'.cell? ⟨w2.heap.size, 2, none⟩ = some (.int .i64 (mx b b' t)) ∧ w'.cell? ⟨w2.heap.size, 3, none⟩ = some (.int .i64 (mx a a' t))) (by kernel_rfl) ?_ (fun hHeld => ?_)
  · (try dsimp only)
    first | (((repeat' apply And.intro) <;> (first | ((repeat (first | (with_reducible assumption) | (with_reducible refine cell_keepD ?_) | (with_reducible refine cell_keepA ?_ _) | (with_reducible refine cell_keepS ?_ _ (by simp only []; omega)) | (with_reducible refine (hc1 _ _ (by go_size)).trans ?_))); done) | (go_cell; done)))) | fail
  (try clear cA2_0)
  (try clear cA2_1)
  (try clear cA2_2)
  (try clear cA2_3)
  (try clear cB2_0)
  (try clear cB2_1)
  (try clear cB2_2)
  (try clear cB2_3)
  (try clear cC2_0)
  (try clear cC2_1)
  (try clear cC2_2)
  (try clear cC2_3)
  (try clear fA2_0)
  (try clear fA2_1)
  (try clear fA2_2)
  (try clear fA2_3)
  (try clear fB2_0)
  (try clear fB2_1)
  (try clear fB2_2)
  (try clear fB2_3)
  (try clear fC2_0)
  (try clear fC2_1)
  (try clear fC2_2)
  (try clear fC2_3)
  first
    | (refine wpAnyH_take (i := 0) (v := ?_) rfl (by kernel_rfl) (by kernel_rfl) (by kernel_rfl) (fun _ _ _ h => h) (Or.inl ⟨by rfl, ?_⟩) (by assumption) ?_; rotate_left; · ((intro w hSw; (try dsimp only at hSw); go_simp); first | done | (with_reducible rfl)))
    | (refine wpAnyH_take (i := 0) (v := undef) rfl (by kernel_rfl) (by kernel_rfl) (by kernel_rfl) (fun _ _ _ h => h) (Or.inr ⟨by rfl, rfl⟩) (by assumption) ?_)
  (try simp only [Act.put, List.getElem_toArray, List.getElem_cons_zero, List.getElem_cons_succ, List.setIfInBounds_toArray, List.set_cons_zero, List.set_cons_succ])
  first
    | (refine wpAnyH_take (i := 1) (v := ?_) rfl (by kernel_rfl) (by kernel_rfl) (by kernel_rfl) (fun _ _ _ h => h) (Or.inl ⟨by rfl, ?_⟩) (by assumption) ?_; rotate_left; · ((intro w hSw; (try dsimp only at hSw); go_simp); first | done | (with_reducible rfl)))
    | (refine wpAnyH_take (i := 1) (v := undef) rfl (by kernel_rfl) (by kernel_rfl) (by kernel_rfl) (fun _ _ _ h => h) (Or.inr ⟨by rfl, rfl⟩) (by assumption) ?_)
  (try simp only [Act.put, List.getElem_toArray, List.getElem_cons_zero, List.getElem_cons_succ, List.setIfInBounds_toArray, List.set_cons_zero, List.set_cons_succ])
  first
    | (refine wpAnyH_take (i := 2) (v := ?_) rfl (by kernel_rfl) (by kernel_rfl) (by kernel_rfl) (fun _ _ _ h => h) (Or.inl ⟨by rfl, ?_⟩) (by assumption) ?_; rotate_left; · ((intro w hSw; (try dsimp only at hSw); go_simp); first | done | (with_reducible rfl)))
    | (refine wpAnyH_take (i := 2) (v := undef) rfl (by kernel_rfl) (by kernel_rfl) (by kernel_rfl) (fun _ _ _ h => h) (Or.inr ⟨by rfl, rfl⟩) (by assumption) ?_)
  (try simp only [Act.put, List.getElem_toArray, List.getElem_cons_zero, List.getElem_cons_succ, List.setIfInBounds_toArray, List.set_cons_zero, List.set_cons_succ])
  first
    | (refine wpAnyH_take (i := 3) (v := ?_) rfl (by kernel_rfl) (by kernel_rfl) (by kernel_rfl) (fun _ _ _ h => h) (Or.inl ⟨by rfl, ?_⟩) (by assumption) ?_; rotate_left; · ((intro w hSw; (try dsimp only at hSw); go_simp); first | done | (with_reducible rfl)))
    | (refine wpAnyH_take (i := 3) (v := undef) rfl (by kernel_rfl) (by kernel_rfl) (by kernel_rfl) (fun _ _ _ h => h) (Or.inr ⟨by rfl, rfl⟩) (by assumption) ?_)
  (try simp only [Act.put, List.getElem_toArray, List.getElem_cons_zero, List.getElem_cons_succ, List.setIfInBounds_toArray, List.set_cons_zero, List.set_cons_succ])
  refine wpAnyH_ready (rs := [4]) (by kernel_rfl) (by simp) (AllReadyH.cons rfl (fun K hK => ?_) AllReadyH.nil)
  (try go_simp)
  first
    | (refine hK.out _ _ ?_ (fun hNew => ?_))
    | (((first | (go_at_call 20; refine (MixColor_sV _ _ _ _ _ _ _ _ _ _ h1 h2 (by omega) (by omega)).mono ?_; rintro e wz ⟨rfl, hbz⟩; obtain ⟨hc1, hf1⟩ := bcell hbz; have hz1 := hbz.size; (try simp only [World.size_alloc, World.size_setCell, World.size_drew] at hz1); have z0a : w1.heap.size < wz.heap.size := (by omega); have z0b : w1.heap.size < wz.heap.size + 1 := (by omega); have z0c : w1.heap.size < wz.heap.size + 1 + 1 := (by omega); have z0d : w1.heap.size < wz.heap.size + 1 + 1 + 1 := (by omega); have z1a : w1.heap.size + 1 < wz.heap.size := (by omega); have z1b : w1.heap.size + 1 < wz.heap.size + 1 := (by omega); have z1c : w1.heap.size + 1 < wz.heap.size + 1 + 1 := (by omega); have z1d : w1.heap.size + 1 < wz.heap.size + 1 + 1 + 1 := (by omega); have z2a : w2.heap.size < wz.heap.size := (by omega); have z2b : w2.heap.size < wz.heap.size + 1 := (by omega); have z2c : w2.heap.size < wz.heap.size + 1 + 1 := (by omega); have z2d : w2.heap.size < wz.heap.size + 1 + 1 + 1 := (by omega); have BZ : Below w.heap.size w wz := below_then (by first | (have hhh := HB3.out; go_grown; done) | (have hhh := HB2.out; go_grown; done) | fail) hbz; clear hbz) | (go_at_call 16; refine (ValidColor_i _ _ _ _ _).mono ?_; rintro e wz ⟨rfl, rfl⟩) | (go_at_call 21; refine (MixColor_iV _ _ _ _ _ _ _ _ _ _ (by assumption) (by assumption) (by omega) (by omega)).mono ?_; rintro e wz ⟨rfl, hbz⟩; obtain ⟨hc1, hf1⟩ := bcell hbz; have hz1 := hbz.size; (try simp only [World.size_alloc, World.size_setCell, World.size_drew] at hz1); have z0a : w1.heap.size < wz.heap.size := (by omega); have z0b : w1.heap.size < wz.heap.size + 1 := (by omega); have z0c : w1.heap.size < wz.heap.size + 1 + 1 := (by omega); have z0d : w1.heap.size < wz.heap.size + 1 + 1 + 1 := (by omega); have z1a : w1.heap.size + 1 < wz.heap.size := (by omega); have z1b : w1.heap.size + 1 < wz.heap.size + 1 := (by omega); have z1c : w1.heap.size + 1 < wz.heap.size + 1 + 1 := (by omega); have z1d : w1.heap.size + 1 < wz.heap.size + 1 + 1 + 1 := (by omega); have z2a : w2.heap.size < wz.heap.size := (by omega); have z2b : w2.heap.size < wz.heap.size + 1 := (by omega); have z2c : w2.heap.size < wz.heap.size + 1 + 1 := (by omega); have z2d : w2.heap.size < wz.heap.size + 1 + 1 + 1 := (by omega); have BZ : Below w.heap.size w wz := below_then (by first | (have hhh := HB3.out; go_grown; done) | (have hhh := HB2.out; go_grown; done) | fail) hbz; clear hbz))); (try go_wp2_with fail); (refine hK.out _ _ ?_ (fun hNew => ?_)))
    | fail
  · (try dsimp only)
    first | ((try go_split_ands); (((repeat' apply And.intro) <;> (first | ((repeat (first | (with_reducible assumption) | (with_reducible refine cell_keepD ?_) | (with_reducible refine cell_keepA ?_ _) | (with_reducible refine cell_keepS ?_ _ (by simp only []; omega)) | (with_reducible refine (hc1 _ _ (by go_size)).trans ?_))); done) | (go_cell; done))))) | fail
  clear hK K hHeld
  have hHeld := hNew
  clear hNew
  (try clear hc1)
  (try clear hf1)
  (try simp only [Act.put, List.getElem_toArray, List.getElem_cons_zero, List.getElem_cons_succ, List.setIfInBounds_toArray, List.set_cons_zero, List.set_cons_succ])
  first
    | (refine wpAnyH_take (i := 5) (v := ?_) rfl (by kernel_rfl) (by kernel_rfl) (by kernel_rfl) (fun _ _ _ h => h) (Or.inl ⟨by rfl, ?_⟩) (by assumption) ?_; rotate_left; · ((intro w hSw; (try dsimp only at hSw); go_simp); first | done | (with_reducible rfl)))
    | (refine wpAnyH_take (i := 5) (v := undef) rfl (by kernel_rfl) (by kernel_rfl) (by kernel_rfl) (fun _ _ _ h => h) (Or.inr ⟨by rfl, rfl⟩) (by assumption) ?_)
  (try simp only [Act.put, List.getElem_toArray, List.getElem_cons_zero, List.getElem_cons_succ, List.setIfInBounds_toArray, List.set_cons_zero, List.set_cons_succ])
  first
    | (refine wpAnyH_take (i := 6) (v := ?_) rfl (by kernel_rfl) (by kernel_rfl) (by kernel_rfl) (fun _ _ _ h => h) (Or.inl ⟨by rfl, ?_⟩) (by assumption) ?_; rotate_left; · ((intro w hSw; (try dsimp only at hSw); go_simp); first | done | (with_reducible rfl)))
    | (refine wpAnyH_take (i := 6) (v := undef) rfl (by kernel_rfl) (by kernel_rfl) (by kernel_rfl) (fun _ _ _ h => h) (Or.inr ⟨by rfl, rfl⟩) (by assumption) ?_)
  (try simp only [Act.put, List.getElem_toArray, List.getElem_cons_zero, List.getElem_cons_succ, List.setIfInBounds_toArray, List.set_cons_zero, List.set_cons_succ])
  first
    | (refine wpAnyH_take (i := 7) (v := ?_) rfl (by kernel_rfl) (by kernel_rfl) (by kernel_rfl) (fun _ _ _ h => h) (Or.inl ⟨by rfl, ?_⟩) (by assumption) ?_; rotate_left; · ((intro w hSw; (try dsimp only at hSw); go_simp); first | done | (with_reducible rfl)))
    | (refine wpAnyH_take (i := 7) (v := undef) rfl (by kernel_rfl) (by kernel_rfl) (by kernel_rfl) (fun _ _ _ h => h) (Or.inr ⟨by rfl, rfl⟩) (by assumption) ?_)
  (try simp only [Act.put, List.getElem_toArray, List.getElem_cons_zero, List.getElem_cons_succ, List.setIfInBounds_toArray, List.set_cons_zero, List.set_cons_succ])
  refine wpAnyH_ready (rs := [8]) (by kernel_rfl) (by simp) (AllReadyH.cons rfl (fun K hK => ?_) AllReadyH.nil)
  (try go_simp)
  first
    | (refine hK.out _ _ ?_ (fun hNew => ?_))
    | (((first | (go_at_call 20; refine (MixColor_sV _ _ _ _ _ _ _ _ _ _ h1 h2 (by omega) (by omega)).mono ?_; rintro e wz ⟨rfl, hbz⟩; obtain ⟨hc1, hf1⟩ := bcell hbz; have hz1 := hbz.size; (try simp only [World.size_alloc, World.size_setCell, World.size_drew] at hz1); have z0a : w1.heap.size < wz.heap.size := (by omega); have z0b : w1.heap.size < wz.heap.size + 1 := (by omega); have z0c : w1.heap.size < wz.heap.size + 1 + 1 := (by omega); have z0d : w1.heap.size < wz.heap.size + 1 + 1 + 1 := (by omega); have z1a : w1.heap.size + 1 < wz.heap.size := (by omega); have z1b : w1.heap.size + 1 < wz.heap.size + 1 := (by omega); have z1c : w1.heap.size + 1 < wz.heap.size + 1 + 1 := (by omega); have z1d : w1.heap.size + 1 < wz.heap.size + 1 + 1 + 1 := (by omega); have z2a : w2.heap.size < wz.heap.size := (by omega); have z2b : w2.heap.size < wz.heap.size + 1 := (by omega); have z2c : w2.heap.size < wz.heap.size + 1 + 1 := (by omega); have z2d : w2.heap.size < wz.heap.size + 1 + 1 + 1 := (by omega); have BZ : Below w.heap.size w wz := below_then (by first | (have hhh := HB3.out; go_grown; done) | (have hhh := HB2.out; go_grown; done) | fail) hbz; clear hbz) | (go_at_call 16; refine (ValidColor_i _ _ _ _ _).mono ?_; rintro e wz ⟨rfl, rfl⟩) | (go_at_call 21; refine (MixColor_iV _ _ _ _ _ _ _ _ _ _ (by assumption) (by assumption) (by omega) (by omega)).mono ?_; rintro e wz ⟨rfl, hbz⟩; obtain ⟨hc1, hf1⟩ := bcell hbz; have hz1 := hbz.size; (try simp only [World.size_alloc, World.size_setCell, World.size_drew] at hz1); have z0a : w1.heap.size < wz.heap.size := (by omega); have z0b : w1.heap.size < wz.heap.size + 1 := (by omega); have z0c : w1.heap.size < wz.heap.size + 1 + 1 := (by omega); have z0d : w1.heap.size < wz.heap.size + 1 + 1 + 1 := (by omega); have z1a : w1.heap.size + 1 < wz.heap.size := (by omega); have z1b : w1.heap.size + 1 < wz.heap.size + 1 := (by omega); have z1c : w1.heap.size + 1 < wz.heap.size + 1 + 1 := (by omega); have z1d : w1.heap.size + 1 < wz.heap.size + 1 + 1 + 1 := (by omega); have z2a : w2.heap.size < wz.heap.size := (by omega); have z2b : w2.heap.size < wz.heap.size + 1 := (by omega); have z2c : w2.heap.size < wz.heap.size + 1 + 1 := (by omega); have z2d : w2.heap.size < wz.heap.size + 1 + 1 + 1 := (by omega); have BZ : Below w.heap.size w wz := below_then (by first | (have hhh := HB3.out; go_grown; done) | (have hhh := HB2.out; go_grown; done) | fail) hbz; clear hbz))); (try go_wp2_with fail); (refine hK.out _ _ ?_ (fun hNew => ?_)))
    | fail
  · (try dsimp only)
    first | ((try go_split_ands); (((repeat' apply And.intro) <;> (first | ((repeat (first | (with_reducible assumption) | (with_reducible refine cell_keepD ?_) | (with_reducible refine cell_keepA ?_ _) | (with_reducible refine cell_keepS ?_ _ (by simp only []; omega)) | (with_reducible refine (hc1 _ _ (by go_size)).trans ?_))); done) | (go_cell; done))))) | fail
  clear hK K hHeld
  have hHeld := hNew
  clear hNew
  (try clear hc1)
  (try clear hf1)
  (try simp only [Act.put, List.getElem_toArray, List.getElem_cons_zero, List.getElem_cons_succ, List.setIfInBounds_toArray, List.set_cons_zero, List.set_cons_succ])
  first
    | (refine wpAnyH_take (i := 9) (v := ?_) rfl (by kernel_rfl) (by kernel_rfl) (by kernel_rfl) (fun _ _ _ h => h) (Or.inl ⟨by rfl, ?_⟩) (by assumption) ?_; rotate_left; · ((intro w hSw; (try dsimp only at hSw); go_simp); first | done | (with_reducible rfl)))
    | (refine wpAnyH_take (i := 9) (v := undef) rfl (by kernel_rfl) (by kernel_rfl) (by kernel_rfl) (fun _ _ _ h => h) (Or.inr ⟨by rfl, rfl⟩) (by assumption) ?_)
  (try simp only [Act.put, List.getElem_toArray, List.getElem_cons_zero, List.getElem_cons_succ, List.setIfInBounds_toArray, List.set_cons_zero, List.set_cons_succ])
  first
    | (refine wpAnyH_take (i := 10) (v := ?_) rfl (by kernel_rfl) (by kernel_rfl) (by kernel_rfl) (fun _ _ _ h => h) (Or.inl ⟨by rfl, ?_⟩) (by assumption) ?_; rotate_left; · ((intro w hSw; (try dsimp only at hSw); go_simp); first | done | (with_reducible rfl)))
    | (refine wpAnyH_take (i := 10) (v := undef) rfl (by kernel_rfl) (by kernel_rfl) (by kernel_rfl) (fun _ _ _ h => h) (Or.inr ⟨by rfl, rfl⟩) (by assumption) ?_)
  (try simp only [Act.put, List.getElem_toArray, List.getElem_cons_zero, List.getElem_cons_succ, List.setIfInBounds_toArray, List.set_cons_zero, List.set_cons_succ])
  first
    | (refine wpAnyH_take (i := 11) (v := ?_) rfl (by kernel_rfl) (by kernel_rfl) (by kernel_rfl) (fun _ _ _ h => h) (Or.inl ⟨by rfl, ?_⟩) (by assumption) ?_; rotate_left; · ((intro w hSw; (try dsimp only at hSw); go_simp); first | done | (with_reducible rfl)))
    | (refine wpAnyH_take (i := 11) (v := undef) rfl (by kernel_rfl) (by kernel_rfl) (by kernel_rfl) (fun _ _ _ h => h) (Or.inr ⟨by rfl, rfl⟩) (by assumption) ?_)
  (try simp only [Act.put, List.getElem_toArray, List.getElem_cons_zero, List.getElem_cons_succ, List.setIfInBounds_toArray, List.set_cons_zero, List.set_cons_succ])
  first
    | (refine wpAnyH_take (i := 12) (v := ?_) rfl (by kernel_rfl) (by kernel_rfl) (by kernel_rfl) (fun _ _ _ h => h) (Or.inl ⟨by rfl, ?_⟩) (by assumption) ?_; rotate_left; · ((intro w hSw; (try dsimp only at hSw); go_simp); first | done | (with_reducible rfl)))
    | (refine wpAnyH_take (i := 12) (v := undef) rfl (by kernel_rfl) (by kernel_rfl) (by kernel_rfl) (fun _ _ _ h => h) (Or.inr ⟨by rfl, rfl⟩) (by assumption) ?_)
  (try simp only [Act.put, List.getElem_toArray, List.getElem_cons_zero, List.getElem_cons_succ, List.setIfInBounds_toArray, List.set_cons_zero, List.set_cons_succ])
  refine wpAnyH_ready (rs := [13]) (by kernel_rfl) (by simp) (AllReadyH.cons rfl (fun K hK => ?_) AllReadyH.nil)
  (try go_simp)
  first
    | (refine hK.out _ _ ?_ (fun hNew => ?_))
    | (((first | (go_at_call 20; refine (MixColor_sV _ _ _ _ _ _ _ _ _ _ h1 h2 (by omega) (by omega)).mono ?_; rintro e wz ⟨rfl, hbz⟩; obtain ⟨hc1, hf1⟩ := bcell hbz; have hz1 := hbz.size; (try simp only [World.size_alloc, World.size_setCell, World.size_drew] at hz1); have z0a : w1.heap.size < wz.heap.size := (by omega); have z0b : w1.heap.size < wz.heap.size + 1 := (by omega); have z0c : w1.heap.size < wz.heap.size + 1 + 1 := (by omega); have z0d : w1.heap.size < wz.heap.size + 1 + 1 + 1 := (by omega); have z1a : w1.heap.size + 1 < wz.heap.size := (by omega); have z1b : w1.heap.size + 1 < wz.heap.size + 1 := (by omega); have z1c : w1.heap.size + 1 < wz.heap.size + 1 + 1 := (by omega); have z1d : w1.heap.size + 1 < wz.heap.size + 1 + 1 + 1 := (by omega); have z2a : w2.heap.size < wz.heap.size := (by omega); have z2b : w2.heap.size < wz.heap.size + 1 := (by omega); have z2c : w2.heap.size < wz.heap.size + 1 + 1 := (by omega); have z2d : w2.heap.size < wz.heap.size + 1 + 1 + 1 := (by omega); have BZ : Below w.heap.size w wz := below_then (by first | (have hhh := HB3.out; go_grown; done) | (have hhh := HB2.out; go_grown; done) | fail) hbz; clear hbz) | (go_at_call 16; refine (ValidColor_i _ _ _ _ _).mono ?_; rintro e wz ⟨rfl, rfl⟩) | (go_at_call 21; refine (MixColor_iV _ _ _ _ _ _ _ _ _ _ (by assumption) (by assumption) (by omega) (by omega)).mono ?_; rintro e wz ⟨rfl, hbz⟩; obtain ⟨hc1, hf1⟩ := bcell hbz; have hz1 := hbz.size; (try simp only [World.size_alloc, World.size_setCell, World.size_drew] at hz1); have z0a : w1.heap.size < wz.heap.size := (by omega); have z0b : w1.heap.size < wz.heap.size + 1 := (by omega); have z0c : w1.heap.size < wz.heap.size + 1 + 1 := (by omega); have z0d : w1.heap.size < wz.heap.size + 1 + 1 + 1 := (by omega); have z1a : w1.heap.size + 1 < wz.heap.size := (by omega); have z1b : w1.heap.size + 1 < wz.heap.size + 1 := (by omega); have z1c : w1.heap.size + 1 < wz.heap.size + 1 + 1 := (by omega); have z1d : w1.heap.size + 1 < wz.heap.size + 1 + 1 + 1 := (by omega); have z2a : w2.heap.size < wz.heap.size := (by omega); have z2b : w2.heap.size < wz.heap.size + 1 := (by omega); have z2c : w2.heap.size < wz.heap.size + 1 + 1 := (by omega); have z2d : w2.heap.size < wz.heap.size + 1 + 1 + 1 := (by omega); have BZ : Below w.heap.size w wz := below_then (by first | (have hhh := HB3.out; go_grown; done) | (have hhh := HB2.out; go_grown; done) | fail) hbz; clear hbz))); (try go_wp2_with fail); (refine hK.out _ _ ?_ (fun hNew => ?_)))
    | fail
  · (try dsimp only)
    first | ((try go_split_ands); (((repeat' apply And.intro) <;> (first | ((repeat (first | (with_reducible assumption) | (with_reducible refine cell_keepD ?_) | (with_reducible refine cell_keepA ?_ _) | (with_reducible refine cell_keepS ?_ _ (by simp only []; omega)) | (with_reducible refine (hc1 _ _ (by go_size)).trans ?_))); done) | (go_cell; done))))) | fail
  clear hK K hHeld
  have hHeld := hNew
  clear hNew
  (try clear hc1)
  (try clear hf1)
  (try simp only [Act.put, List.getElem_toArray, List.getElem_cons_zero, List.getElem_cons_succ, List.setIfInBounds_toArray, List.set_cons_zero, List.set_cons_succ])
  first
    | (refine wpAnyH_take (i := 14) (v := ?_) rfl (by kernel_rfl) (by kernel_rfl) (by kernel_rfl) (fun _ _ _ h => h) (Or.inl ⟨by rfl, ?_⟩) (by assumption) ?_; rotate_left; · ((intro w hSw; (try dsimp only at hSw); go_simp); first | done | (with_reducible rfl)))
    | (refine wpAnyH_take (i := 14) (v := undef) rfl (by kernel_rfl) (by kernel_rfl) (by kernel_rfl) (fun _ _ _ h => h) (Or.inr ⟨by rfl, rfl⟩) (by assumption) ?_)
  (try simp only [Act.put, List.getElem_toArray, List.getElem_cons_zero, List.getElem_cons_succ, List.setIfInBounds_toArray, List.set_cons_zero, List.set_cons_succ])
  first
    | (refine wpAnyH_take (i := 15) (v := ?_) rfl (by kernel_rfl) (by kernel_rfl) (by kernel_rfl) (fun _ _ _ h => h) (Or.inl ⟨by rfl, ?_⟩) (by assumption) ?_; rotate_left; · ((intro w hSw; (try dsimp only at hSw); go_simp); first | done | (with_reducible rfl)))
    | (refine wpAnyH_take (i := 15) (v := undef) rfl (by kernel_rfl) (by kernel_rfl) (by kernel_rfl) (fun _ _ _ h => h) (Or.inr ⟨by rfl, rfl⟩) (by assumption) ?_)
  (try simp only [Act.put, List.getElem_toArray, List.getElem_cons_zero, List.getElem_cons_succ, List.setIfInBounds_toArray, List.set_cons_zero, List.set_cons_succ])
  first
    | (refine wpAnyH_take (i := 16) (v := ?_) rfl (by kernel_rfl) (by kernel_rfl) (by kernel_rfl) (fun _ _ _ h => h) (Or.inl ⟨by rfl, ?_⟩) (by assumption) ?_; rotate_left; · ((intro w hSw; (try dsimp only at hSw); go_simp); first | done | (with_reducible rfl)))
    | (refine wpAnyH_take (i := 16) (v := undef) rfl (by kernel_rfl) (by kernel_rfl) (by kernel_rfl) (fun _ _ _ h => h) (Or.inr ⟨by rfl, rfl⟩) (by assumption) ?_)
  (try simp only [Act.put, List.getElem_toArray, List.getElem_cons_zero, List.getElem_cons_succ, List.setIfInBounds_toArray, List.set_cons_zero, List.set_cons_succ])
  first
    | (refine wpAnyH_take (i := 17) (v := ?_) rfl (by kernel_rfl) (by kernel_rfl) (by kernel_rfl) (fun _ _ _ h => h) (Or.inl ⟨by rfl, ?_⟩) (by assumption) ?_; rotate_left; · ((intro w hSw; (try dsimp only at hSw); go_simp); first | done | (with_reducible rfl)))
    | (refine wpAnyH_take (i := 17) (v := undef) rfl (by kernel_rfl) (by kernel_rfl) (by kernel_rfl) (fun _ _ _ h => h) (Or.inr ⟨by rfl, rfl⟩) (by assumption) ?_)
  (try simp only [Act.put, List.getElem_toArray, List.getElem_cons_zero, List.getElem_cons_succ, List.setIfInBounds_toArray, List.set_cons_zero, List.set_cons_succ])
  first
    | (refine wpAnyH_take (i := 18) (v := ?_) rfl (by kernel_rfl) (by kernel_rfl) (by kernel_rfl) (fun _ _ _ h => h) (Or.inl ⟨by rfl, ?_⟩) (by assumption) ?_; rotate_left; · ((intro w hSw; (try dsimp only at hSw); go_simp); first | done | (with_reducible rfl)))
    | (refine wpAnyH_take (i := 18) (v := undef) rfl (by kernel_rfl) (by kernel_rfl) (by kernel_rfl) (fun _ _ _ h => h) (Or.inr ⟨by rfl, rfl⟩) (by assumption) ?_)
  (try simp only [Act.put, List.getElem_toArray, List.getElem_cons_zero, List.getElem_cons_succ, List.setIfInBounds_toArray, List.set_cons_zero, List.set_cons_succ])
  first
    | (refine wpAnyH_take (i := 19) (v := ?_) rfl (by kernel_rfl) (by kernel_rfl) (by kernel_rfl) (fun _ _ _ h => h) (Or.inl ⟨by rfl, ?_⟩) (by assumption) ?_; rotate_left; · ((intro w hSw; (try dsimp only at hSw); go_simp); first | done | (with_reducible rfl)))
    | (refine wpAnyH_take (i := 19) (v := undef) rfl (by kernel_rfl) (by kernel_rfl) (by kernel_rfl) (fun _ _ _ h => h) (Or.inr ⟨by rfl, rfl⟩) (by assumption) ?_)
  (try simp only [Act.put, List.getElem_toArray, List.getElem_cons_zero, List.getElem_cons_succ, List.setIfInBounds_toArray, List.set_cons_zero, List.set_cons_succ])
  first
    | (refine wpAnyH_take (i := 20) (v := ?_) rfl (by kernel_rfl) (by kernel_rfl) (by kernel_rfl) (fun _ _ _ h => h) (Or.inl ⟨by rfl, ?_⟩) (by assumption) ?_; rotate_left; · ((intro w hSw; (try dsimp only at hSw); go_simp); first | done | (with_reducible rfl)))
    | (refine wpAnyH_take (i := 20) (v := undef) rfl (by kernel_rfl) (by kernel_rfl) (by kernel_rfl) (fun _ _ _ h => h) (Or.inr ⟨by rfl, rfl⟩) (by assumption) ?_)
  (try simp only [Act.put, List.getElem_toArray, List.getElem_cons_zero, List.getElem_cons_succ, List.setIfInBounds_toArray, List.set_cons_zero, List.set_cons_succ])
  first
    | (refine wpAnyH_take (i := 21) (v := ?_) rfl (by kernel_rfl) (by kernel_rfl) (by kernel_rfl) (fun _ _ _ h => h) (Or.inl ⟨by rfl, ?_⟩) (by assumption) ?_; rotate_left; · ((intro w hSw; (try dsimp only at hSw); go_simp); first | done | (with_reducible rfl)))
    | (refine wpAnyH_take (i := 21) (v := undef) rfl (by kernel_rfl) (by kernel_rfl) (by kernel_rfl) (fun _ _ _ h => h) (Or.inr ⟨by rfl, rfl⟩) (by assumption) ?_)
  (try simp only [Act.put, List.getElem_toArray, List.getElem_cons_zero, List.getElem_cons_succ, List.setIfInBounds_toArray, List.set_cons_zero, List.set_cons_succ])
  first
    | (refine wpAnyH_take (i := 22) (v := ?_) rfl (by kernel_rfl) (by kernel_rfl) (by kernel_rfl) (fun _ _ _ h => h) (Or.inl ⟨by rfl, ?_⟩) (by assumption) ?_; rotate_left; · ((intro w hSw; (try dsimp only at hSw); go_simp); first | done | (with_reducible rfl)))
    | (refine wpAnyH_take (i := 22) (v := undef) rfl (by kernel_rfl) (by kernel_rfl) (by kernel_rfl) (fun _ _ _ h => h) (Or.inr ⟨by rfl, rfl⟩) (by assumption) ?_)
  (try simp only [Act.put, List.getElem_toArray, List.getElem_cons_zero, List.getElem_cons_succ, List.setIfInBounds_toArray, List.set_cons_zero, List.set_cons_succ])
  first
    | (refine wpAnyH_take (i := 23) (v := ?_) rfl (by kernel_rfl) (by kernel_rfl) (by kernel_rfl) (fun _ _ _ h => h) (Or.inl ⟨by rfl, ?_⟩) (by assumption) ?_; rotate_left; · ((intro w hSw; (try dsimp only at hSw); go_simp); first | done | (with_reducible rfl)))
    | (refine wpAnyH_take (i := 23) (v := undef) rfl (by kernel_rfl) (by kernel_rfl) (by kernel_rfl) (fun _ _ _ h => h) (Or.inr ⟨by rfl, rfl⟩) (by assumption) ?_)
  (try simp only [Act.put, List.getElem_toArray, List.getElem_cons_zero, List.getElem_cons_succ, List.setIfInBounds_toArray, List.set_cons_zero, List.set_cons_succ])
  (try dsimp only at hHeld)
  obtain ⟨s5_0, s5_1, s5_2, s5_3, s5_4, s5_5, s5_6, s5_7, s5_8, s5_9, s5_10, s5_11⟩ := hHeld
  refine wpAnyH_done (by kernel_rfl) ?_ _
  go_wp2_with fail
  refine wp_region_held_drew (S := fun w' => w'.cell? ⟨w1.heap.size, 0, none⟩ = some (.int .i64 r) ∧ w'.cell? ⟨w1.heap.size, 1, none⟩ = some (.int .i64 g) ∧ w'.cell? ⟨w1.heap.size, 2, none⟩ = some (.int .i64 b) ∧ w'.cell? ⟨w1.heap.size, 3, none⟩ = some (.int .i64 a) ∧ w'.cell? ⟨w1.heap.size + 1, 0, none⟩ = some (.int .i64 r') ∧ w'.cell? ⟨w1.heap.size + 1, 1, none⟩ = some (.int .i64 g') ∧ w'.cell? ⟨w1.heap.size + 1, 2, none⟩ = some (.int .i64 b') ∧ w'.cell? ⟨w1.heap.size + 1, 3, none⟩ = some (.int .i64 a') ∧ w'.cell? ⟨w2.heap.size, 0, none⟩ = some (.int .i64 (mx r r' t)) ∧ w'.cell? ⟨w2.heap.size, 1, none⟩ = some (.int .i64 (mx g g' t)) ∧ w'.cell? ⟨w2.heap.size, 2, none⟩ = some (.int .i64 (mx b b' t)) ∧ w'.cell? ⟨w2.heap.size, 3, none⟩ = some (.int .i64 (mx a a' t))) (by kernel_rfl) ?_ (fun hHeld => ?_)
  · (try dsimp only)
    first | (((repeat' apply And.intro) <;> (first | ((repeat (first | (with_reducible assumption) | (with_reducible refine cell_keepD ?_) | (with_reducible refine cell_keepA ?_ _) | (with_reducible refine cell_keepS ?_ _ (by simp only []; omega)) | (with_reducible refine (hc1 _ _ (by go_size)).trans ?_))); done) | (go_cell; done)))) | fail
  (try clear cA2_0)
  (try clear cA2_1)
  (try clear cA2_2)
  (try clear cA2_3)
  (try clear cB2_0)
  (try clear cB2_1)
  (try clear cB2_2)
  (try clear cB2_3)
  (try clear cC2_0)
  (try clear cC2_1)
  (try clear cC2_2)
  (try clear cC2_3)
  (try clear fA2_0)
  (try clear fA2_1)
  (try clear fA2_2)
  (try clear fA2_3)
  (try clear fB2_0)
  (try clear fB2_1)
  (try clear fB2_2)
  (try clear fB2_3)
  (try clear fC2_0)
  (try clear fC2_1)
  (try clear fC2_2)
  (try clear fC2_3)
  (try clear s5_0)
  (try clear s5_1)
  (try clear s5_2)
  (try clear s5_3)
  (try clear s5_4)
  (try clear s5_5)
  (try clear s5_6)
  (try clear s5_7)
  (try clear s5_8)
  (try clear s5_9)
  (try clear s5_10)
  (try clear s5_11)
  (try dsimp only [List.append_eq, List.cons_append, List.nil_append])
  (refine wpAnyH_take (i := 0) (v := ?_) rfl (by kernel_rfl) (by kernel_rfl) (by kernel_rfl) (fun _ _ _ h => h) (Or.inl ⟨by kernel_rfl, ?_⟩) (by assumption) ?_; rotate_left; · ((intro w hSw; (try dsimp only at hSw); go_simp); first | done | (with_reducible rfl)))
  (try simp only [Act.put, List.getElem_toArray, List.getElem_cons_zero, List.getElem_cons_succ, List.setIfInBounds_toArray, List.set_cons_zero, List.set_cons_succ])
  (refine wpAnyH_take (i := 1) (v := ?_) rfl (by kernel_rfl) (by kernel_rfl) (by kernel_rfl) (fun _ _ _ h => h) (Or.inl ⟨by kernel_rfl, ?_⟩) (by assumption) ?_; rotate_left; · ((intro w hSw; (try dsimp only at hSw); go_simp); first | done | (with_reducible rfl)))
  (try simp only [Act.put, List.getElem_toArray, List.getElem_cons_zero, List.getElem_cons_succ, List.setIfInBounds_toArray, List.set_cons_zero, List.set_cons_succ])
  (refine wpAnyH_take (i := 3) (v := ?_) rfl (by kernel_rfl) (by kernel_rfl) (by kernel_rfl) (fun _ _ _ h => h) (Or.inl ⟨by kernel_rfl, ?_⟩) (by assumption) ?_; rotate_left; · ((intro w hSw; (try dsimp only at hSw); go_simp); first | done | (with_reducible rfl)))
  (try simp only [Act.put, List.getElem_toArray, List.getElem_cons_zero, List.getElem_cons_succ, List.setIfInBounds_toArray, List.set_cons_zero, List.set_cons_succ])
  refine wpAnyH_ready (rs := [2]) (by kernel_rfl) (by simp) (AllReadyH.cons rfl (fun K hK => ?_) AllReadyH.nil)
  (try go_simp)
  first
    | (refine hK.out _ _ ?_ (fun hNew => ?_))
    | (((first | (go_at_call 20; refine (MixColor_sV _ _ _ _ _ _ _ _ _ _ h1 h2 (by omega) (by omega)).mono ?_; rintro e wz ⟨rfl, hbz⟩; obtain ⟨hc1, hf1⟩ := bcell hbz; have hz1 := hbz.size; (try simp only [World.size_alloc, World.size_setCell, World.size_drew] at hz1); have z0a : w1.heap.size < wz.heap.size := (by omega); have z0b : w1.heap.size < wz.heap.size + 1 := (by omega); have z0c : w1.heap.size < wz.heap.size + 1 + 1 := (by omega); have z0d : w1.heap.size < wz.heap.size + 1 + 1 + 1 := (by omega); have z1a : w1.heap.size + 1 < wz.heap.size := (by omega); have z1b : w1.heap.size + 1 < wz.heap.size + 1 := (by omega); have z1c : w1.heap.size + 1 < wz.heap.size + 1 + 1 := (by omega); have z1d : w1.heap.size + 1 < wz.heap.size + 1 + 1 + 1 := (by omega); have z2a : w2.heap.size < wz.heap.size := (by omega); have z2b : w2.heap.size < wz.heap.size + 1 := (by omega); have z2c : w2.heap.size < wz.heap.size + 1 + 1 := (by omega); have z2d : w2.heap.size < wz.heap.size + 1 + 1 + 1 := (by omega); have BZ : Below w.heap.size w wz := below_then (by first | (have hhh := HB3.out; go_grown; done) | (have hhh := HB2.out; go_grown; done) | fail) hbz; clear hbz) | (go_at_call 16; refine (ValidColor_i _ _ _ _ _).mono ?_; rintro e wz ⟨rfl, rfl⟩) | (go_at_call 21; refine (MixColor_iV _ _ _ _ _ _ _ _ _ _ (by assumption) (by assumption) (by omega) (by omega)).mono ?_; rintro e wz ⟨rfl, hbz⟩; obtain ⟨hc1, hf1⟩ := bcell hbz; have hz1 := hbz.size; (try simp only [World.size_alloc, World.size_setCell, World.size_drew] at hz1); have z0a : w1.heap.size < wz.heap.size := (by omega); have z0b : w1.heap.size < wz.heap.size + 1 := (by omega); have z0c : w1.heap.size < wz.heap.size + 1 + 1 := (by omega); have z0d : w1.heap.size < wz.heap.size + 1 + 1 + 1 := (by omega); have z1a : w1.heap.size + 1 < wz.heap.size := (by omega); have z1b : w1.heap.size + 1 < wz.heap.size + 1 := (by omega); have z1c : w1.heap.size + 1 < wz.heap.size + 1 + 1 := (by omega); have z1d : w1.heap.size + 1 < wz.heap.size + 1 + 1 + 1 := (by omega); have z2a : w2.heap.size < wz.heap.size := (by omega); have z2b : w2.heap.size < wz.heap.size + 1 := (by omega); have z2c : w2.heap.size < wz.heap.size + 1 + 1 := (by omega); have z2d : w2.heap.size < wz.heap.size + 1 + 1 + 1 := (by omega); have BZ : Below w.heap.size w wz := below_then (by first | (have hhh := HB3.out; go_grown; done) | (have hhh := HB2.out; go_grown; done) | fail) hbz; clear hbz))); (try go_wp2_with fail); (refine hK.out _ _ ?_ (fun hNew => ?_)))
    | fail
  · (try dsimp only)
    first | ((try go_split_ands); (((repeat' apply And.intro) <;> (first | ((repeat (first | (with_reducible assumption) | (with_reducible refine cell_keepD ?_) | (with_reducible refine cell_keepA ?_ _) | (with_reducible refine cell_keepS ?_ _ (by simp only []; omega)) | (with_reducible refine (hc1 _ _ (by go_size)).trans ?_))); done) | (go_cell; done))))) | fail
  clear hK K hHeld
  have hHeld := hNew
  clear hNew
  (try clear hc1)
  (try clear hf1)
  (try simp only [Act.put, List.getElem_toArray, List.getElem_cons_zero, List.getElem_cons_succ, List.setIfInBounds_toArray, List.set_cons_zero, List.set_cons_succ])
  (refine wpAnyH_take (i := 4) (v := ?_) rfl (by kernel_rfl) (by kernel_rfl) (by kernel_rfl) (fun _ _ _ h => h) (Or.inl ⟨by kernel_rfl, ?_⟩) (by assumption) ?_; rotate_left; · ((intro w hSw; (try dsimp only at hSw); go_simp); first | done | (with_reducible rfl)))
  (try simp only [Act.put, List.getElem_toArray, List.getElem_cons_zero, List.getElem_cons_succ, List.setIfInBounds_toArray, List.set_cons_zero, List.set_cons_succ])
  (refine wpAnyH_take (i := 5) (v := ?_) rfl (by kernel_rfl) (by kernel_rfl) (by kernel_rfl) (fun _ _ _ h => h) (Or.inl ⟨by kernel_rfl, ?_⟩) (by assumption) ?_; rotate_left; · ((intro w hSw; (try dsimp only at hSw); go_simp); first | done | (with_reducible rfl)))
  (try simp only [Act.put, List.getElem_toArray, List.getElem_cons_zero, List.getElem_cons_succ, List.setIfInBounds_toArray, List.set_cons_zero, List.set_cons_succ])
  (refine wpAnyH_take (i := 6) (v := ?_) rfl (by kernel_rfl) (by kernel_rfl) (by kernel_rfl) (fun _ _ _ h => h) (Or.inl ⟨by kernel_rfl, ?_⟩) (by assumption) ?_; rotate_left; · ((intro w hSw; (try dsimp only at hSw); go_simp); first | done | (with_reducible rfl)))
  (try simp only [Act.put, List.getElem_toArray, List.getElem_cons_zero, List.getElem_cons_succ, List.setIfInBounds_toArray, List.set_cons_zero, List.set_cons_succ])
  (refine wpAnyH_take (i := 7) (v := ?_) rfl (by kernel_rfl) (by kernel_rfl) (by kernel_rfl) (fun _ _ _ h => h) (Or.inl ⟨by kernel_rfl, ?_⟩) (by assumption) ?_; rotate_left; · ((intro w hSw; (try dsimp only at hSw); go_simp); first | done | (with_reducible rfl)))
  (try simp only [Act.put, List.getElem_toArray, List.getElem_cons_zero, List.getElem_cons_succ, List.setIfInBounds_toArray, List.set_cons_zero, List.set_cons_succ])
  (refine wpAnyH_take (i := 9) (v := ?_) rfl (by kernel_rfl) (by kernel_rfl) (by kernel_rfl) (fun _ _ _ h => h) (Or.inl ⟨by kernel_rfl, ?_⟩) (by assumption) ?_; rotate_left; · ((intro w hSw; (try dsimp only at hSw); go_simp); first | done | (with_reducible rfl)))
  (try simp only [Act.put, List.getElem_toArray, List.getElem_cons_zero, List.getElem_cons_succ, List.setIfInBounds_toArray, List.set_cons_zero, List.set_cons_succ])
  refine wpAnyH_ready (rs := [8]) (by kernel_rfl) (by simp) (AllReadyH.cons rfl (fun K hK => ?_) AllReadyH.nil)
  (try go_simp)
  first
    | (refine hK.out _ _ ?_ (fun hNew => ?_))
    | (((first | (go_at_call 20; refine (MixColor_sV _ _ _ _ _ _ _ _ _ _ h1 h2 (by omega) (by omega)).mono ?_; rintro e wz ⟨rfl, hbz⟩; obtain ⟨hc1, hf1⟩ := bcell hbz; have hz1 := hbz.size; (try simp only [World.size_alloc, World.size_setCell, World.size_drew] at hz1); have z0a : w1.heap.size < wz.heap.size := (by omega); have z0b : w1.heap.size < wz.heap.size + 1 := (by omega); have z0c : w1.heap.size < wz.heap.size + 1 + 1 := (by omega); have z0d : w1.heap.size < wz.heap.size + 1 + 1 + 1 := (by omega); have z1a : w1.heap.size + 1 < wz.heap.size := (by omega); have z1b : w1.heap.size + 1 < wz.heap.size + 1 := (by omega); have z1c : w1.heap.size + 1 < wz.heap.size + 1 + 1 := (by omega); have z1d : w1.heap.size + 1 < wz.heap.size + 1 + 1 + 1 := (by omega); have z2a : w2.heap.size < wz.heap.size := (by omega); have z2b : w2.heap.size < wz.heap.size + 1 := (by omega); have z2c : w2.heap.size < wz.heap.size + 1 + 1 := (by omega); have z2d : w2.heap.size < wz.heap.size + 1 + 1 + 1 := (by omega); have BZ : Below w.heap.size w wz := below_then (by first | (have hhh := HB3.out; go_grown; done) | (have hhh := HB2.out; go_grown; done) | fail) hbz; clear hbz) | (go_at_call 16; refine (ValidColor_i _ _ _ _ _).mono ?_; rintro e wz ⟨rfl, rfl⟩) | (go_at_call 21; refine (MixColor_iV _ _ _ _ _ _ _ _ _ _ (by assumption) (by assumption) (by omega) (by omega)).mono ?_; rintro e wz ⟨rfl, hbz⟩; obtain ⟨hc1, hf1⟩ := bcell hbz; have hz1 := hbz.size; (try simp only [World.size_alloc, World.size_setCell, World.size_drew] at hz1); have z0a : w1.heap.size < wz.heap.size := (by omega); have z0b : w1.heap.size < wz.heap.size + 1 := (by omega); have z0c : w1.heap.size < wz.heap.size + 1 + 1 := (by omega); have z0d : w1.heap.size < wz.heap.size + 1 + 1 + 1 := (by omega); have z1a : w1.heap.size + 1 < wz.heap.size := (by omega); have z1b : w1.heap.size + 1 < wz.heap.size + 1 := (by omega); have z1c : w1.heap.size + 1 < wz.heap.size + 1 + 1 := (by omega); have z1d : w1.heap.size + 1 < wz.heap.size + 1 + 1 + 1 := (by omega); have z2a : w2.heap.size < wz.heap.size := (by omega); have z2b : w2.heap.size < wz.heap.size + 1 := (by omega); have z2c : w2.heap.size < wz.heap.size + 1 + 1 := (by omega); have z2d : w2.heap.size < wz.heap.size + 1 + 1 + 1 := (by omega); have BZ : Below w.heap.size w wz := below_then (by first | (have hhh := HB3.out; go_grown; done) | (have hhh := HB2.out; go_grown; done) | fail) hbz; clear hbz))); (try go_wp2_with fail); (refine hK.out _ _ ?_ (fun hNew => ?_)))
    | fail
  · (try dsimp only)
    first | ((try go_split_ands); (((repeat' apply And.intro) <;> (first | ((repeat (first | (with_reducible assumption) | (with_reducible refine cell_keepD ?_) | (with_reducible refine cell_keepA ?_ _) | (with_reducible refine cell_keepS ?_ _ (by simp only []; omega)) | (with_reducible refine (hc1 _ _ (by go_size)).trans ?_))); done) | (go_cell; done))))) | fail
  clear hK K hHeld
  have hHeld := hNew
  clear hNew
  (try clear hc1)
  (try clear hf1)
  (try simp only [Act.put, List.getElem_toArray, List.getElem_cons_zero, List.getElem_cons_succ, List.setIfInBounds_toArray, List.set_cons_zero, List.set_cons_succ])
  (refine wpAnyH_take (i := 10) (v := ?_) rfl (by kernel_rfl) (by kernel_rfl) (by kernel_rfl) (fun _ _ _ h => h) (Or.inl ⟨by kernel_rfl, ?_⟩) (by assumption) ?_; rotate_left; · ((intro w hSw; (try dsimp only at hSw); go_simp); first | done | (with_reducible rfl)))
  (try simp only [Act.put, List.getElem_toArray, List.getElem_cons_zero, List.getElem_cons_succ, List.setIfInBounds_toArray, List.set_cons_zero, List.set_cons_succ])
  (refine wpAnyH_take (i := 11) (v := ?_) rfl (by kernel_rfl) (by kernel_rfl) (by kernel_rfl) (fun _ _ _ h => h) (Or.inl ⟨by kernel_rfl, ?_⟩) (by assumption) ?_; rotate_left; · ((intro w hSw; (try dsimp only at hSw); go_simp); first | done | (with_reducible rfl)))
  (try simp only [Act.put, List.getElem_toArray, List.getElem_cons_zero, List.getElem_cons_succ, List.setIfInBounds_toArray, List.set_cons_zero, List.set_cons_succ])
  (refine wpAnyH_take (i := 12) (v := ?_) rfl (by kernel_rfl) (by kernel_rfl) (by kernel_rfl) (fun _ _ _ h => h) (Or.inl ⟨by kernel_rfl, ?_⟩) (by assumption) ?_; rotate_left; · ((intro w hSw; (try dsimp only at hSw); go_simp); first | done | (with_reducible rfl)))
  (try simp only [Act.put, List.getElem_toArray, List.getElem_cons_zero, List.getElem_cons_succ, List.setIfInBounds_toArray, List.set_cons_zero, List.set_cons_succ])
  (refine wpAnyH_take (i := 13) (v := ?_) rfl (by kernel_rfl) (by kernel_rfl) (by kernel_rfl) (fun _ _ _ h => h) (Or.inl ⟨by kernel_rfl, ?_⟩) (by assumption) ?_; rotate_left; · ((intro w hSw; (try dsimp only at hSw); go_simp); first | done | (with_reducible rfl)))
  (try simp only [Act.put, List.getElem_toArray, List.getElem_cons_zero, List.getElem_cons_succ, List.setIfInBounds_toArray, List.set_cons_zero, List.set_cons_succ])
  (refine wpAnyH_take (i := 14) (v := ?_) rfl (by kernel_rfl) (by kernel_rfl) (by kernel_rfl) (fun _ _ _ h => h) (Or.inl ⟨by kernel_rfl, ?_⟩) (by assumption) ?_; rotate_left; · ((intro w hSw; (try dsimp only at hSw); go_simp); first | done | (with_reducible rfl)))
  (try simp only [Act.put, List.getElem_toArray, List.getElem_cons_zero, List.getElem_cons_succ, List.setIfInBounds_toArray, List.set_cons_zero, List.set_cons_succ])
  (refine wpAnyH_take (i := 15) (v := ?_) rfl (by kernel_rfl) (by kernel_rfl) (by kernel_rfl) (fun _ _ _ h => h) (Or.inl ⟨by kernel_rfl, ?_⟩) (by assumption) ?_; rotate_left; · ((intro w hSw; (try dsimp only at hSw); go_simp); first | done | (with_reducible rfl)))
  (try simp only [Act.put, List.getElem_toArray, List.getElem_cons_zero, List.getElem_cons_succ, List.setIfInBounds_toArray, List.set_cons_zero, List.set_cons_succ])
  (refine wpAnyH_take (i := 16) (v := ?_) rfl (by kernel_rfl) (by kernel_rfl) (by kernel_rfl) (fun _ _ _ h => h) (Or.inl ⟨by kernel_rfl, ?_⟩) (by assumption) ?_; rotate_left; · ((intro w hSw; (try dsimp only at hSw); go_simp); first | done | (with_reducible rfl)))
  (try simp only [Act.put, List.getElem_toArray, List.getElem_cons_zero, List.getElem_cons_succ, List.setIfInBounds_toArray, List.set_cons_zero, List.set_cons_succ])
  (refine wpAnyH_take (i := 17) (v := ?_) rfl (by kernel_rfl) (by kernel_rfl) (by kernel_rfl) (fun _ _ _ h => h) (Or.inl ⟨by kernel_rfl, ?_⟩) (by assumption) ?_; rotate_left; · ((intro w hSw; (try dsimp only at hSw); go_simp); first | done | (with_reducible rfl)))
  (try simp only [Act.put, List.getElem_toArray, List.getElem_cons_zero, List.getElem_cons_succ, List.setIfInBounds_toArray, List.set_cons_zero, List.set_cons_succ])
  (refine wpAnyH_take (i := 18) (v := ?_) rfl (by kernel_rfl) (by kernel_rfl) (by kernel_rfl) (fun _ _ _ h => h) (Or.inl ⟨by kernel_rfl, ?_⟩) (by assumption) ?_; rotate_left; · ((intro w hSw; (try dsimp only at hSw); go_simp); first | done | (with_reducible rfl)))
  (try simp only [Act.put, List.getElem_toArray, List.getElem_cons_zero, List.getElem_cons_succ, List.setIfInBounds_toArray, List.set_cons_zero, List.set_cons_succ])
  (refine wpAnyH_take (i := 19) (v := ?_) rfl (by kernel_rfl) (by kernel_rfl) (by kernel_rfl) (fun _ _ _ h => h) (Or.inl ⟨by kernel_rfl, ?_⟩) (by assumption) ?_; rotate_left; · ((intro w hSw; (try dsimp only at hSw); go_simp); first | done | (with_reducible rfl)))
  (try simp only [Act.put, List.getElem_toArray, List.getElem_cons_zero, List.getElem_cons_succ, List.setIfInBounds_toArray, List.set_cons_zero, List.set_cons_succ])
  (refine wpAnyH_take (i := 20) (v := ?_) rfl (by kernel_rfl) (by kernel_rfl) (by kernel_rfl) (fun _ _ _ h => h) (Or.inl ⟨by kernel_rfl, ?_⟩) (by assumption) ?_; rotate_left; · ((intro w hSw; (try dsimp only at hSw); go_simp); first | done | (with_reducible rfl)))
  (try simp only [Act.put, List.getElem_toArray, List.getElem_cons_zero, List.getElem_cons_succ, List.setIfInBounds_toArray, List.set_cons_zero, List.set_cons_succ])
  (refine wpAnyH_take (i := 21) (v := ?_) rfl (by kernel_rfl) (by kernel_rfl) (by kernel_rfl) (fun _ _ _ h => h) (Or.inl ⟨by kernel_rfl, ?_⟩) (by assumption) ?_; rotate_left; · ((intro w hSw; (try dsimp only at hSw); go_simp); first | done | (with_reducible rfl)))
  (try simp only [Act.put, List.getElem_toArray, List.getElem_cons_zero, List.getElem_cons_succ, List.setIfInBounds_toArray, List.set_cons_zero, List.set_cons_succ])
  (refine wpAnyH_take (i := 22) (v := ?_) rfl (by kernel_rfl) (by kernel_rfl) (by kernel_rfl) (fun _ _ _ h => h) (Or.inl ⟨by kernel_rfl, ?_⟩) (by assumption) ?_; rotate_left; · ((intro w hSw; (try dsimp only at hSw); go_simp); first | done | (with_reducible rfl)))
  (try simp only [Act.put, List.getElem_toArray, List.getElem_cons_zero, List.getElem_cons_succ, List.setIfInBounds_toArray, List.set_cons_zero, List.set_cons_succ])
  (refine wpAnyH_take (i := 23) (v := ?_) rfl (by kernel_rfl) (by kernel_rfl) (by kernel_rfl) (fun _ _ _ h => h) (Or.inl ⟨by kernel_rfl, ?_⟩) (by assumption) ?_; rotate_left; · ((intro w hSw; (try dsimp only at hSw); go_simp); first | done | (with_reducible rfl)))
  (try simp only [Act.put, List.getElem_toArray, List.getElem_cons_zero, List.getElem_cons_succ, List.setIfInBounds_toArray, List.set_cons_zero, List.set_cons_succ])
  (refine wpAnyH_take (i := 24) (v := ?_) rfl (by kernel_rfl) (by kernel_rfl) (by kernel_rfl) (fun _ _ _ h => h) (Or.inl ⟨by kernel_rfl, ?_⟩) (by assumption) ?_; rotate_left; · ((intro w hSw; (try dsimp only at hSw); go_simp); first | done | (with_reducible rfl)))
  (try simp only [Act.put, List.getElem_toArray, List.getElem_cons_zero, List.getElem_cons_succ, List.setIfInBounds_toArray, List.set_cons_zero, List.set_cons_succ])
  (refine wpAnyH_take (i := 25) (v := ?_) rfl (by kernel_rfl) (by kernel_rfl) (by kernel_rfl) (fun _ _ _ h => h) (Or.inl ⟨by kernel_rfl, ?_⟩) (by assumption) ?_; rotate_left; · ((intro w hSw; (try dsimp only at hSw); go_simp); first | done | (with_reducible rfl)))
  (try simp only [Act.put, List.getElem_toArray, List.getElem_cons_zero, List.getElem_cons_succ, List.setIfInBounds_toArray, List.set_cons_zero, List.set_cons_succ])
  (refine wpAnyH_take (i := 26) (v := ?_) rfl (by kernel_rfl) (by kernel_rfl) (by kernel_rfl) (fun _ _ _ h => h) (Or.inl ⟨by kernel_rfl, ?_⟩) (by assumption) ?_; rotate_left; · ((intro w hSw; (try dsimp only at hSw); go_simp); first | done | (with_reducible rfl)))
  (try simp only [Act.put, List.getElem_toArray, List.getElem_cons_zero, List.getElem_cons_succ, List.setIfInBounds_toArray, List.set_cons_zero, List.set_cons_succ])
  (refine wpAnyH_take (i := 27) (v := ?_) rfl (by kernel_rfl) (by kernel_rfl) (by kernel_rfl) (fun _ _ _ h => h) (Or.inl ⟨by kernel_rfl, ?_⟩) (by assumption) ?_; rotate_left; · ((intro w hSw; (try dsimp only at hSw); go_simp); first | done | (with_reducible rfl)))
  (try simp only [Act.put, List.getElem_toArray, List.getElem_cons_zero, List.getElem_cons_succ, List.setIfInBounds_toArray, List.set_cons_zero, List.set_cons_succ])
  (refine wpAnyH_take (i := 28) (v := ?_) rfl (by kernel_rfl) (by kernel_rfl) (by kernel_rfl) (fun _ _ _ h => h) (Or.inl ⟨by kernel_rfl, ?_⟩) (by assumption) ?_; rotate_left; · ((intro w hSw; (try dsimp only at hSw); go_simp); first | done | (with_reducible rfl)))
  (try simp only [Act.put, List.getElem_toArray, List.getElem_cons_zero, List.getElem_cons_succ, List.setIfInBounds_toArray, List.set_cons_zero, List.set_cons_succ])
  (refine wpAnyH_take (i := 29) (v := ?_) rfl (by kernel_rfl) (by kernel_rfl) (by kernel_rfl) (fun _ _ _ h => h) (Or.inl ⟨by kernel_rfl, ?_⟩) (by assumption) ?_; rotate_left; · ((intro w hSw; (try dsimp only at hSw); go_simp); first | done | (with_reducible rfl)))
  (try simp only [Act.put, List.getElem_toArray, List.getElem_cons_zero, List.getElem_cons_succ, List.setIfInBounds_toArray, List.set_cons_zero, List.set_cons_succ])
  (refine wpAnyH_take (i := 30) (v := ?_) rfl (by kernel_rfl) (by kernel_rfl) (by kernel_rfl) (fun _ _ _ h => h) (Or.inl ⟨by kernel_rfl, ?_⟩) (by assumption) ?_; rotate_left; · ((intro w hSw; (try dsimp only at hSw); go_simp); first | done | (with_reducible rfl)))
  (try simp only [Act.put, List.getElem_toArray, List.getElem_cons_zero, List.getElem_cons_succ, List.setIfInBounds_toArray, List.set_cons_zero, List.set_cons_succ])
  (refine wpAnyH_take (i := 31) (v := ?_) rfl (by kernel_rfl) (by kernel_rfl) (by kernel_rfl) (fun _ _ _ h => h) (Or.inl ⟨by kernel_rfl, ?_⟩) (by assumption) ?_; rotate_left; · ((intro w hSw; (try dsimp only at hSw); go_simp); first | done | (with_reducible rfl)))
  (try simp only [Act.put, List.getElem_toArray, List.getElem_cons_zero, List.getElem_cons_succ, List.setIfInBounds_toArray, List.set_cons_zero, List.set_cons_succ])
  (refine wpAnyH_take (i := 32) (v := ?_) rfl (by kernel_rfl) (by kernel_rfl) (by kernel_rfl) (fun _ _ _ h => h) (Or.inl ⟨by kernel_rfl, ?_⟩) (by assumption) ?_; rotate_left; · ((intro w hSw; (try dsimp only at hSw); go_simp); first | done | (with_reducible rfl)))
  (try simp only [Act.put, List.getElem_toArray, List.getElem_cons_zero, List.getElem_cons_succ, List.setIfInBounds_toArray, List.set_cons_zero, List.set_cons_succ])
  (refine wpAnyH_take (i := 33) (v := ?_) rfl (by kernel_rfl) (by kernel_rfl) (by kernel_rfl) (fun _ _ _ h => h) (Or.inl ⟨by kernel_rfl, ?_⟩) (by assumption) ?_; rotate_left; · ((intro w hSw; (try dsimp only at hSw); go_simp); first | done | (with_reducible rfl)))
  (try simp only [Act.put, List.getElem_toArray, List.getElem_cons_zero, List.getElem_cons_succ, List.setIfInBounds_toArray, List.set_cons_zero, List.set_cons_succ])
  (refine wpAnyH_take (i := 34) (v := ?_) rfl (by kernel_rfl) (by kernel_rfl) (by kernel_rfl) (fun _ _ _ h => h) (Or.inl ⟨by kernel_rfl, ?_⟩) (by assumption) ?_; rotate_left; · ((intro w hSw; (try dsimp only at hSw); go_simp); first | done | (with_reducible rfl)))
  (try simp only [Act.put, List.getElem_toArray, List.getElem_cons_zero, List.getElem_cons_succ, List.setIfInBounds_toArray, List.set_cons_zero, List.set_cons_succ])
  (refine wpAnyH_take (i := 35) (v := ?_) rfl (by kernel_rfl) (by kernel_rfl) (by kernel_rfl) (fun _ _ _ h => h) (Or.inl ⟨by kernel_rfl, ?_⟩) (by assumption) ?_; rotate_left; · ((intro w hSw; (try dsimp only at hSw); go_simp); first | done | (with_reducible rfl)))
  (try simp only [Act.put, List.getElem_toArray, List.getElem_cons_zero, List.getElem_cons_succ, List.setIfInBounds_toArray, List.set_cons_zero, List.set_cons_succ])
  (refine wpAnyH_take (i := 36) (v := ?_) rfl (by kernel_rfl) (by kernel_rfl) (by kernel_rfl) (fun _ _ _ h => h) (Or.inl ⟨by kernel_rfl, ?_⟩) (by assumption) ?_; rotate_left; · ((intro w hSw; (try dsimp only at hSw); go_simp); first | done | (with_reducible rfl)))
  (try simp only [Act.put, List.getElem_toArray, List.getElem_cons_zero, List.getElem_cons_succ, List.setIfInBounds_toArray, List.set_cons_zero, List.set_cons_succ])
  (refine wpAnyH_take (i := 37) (v := ?_) rfl (by kernel_rfl) (by kernel_rfl) (by kernel_rfl) (fun _ _ _ h => h) (Or.inl ⟨by kernel_rfl, ?_⟩) (by assumption) ?_; rotate_left; · ((intro w hSw; (try dsimp only at hSw); go_simp); first | done | (with_reducible rfl)))
  (try simp only [Act.put, List.getElem_toArray, List.getElem_cons_zero, List.getElem_cons_succ, List.setIfInBounds_toArray, List.set_cons_zero, List.set_cons_succ])
  (refine wpAnyH_take (i := 38) (v := ?_) rfl (by kernel_rfl) (by kernel_rfl) (by kernel_rfl) (fun _ _ _ h => h) (Or.inl ⟨by kernel_rfl, ?_⟩) (by assumption) ?_; rotate_left; · ((intro w hSw; (try dsimp only at hSw); go_simp); first | done | (with_reducible rfl)))
  (try simp only [Act.put, List.getElem_toArray, List.getElem_cons_zero, List.getElem_cons_succ, List.setIfInBounds_toArray, List.set_cons_zero, List.set_cons_succ])
  (refine wpAnyH_take (i := 39) (v := ?_) rfl (by kernel_rfl) (by kernel_rfl) (by kernel_rfl) (fun _ _ _ h => h) (Or.inl ⟨by kernel_rfl, ?_⟩) (by assumption) ?_; rotate_left; · ((intro w hSw; (try dsimp only at hSw); go_simp); first | done | (with_reducible rfl)))
  (try simp only [Act.put, List.getElem_toArray, List.getElem_cons_zero, List.getElem_cons_succ, List.setIfInBounds_toArray, List.set_cons_zero, List.set_cons_succ])
  (refine wpAnyH_take (i := 40) (v := ?_) rfl (by kernel_rfl) (by kernel_rfl) (by kernel_rfl) (fun _ _ _ h => h) (Or.inl ⟨by kernel_rfl, ?_⟩) (by assumption) ?_; rotate_left; · ((intro w hSw; (try dsimp only at hSw); go_simp); first | done | (with_reducible rfl)))
  (try simp only [Act.put, List.getElem_toArray, List.getElem_cons_zero, List.getElem_cons_succ, List.setIfInBounds_toArray, List.set_cons_zero, List.set_cons_succ])
  (refine wpAnyH_take (i := 41) (v := ?_) rfl (by kernel_rfl) (by kernel_rfl) (by kernel_rfl) (fun _ _ _ h => h) (Or.inl ⟨by kernel_rfl, ?_⟩) (by assumption) ?_; rotate_left; · ((intro w hSw; (try dsimp only at hSw); go_simp); first | done | (with_reducible rfl)))
  (try simp only [Act.put, List.getElem_toArray, List.getElem_cons_zero, List.getElem_cons_succ, List.setIfInBounds_toArray, List.set_cons_zero, List.set_cons_succ])
  (refine wpAnyH_take (i := 42) (v := ?_) rfl (by kernel_rfl) (by kernel_rfl) (by kernel_rfl) (fun _ _ _ h => h) (Or.inl ⟨by kernel_rfl, ?_⟩) (by assumption) ?_; rotate_left; · ((intro w hSw; (try dsimp only at hSw); go_simp); first | done | (with_reducible rfl)))
  (try simp only [Act.put, List.getElem_toArray, List.getElem_cons_zero, List.getElem_cons_succ, List.setIfInBounds_toArray, List.set_cons_zero, List.set_cons_succ])
  (refine wpAnyH_take (i := 43) (v := ?_) rfl (by kernel_rfl) (by kernel_rfl) (by kernel_rfl) (fun _ _ _ h => h) (Or.inl ⟨by kernel_rfl, ?_⟩) (by assumption) ?_; rotate_left; · ((intro w hSw; (try dsimp only at hSw); go_simp); first | done | (with_reducible rfl)))
  (try simp only [Act.put, List.getElem_toArray, List.getElem_cons_zero, List.getElem_cons_succ, List.setIfInBounds_toArray, List.set_cons_zero, List.set_cons_succ])
  (refine wpAnyH_take (i := 44) (v := ?_) rfl (by kernel_rfl) (by kernel_rfl) (by kernel_rfl) (fun _ _ _ h => h) (Or.inl ⟨by kernel_rfl, ?_⟩) (by assumption) ?_; rotate_left; · ((intro w hSw; (try dsimp only at hSw); go_simp); first | done | (with_reducible rfl)))
  (try simp only [Act.put, List.getElem_toArray, List.getElem_cons_zero, List.getElem_cons_succ, List.setIfInBounds_toArray, List.set_cons_zero, List.set_cons_succ])
  (refine wpAnyH_take (i := 45) (v := ?_) rfl (by kernel_rfl) (by kernel_rfl) (by kernel_rfl) (fun _ _ _ h => h) (Or.inl ⟨by kernel_rfl, ?_⟩) (by assumption) ?_; rotate_left; · ((intro w hSw; (try dsimp only at hSw); go_simp); first | done | (with_reducible rfl)))
  (try simp only [Act.put, List.getElem_toArray, List.getElem_cons_zero, List.getElem_cons_succ, List.setIfInBounds_toArray, List.set_cons_zero, List.set_cons_succ])
  (refine wpAnyH_take (i := 46) (v := ?_) rfl (by kernel_rfl) (by kernel_rfl) (by kernel_rfl) (fun _ _ _ h => h) (Or.inl ⟨by kernel_rfl, ?_⟩) (by assumption) ?_; rotate_left; · ((intro w hSw; (try dsimp only at hSw); go_simp); first | done | (with_reducible rfl)))
  (try simp only [Act.put, List.getElem_toArray, List.getElem_cons_zero, List.getElem_cons_succ, List.setIfInBounds_toArray, List.set_cons_zero, List.set_cons_succ])
  (refine wpAnyH_take (i := 47) (v := ?_) rfl (by kernel_rfl) (by kernel_rfl) (by kernel_rfl) (fun _ _ _ h => h) (Or.inl ⟨by kernel_rfl, ?_⟩) (by assumption) ?_; rotate_left; · ((intro w hSw; (try dsimp only at hSw); go_simp); first | done | (with_reducible rfl)))
  (try simp only [Act.put, List.getElem_toArray, List.getElem_cons_zero, List.getElem_cons_succ, List.setIfInBounds_toArray, List.set_cons_zero, List.set_cons_succ])
  (refine wpAnyH_take (i := 48) (v := ?_) rfl (by kernel_rfl) (by kernel_rfl) (by kernel_rfl) (fun _ _ _ h => h) (Or.inl ⟨by kernel_rfl, ?_⟩) (by assumption) ?_; rotate_left; · ((intro w hSw; (try dsimp only at hSw); go_simp); first | done | (with_reducible rfl)))
  (try simp only [Act.put, List.getElem_toArray, List.getElem_cons_zero, List.getElem_cons_succ, List.setIfInBounds_toArray, List.set_cons_zero, List.set_cons_succ])
  (refine wpAnyH_take (i := 49) (v := ?_) rfl (by kernel_rfl) (by kernel_rfl) (by kernel_rfl) (fun _ _ _ h => h) (Or.inl ⟨by kernel_rfl, ?_⟩) (by assumption) ?_; rotate_left; · ((intro w hSw; (try dsimp only at hSw); go_simp); first | done | (with_reducible rfl)))
  (try simp only [Act.put, List.getElem_toArray, List.getElem_cons_zero, List.getElem_cons_succ, List.setIfInBounds_toArray, List.set_cons_zero, List.set_cons_succ])
  (refine wpAnyH_take (i := 50) (v := ?_) rfl (by kernel_rfl) (by kernel_rfl) (by kernel_rfl) (fun _ _ _ h => h) (Or.inl ⟨by kernel_rfl, ?_⟩) (by assumption) ?_; rotate_left; · ((intro w hSw; (try dsimp only at hSw); go_simp); first | done | (with_reducible rfl)))
  (try simp only [Act.put, List.getElem_toArray, List.getElem_cons_zero, List.getElem_cons_succ, List.setIfInBounds_toArray, List.set_cons_zero, List.set_cons_succ])
  (refine wpAnyH_take (i := 51) (v := ?_) rfl (by kernel_rfl) (by kernel_rfl) (by kernel_rfl) (fun _ _ _ h => h) (Or.inl ⟨by kernel_rfl, ?_⟩) (by assumption) ?_; rotate_left; · ((intro w hSw; (try dsimp only at hSw); go_simp); first | done | (with_reducible rfl)))
  (try simp only [Act.put, List.getElem_toArray, List.getElem_cons_zero, List.getElem_cons_succ, List.setIfInBounds_toArray, List.set_cons_zero, List.set_cons_succ])
  (refine wpAnyH_take (i := 52) (v := ?_) rfl (by kernel_rfl) (by kernel_rfl) (by kernel_rfl) (fun _ _ _ h => h) (Or.inl ⟨by kernel_rfl, ?_⟩) (by assumption) ?_; rotate_left; · ((intro w hSw; (try dsimp only at hSw); go_simp); first | done | (with_reducible rfl)))
  (try simp only [Act.put, List.getElem_toArray, List.getElem_cons_zero, List.getElem_cons_succ, List.setIfInBounds_toArray, List.set_cons_zero, List.set_cons_succ])
  (refine wpAnyH_take (i := 53) (v := ?_) rfl (by kernel_rfl) (by kernel_rfl) (by kernel_rfl) (fun _ _ _ h => h) (Or.inl ⟨by kernel_rfl, ?_⟩) (by assumption) ?_; rotate_left; · ((intro w hSw; (try dsimp only at hSw); go_simp); first | done | (with_reducible rfl)))
  (try simp only [Act.put, List.getElem_toArray, List.getElem_cons_zero, List.getElem_cons_succ, List.setIfInBounds_toArray, List.set_cons_zero, List.set_cons_succ])
  refine wpAnyH_ready (rs := [54]) (by kernel_rfl) (by simp) (AllReadyH.cons rfl (fun K hK => ?_) AllReadyH.nil)
  (try go_simp)
  first
    | (refine hK.out _ _ ?_ (fun hNew => ?_))
    | (((first | (go_at_call 20; refine (MixColor_sV _ _ _ _ _ _ _ _ _ _ h1 h2 (by omega) (by omega)).mono ?_; rintro e wz ⟨rfl, hbz⟩; obtain ⟨hc1, hf1⟩ := bcell hbz; have hz1 := hbz.size; (try simp only [World.size_alloc, World.size_setCell, World.size_drew] at hz1); have z0a : w1.heap.size < wz.heap.size := (by omega); have z0b : w1.heap.size < wz.heap.size + 1 := (by omega); have z0c : w1.heap.size < wz.heap.size + 1 + 1 := (by omega); have z0d : w1.heap.size < wz.heap.size + 1 + 1 + 1 := (by omega); have z1a : w1.heap.size + 1 < wz.heap.size := (by omega); have z1b : w1.heap.size + 1 < wz.heap.size + 1 := (by omega); have z1c : w1.heap.size + 1 < wz.heap.size + 1 + 1 := (by omega); have z1d : w1.heap.size + 1 < wz.heap.size + 1 + 1 + 1 := (by omega); have z2a : w2.heap.size < wz.heap.size := (by omega); have z2b : w2.heap.size < wz.heap.size + 1 := (by omega); have z2c : w2.heap.size < wz.heap.size + 1 + 1 := (by omega); have z2d : w2.heap.size < wz.heap.size + 1 + 1 + 1 := (by omega); have BZ : Below w.heap.size w wz := below_then (by first | (have hhh := HB3.out; go_grown; done) | (have hhh := HB2.out; go_grown; done) | fail) hbz; clear hbz) | (go_at_call 16; refine (ValidColor_i _ _ _ _ _).mono ?_; rintro e wz ⟨rfl, rfl⟩) | (go_at_call 21; refine (MixColor_iV _ _ _ _ _ _ _ _ _ _ (by assumption) (by assumption) (by omega) (by omega)).mono ?_; rintro e wz ⟨rfl, hbz⟩; obtain ⟨hc1, hf1⟩ := bcell hbz; have hz1 := hbz.size; (try simp only [World.size_alloc, World.size_setCell, World.size_drew] at hz1); have z0a : w1.heap.size < wz.heap.size := (by omega); have z0b : w1.heap.size < wz.heap.size + 1 := (by omega); have z0c : w1.heap.size < wz.heap.size + 1 + 1 := (by omega); have z0d : w1.heap.size < wz.heap.size + 1 + 1 + 1 := (by omega); have z1a : w1.heap.size + 1 < wz.heap.size := (by omega); have z1b : w1.heap.size + 1 < wz.heap.size + 1 := (by omega); have z1c : w1.heap.size + 1 < wz.heap.size + 1 + 1 := (by omega); have z1d : w1.heap.size + 1 < wz.heap.size + 1 + 1 + 1 := (by omega); have z2a : w2.heap.size < wz.heap.size := (by omega); have z2b : w2.heap.size < wz.heap.size + 1 := (by omega); have z2c : w2.heap.size < wz.heap.size + 1 + 1 := (by omega); have z2d : w2.heap.size < wz.heap.size + 1 + 1 + 1 := (by omega); have BZ : Below w.heap.size w wz := below_then (by first | (have hhh := HB3.out; go_grown; done) | (have hhh := HB2.out; go_grown; done) | fail) hbz; clear hbz))); (try go_wp2_with fail); (refine hK.out _ _ ?_ (fun hNew => ?_)))
    | fail
  · (try dsimp only)
    first | ((try go_split_ands); (((repeat' apply And.intro) <;> (first | ((repeat (first | (with_reducible assumption) | (with_reducible refine cell_keepD ?_) | (with_reducible refine cell_keepA ?_ _) | (with_reducible refine cell_keepS ?_ _ (by simp only []; omega)) | (with_reducible refine (hc1 _ _ (by go_size)).trans ?_))); done) | (go_cell; done))))) | fail
  clear hK K hHeld
  have hHeld := hNew
  clear hNew
  (try clear hc1)
  (try clear hf1)
  (try simp only [Act.put, List.getElem_toArray, List.getElem_cons_zero, List.getElem_cons_succ, List.setIfInBounds_toArray, List.set_cons_zero, List.set_cons_succ])
  (refine wpAnyH_take (i := 55) (v := ?_) rfl (by kernel_rfl) (by kernel_rfl) (by kernel_rfl) (fun _ _ _ h => h) (Or.inl ⟨by kernel_rfl, ?_⟩) (by assumption) ?_; rotate_left; · ((intro w hSw; (try dsimp only at hSw); go_simp); first | done | (with_reducible rfl)))
  (try simp only [Act.put, List.getElem_toArray, List.getElem_cons_zero, List.getElem_cons_succ, List.setIfInBounds_toArray, List.set_cons_zero, List.set_cons_succ])
  (refine wpAnyH_take (i := 56) (v := ?_) rfl (by kernel_rfl) (by kernel_rfl) (by kernel_rfl) (fun _ _ _ h => h) (Or.inl ⟨by kernel_rfl, ?_⟩) (by assumption) ?_; rotate_left; · ((intro w hSw; (try dsimp only at hSw); go_simp); first | done | (with_reducible rfl)))
  (try simp only [Act.put, List.getElem_toArray, List.getElem_cons_zero, List.getElem_cons_succ, List.setIfInBounds_toArray, List.set_cons_zero, List.set_cons_succ])
  (refine wpAnyH_take (i := 57) (v := ?_) rfl (by kernel_rfl) (by kernel_rfl) (by kernel_rfl) (fun _ _ _ h => h) (Or.inl ⟨by kernel_rfl, ?_⟩) (by assumption) ?_; rotate_left; · ((intro w hSw; (try dsimp only at hSw); go_simp); first | done | (with_reducible rfl)))
  (try simp only [Act.put, List.getElem_toArray, List.getElem_cons_zero, List.getElem_cons_succ, List.setIfInBounds_toArray, List.set_cons_zero, List.set_cons_succ])
  (refine wpAnyH_take (i := 58) (v := ?_) rfl (by kernel_rfl) (by kernel_rfl) (by kernel_rfl) (fun _ _ _ h => h) (Or.inl ⟨by kernel_rfl, ?_⟩) (by assumption) ?_; rotate_left; · ((intro w hSw; (try dsimp only at hSw); go_simp); first | done | (with_reducible rfl)))
  (try simp only [Act.put, List.getElem_toArray, List.getElem_cons_zero, List.getElem_cons_succ, List.setIfInBounds_toArray, List.set_cons_zero, List.set_cons_succ])
  (refine wpAnyH_take (i := 59) (v := ?_) rfl (by kernel_rfl) (by kernel_rfl) (by kernel_rfl) (fun _ _ _ h => h) (Or.inl ⟨by kernel_rfl, ?_⟩) (by assumption) ?_; rotate_left; · ((intro w hSw; (try dsimp only at hSw); go_simp); first | done | (with_reducible rfl)))
  (try simp only [Act.put, List.getElem_toArray, List.getElem_cons_zero, List.getElem_cons_succ, List.setIfInBounds_toArray, List.set_cons_zero, List.set_cons_succ])
  (refine wpAnyH_take (i := 61) (v := ?_) rfl (by kernel_rfl) (by kernel_rfl) (by kernel_rfl) (fun _ _ _ h => h) (Or.inl ⟨by kernel_rfl, ?_⟩) (by assumption) ?_; rotate_left; · ((intro w hSw; (try dsimp only at hSw); go_simp); first | done | (with_reducible rfl)))
  (try simp only [Act.put, List.getElem_toArray, List.getElem_cons_zero, List.getElem_cons_succ, List.setIfInBounds_toArray, List.set_cons_zero, List.set_cons_succ])
  refine wpAnyH_ready (rs := [60]) (by kernel_rfl) (by simp) (AllReadyH.cons rfl (fun K hK => ?_) AllReadyH.nil)
  (try go_simp)
  first
    | (refine hK.out _ _ ?_ (fun hNew => ?_))
    | (((first | (go_at_call 20; refine (MixColor_sV _ _ _ _ _ _ _ _ _ _ h1 h2 (by omega) (by omega)).mono ?_; rintro e wz ⟨rfl, hbz⟩; obtain ⟨hc1, hf1⟩ := bcell hbz; have hz1 := hbz.size; (try simp only [World.size_alloc, World.size_setCell, World.size_drew] at hz1); have z0a : w1.heap.size < wz.heap.size := (by omega); have z0b : w1.heap.size < wz.heap.size + 1 := (by omega); have z0c : w1.heap.size < wz.heap.size + 1 + 1 := (by omega); have z0d : w1.heap.size < wz.heap.size + 1 + 1 + 1 := (by omega); have z1a : w1.heap.size + 1 < wz.heap.size := (by omega); have z1b : w1.heap.size + 1 < wz.heap.size + 1 := (by omega); have z1c : w1.heap.size + 1 < wz.heap.size + 1 + 1 := (by omega); have z1d : w1.heap.size + 1 < wz.heap.size + 1 + 1 + 1 := (by omega); have z2a : w2.heap.size < wz.heap.size := (by omega); have z2b : w2.heap.size < wz.heap.size + 1 := (by omega); have z2c : w2.heap.size < wz.heap.size + 1 + 1 := (by omega); have z2d : w2.heap.size < wz.heap.size + 1 + 1 + 1 := (by omega); have BZ : Below w.heap.size w wz := below_then (by first | (have hhh := HB3.out; go_grown; done) | (have hhh := HB2.out; go_grown; done) | fail) hbz; clear hbz) | (go_at_call 16; refine (ValidColor_i _ _ _ _ _).mono ?_; rintro e wz ⟨rfl, rfl⟩) | (go_at_call 21; refine (MixColor_iV _ _ _ _ _ _ _ _ _ _ (by assumption) (by assumption) (by omega) (by omega)).mono ?_; rintro e wz ⟨rfl, hbz⟩; obtain ⟨hc1, hf1⟩ := bcell hbz; have hz1 := hbz.size; (try simp only [World.size_alloc, World.size_setCell, World.size_drew] at hz1); have z0a : w1.heap.size < wz.heap.size := (by omega); have z0b : w1.heap.size < wz.heap.size + 1 := (by omega); have z0c : w1.heap.size < wz.heap.size + 1 + 1 := (by omega); have z0d : w1.heap.size < wz.heap.size + 1 + 1 + 1 := (by omega); have z1a : w1.heap.size + 1 < wz.heap.size := (by omega); have z1b : w1.heap.size + 1 < wz.heap.size + 1 := (by omega); have z1c : w1.heap.size + 1 < wz.heap.size + 1 + 1 := (by omega); have z1d : w1.heap.size + 1 < wz.heap.size + 1 + 1 + 1 := (by omega); have z2a : w2.heap.size < wz.heap.size := (by omega); have z2b : w2.heap.size < wz.heap.size + 1 := (by omega); have z2c : w2.heap.size < wz.heap.size + 1 + 1 := (by omega); have z2d : w2.heap.size < wz.heap.size + 1 + 1 + 1 := (by omega); have BZ : Below w.heap.size w wz := below_then (by first | (have hhh := HB3.out; go_grown; done) | (have hhh := HB2.out; go_grown; done) | fail) hbz; clear hbz))); (try go_wp2_with fail); (refine hK.out _ _ ?_ (fun hNew => ?_)))
    | fail
  · (try dsimp only)
    first | ((try go_split_ands); (((repeat' apply And.intro) <;> (first | ((repeat (first | (with_reducible assumption) | (with_reducible refine cell_keepD ?_) | (with_reducible refine cell_keepA ?_ _) | (with_reducible refine cell_keepS ?_ _ (by simp only []; omega)) | (with_reducible refine (hc1 _ _ (by go_size)).trans ?_))); done) | (go_cell; done))))) | fail
  clear hK K hHeld
  have hHeld := hNew
  clear hNew
  (try clear hc1)
  (try clear hf1)
  (try simp only [Act.put, List.getElem_toArray, List.getElem_cons_zero, List.getElem_cons_succ, List.setIfInBounds_toArray, List.set_cons_zero, List.set_cons_succ])
  (refine wpAnyH_take (i := 62) (v := ?_) rfl (by kernel_rfl) (by kernel_rfl) (by kernel_rfl) (fun _ _ _ h => h) (Or.inl ⟨by kernel_rfl, ?_⟩) (by assumption) ?_; rotate_left; · ((intro w hSw; (try dsimp only at hSw); go_simp); first | done | (with_reducible rfl)))
  (try simp only [Act.put, List.getElem_toArray, List.getElem_cons_zero, List.getElem_cons_succ, List.setIfInBounds_toArray, List.set_cons_zero, List.set_cons_succ])
  (refine wpAnyH_take (i := 63) (v := ?_) rfl (by kernel_rfl) (by kernel_rfl) (by kernel_rfl) (fun _ _ _ h => h) (Or.inl ⟨by kernel_rfl, ?_⟩) (by assumption) ?_; rotate_left; · ((intro w hSw; (try dsimp only at hSw); go_simp); first | done | (with_reducible rfl)))
  (try simp only [Act.put, List.getElem_toArray, List.getElem_cons_zero, List.getElem_cons_succ, List.setIfInBounds_toArray, List.set_cons_zero, List.set_cons_succ])
  (refine wpAnyH_take (i := 64) (v := ?_) rfl (by kernel_rfl) (by kernel_rfl) (by kernel_rfl) (fun _ _ _ h => h) (Or.inl ⟨by kernel_rfl, ?_⟩) (by assumption) ?_; rotate_left; · ((intro w hSw; (try dsimp only at hSw); go_simp); first | done | (with_reducible rfl)))
  (try simp only [Act.put, List.getElem_toArray, List.getElem_cons_zero, List.getElem_cons_succ, List.setIfInBounds_toArray, List.set_cons_zero, List.set_cons_succ])
  (try dsimp only at hHeld)
  obtain ⟨s7_0, s7_1, s7_2, s7_3, s7_4, s7_5, s7_6, s7_7, s7_8, s7_9, s7_10, s7_11⟩ := hHeld
  refine wpAnyH_done (by kernel_rfl) ?_ _
  go_wp2_with (first | (go_at_call 16; refine (ValidColor_i _ _ _ _ _).mono ?_; rintro e wz ⟨rfl, rfl⟩) | fail)
  all_goals
    go_ret
    exact ⟨ret_b (by first | rfl | (simp; done) | (simp [*]; done) | (simp; omega)), by have hhh := HB2.out; go_grown⟩

end Go.Proofs.Ytmdkfeojkjlpeaa
