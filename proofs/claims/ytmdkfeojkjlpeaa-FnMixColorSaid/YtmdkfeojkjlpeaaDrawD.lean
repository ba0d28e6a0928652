/-
  What the generators of the arguments of colors yield.
-/
import Derived.Test.YtmdkfeojkjlpeaaDrawC
import Derived.Deep.RegionHeld3
namespace Go.Proofs.Ytmdkfeojkjlpeaa
open Go.RowKit
set_option linter.unusedSimpArgs false
set_option linter.unusedVariables false

theorem Ints.drew {w : World} {A : Option Addr} {zs : List Int} (h : Ints w A zs) : Ints w.drew A zs := h
theorem row_col1 (w : World) (t : TypeId) (r g b a : Int) (x : Nat) (hx : x = w.heap.size) : Row (w.alloc (.cells #[.int .i64 r, .int .i64 g, .int .i64 b, .int .i64 a] t)) x t 4 (col r g b a) := by subst hx; exact row_col w t r g b a
set_option maxHeartbeats 1000000 in
theorem DrawValidColor_c (A : Option Addr) (n cap : Nat) (w : World) (h : Code w.heap.size w A n cap) :
    Calls Try.prog 24 #[.slice A n cap] w (GotC 2000 w) := by
  have HC := Lib.hid h
  clear h
  go_enter Try.func24, Try.ntmps24
  go_wp2_with fail
  refine (newReader_c w.heap.size _ _ _ _ (HC.out.below (by go_grown)) (by go_size)).mono ?_
  rintro e w0 ⟨rfl, hr, hb, hz⟩
  (try simp only [World.size_alloc] at hr hz)
  have X0_0 := Lib.hid (show Row w0 (w.heap.size) 25 4 (col 0 0 0 0) from Row.below (row_col1 _ _ _ _ _ _ _ (by go_size)) hb (by go_size))
  have HB0 := Lib.hid (show Below w.heap.size w w0 from below_then (by go_grown) hb)
  have HR0 := Lib.hid hr
  have hs0 : w.heap.size + 2 = w0.heap.size := by omega
  clear hr hb hz
  go_wp2_with fail
  refine (anyColor_c w.heap.size (w.heap.size + 1) 0 _ (by (repeat (first | (with_reducible exact HR0.out) | (with_reducible refine Rd.alloc ?_ _) | (with_reducible refine Rd.drew ?_) | (with_reducible refine Rd.setCell ?_ (by simp only []; omega) (by simp only []; omega) _)))) (by omega)).mono ?_
  rintro e w1 ⟨r1, g1, b1, a1, p1, hp1, hq1, hQ1, rfl, hr1, hg1⟩
  unfold ColBd at hQ1
  have X0_1 := Lib.hid (show Row w1 (w.heap.size) 25 4 (col 0 0 0 0) from (Row.grown (by (repeat (first | (with_reducible exact X0_0.out) | (with_reducible refine Row.alloc ?_ _) | (with_reducible refine Row.drew ?_)))) hg1 (by omega)))
  have HB1 := Lib.hid (show Below w.heap.size w w1 from below_grown (by have hhh := HB0.out; go_grown) hg1 (by go_size) (by omega))
  have HR1 := Lib.hid hr1
  have hs1 := hg1.size
  (try simp only [World.size_alloc, World.size_setCell, World.size_drew] at hs1)
  clear hr1 hg1
  obtain ⟨⟨cX0_1_0, cX0_1_1, cX0_1_2, cX0_1_3⟩, fX0_1_0, fX0_1_1, fX0_1_2, fX0_1_3⟩ := col_cells X0_1.out
  go_wp2
  refine bodyPost_ret (by simp [results, Try.results24, go_sem, *]; try rfl) rfl ?_
  exact ⟨_, _, _, _, hQ1, rfl, (by have hhh := HB1.out; go_grown)⟩
def GotCI (M : Int) (w : World) (e : Ending) (w' : World) : Prop := ∃ r g b a t : Int, ColBd M r g b a ∧ -M ≤ t ∧ t ≤ M ∧ e = .returned (.tuple #[.agg #[.int .i64 r, .int .i64 g, .int .i64 b, .int .i64 a], .int .i64 t]) ∧ Below w.heap.size w w'
def GotCC (M : Int) (w : World) (e : Ending) (w' : World) : Prop := ∃ r g b a r' g' b' a' : Int, ColBd M r g b a ∧ ColBd M r' g' b' a' ∧ e = .returned (.tuple #[.agg #[.int .i64 r, .int .i64 g, .int .i64 b, .int .i64 a], .agg #[.int .i64 r', .int .i64 g', .int .i64 b', .int .i64 a']]) ∧ Below w.heap.size w w'
def GotCCI (M : Int) (w : World) (e : Ending) (w' : World) : Prop := ∃ r g b a r' g' b' a' t : Int, ColBd M r g b a ∧ ColBd M r' g' b' a' ∧ -M ≤ t ∧ t ≤ M ∧ e = .returned (.tuple #[.agg #[.int .i64 r, .int .i64 g, .int .i64 b, .int .i64 a], .agg #[.int .i64 r', .int .i64 g', .int .i64 b', .int .i64 a'], .int .i64 t]) ∧ Below w.heap.size w w'
set_option maxHeartbeats 1000000 in
theorem DrawCoverColor_c (A : Option Addr) (n cap : Nat) (w : World) (h : Code w.heap.size w A n cap) :
    Calls Try.prog 25 #[.slice A n cap] w (GotCI 2000 w) := by
  have HC := Lib.hid h
  clear h
  go_enter Try.func25, Try.ntmps25
  go_wp2_with fail
  refine (newReader_c w.heap.size _ _ _ _ (HC.out.below (by go_grown)) (by go_size)).mono ?_
  rintro e w0 ⟨rfl, hr, hb, hz⟩
  (try simp only [World.size_alloc] at hr hz)
  have X0_0 := Lib.hid (show Row w0 (w.heap.size) 25 4 (col 0 0 0 0) from Row.below (row_col1 _ _ _ _ _ _ _ (by go_size)) hb (by go_size))
  have HB0 := Lib.hid (show Below w.heap.size w w0 from below_then (by go_grown) hb)
  have HR0 := Lib.hid hr
  have hs0 : w.heap.size + 2 = w0.heap.size := by omega
  clear hr hb hz
  go_wp2_with fail
  refine (anyColor_c w.heap.size (w.heap.size + 1) 0 _ (by (repeat (first | (with_reducible exact HR0.out) | (with_reducible refine Rd.alloc ?_ _) | (with_reducible refine Rd.drew ?_) | (with_reducible refine Rd.setCell ?_ (by simp only []; omega) (by simp only []; omega) _)))) (by omega)).mono ?_
  rintro e w1 ⟨r1, g1, b1, a1, p1, hp1, hq1, hQ1, rfl, hr1, hg1⟩
  unfold ColBd at hQ1
  have X0_1 := Lib.hid (show Row w1 (w.heap.size) 25 4 (col 0 0 0 0) from (Row.grown (by (repeat (first | (with_reducible exact X0_0.out) | (with_reducible refine Row.alloc ?_ _) | (with_reducible refine Row.drew ?_)))) hg1 (by omega)))
  have HB1 := Lib.hid (show Below w.heap.size w w1 from below_grown (by have hhh := HB0.out; go_grown) hg1 (by go_size) (by omega))
  have HR1 := Lib.hid hr1
  have hs1 := hg1.size
  (try simp only [World.size_alloc, World.size_setCell, World.size_drew] at hs1)
  clear hr1 hg1
  go_wp2_with fail
  go_region_held3 (fun w' => w'.cell? ⟨w1.heap.size, 0, none⟩ = some (.int .i64 r1) ∧ w'.cell? ⟨w1.heap.size, 1, none⟩ = some (.int .i64 g1) ∧ w'.cell? ⟨w1.heap.size, 2, none⟩ = some (.int .i64 b1) ∧ w'.cell? ⟨w1.heap.size, 3, none⟩ = some (.int .i64 a1)) ((repeat' apply And.intro) <;> (first | ((repeat (first | (with_reducible assumption) | (with_reducible refine cell_keepD ?_) | (with_reducible refine cell_keepA ?_ _) | (with_reducible refine cell_keepS ?_ _ (by simp only []; omega)))); done) | (go_cell; done)))
    (first | (go_at_call 41; refine (one_c w.heap.size (w.heap.size + 1) p1 [0, 16, 8, 3, 15, 17, -1] _ _ _ _ ?_ ?_ ?_ ?_ rfl ?_ ?_).mono ?_; (repeat (first | (with_reducible exact HR1.out) | (with_reducible refine Rd.alloc ?_ _) | (with_reducible refine Rd.drew ?_) | (with_reducible refine Rd.setCell ?_ (by simp only []; omega) (by simp only []; omega) _))); omega; (try with_reducible refine Ints.drew ?_); (with_reducible refine Ints.lit _ _ _ _ _ ?_ ?_); (simp only [World.size_alloc]); (rfl); omega; (simp); (simp); rintro e w2 ⟨v2, p2, hp2, hq2, hv2, rfl, hr2, hg2⟩; simp only [List.mem_cons, List.not_mem_nil, or_false] at hv2; have X0_2 := Lib.hid (show Row w2 (w.heap.size) 25 4 (col 0 0 0 0) from (Row.grown (by (repeat (first | (with_reducible exact X0_1.out) | (with_reducible refine Row.alloc ?_ _) | (with_reducible refine Row.drew ?_)))) hg2 (by omega))); have C2 := Lib.hid (show Row w2 w1.heap.size 25 4 (col r1 g1 b1 a1) from (Row.grown (by (repeat (first | (with_reducible exact (row_col w1 25 r1 g1 b1 a1)) | (with_reducible refine Row.alloc ?_ _) | (with_reducible refine Row.drew ?_)))) hg2 (by omega))); have HB2 := Lib.hid (show Below w.heap.size w w2 from below_grown (by have hhh := HB1.out; go_grown) hg2 (by go_size) (by omega)); have HR2 := Lib.hid hr2; have hs2 := hg2.size; (try simp only [World.size_alloc, World.size_setCell, World.size_drew] at hs2); clear hr2 hg2; obtain ⟨⟨cX0_2_0, cX0_2_1, cX0_2_2, cX0_2_3⟩, fX0_2_0, fX0_2_1, fX0_2_2, fX0_2_3⟩ := col_cells X0_2.out; obtain ⟨⟨cC2_0, cC2_1, cC2_2, cC2_3⟩, fC2_0, fC2_1, fC2_2, fC2_3⟩ := col_cells C2.out; have HV2 := Lib.hid hv2; clear hv2))
  all_goals
    go_wp2
    refine bodyPost_ret (by simp [results, Try.results25, go_sem, *]; try rfl) rfl ?_
    exact ⟨r1, g1, b1, a1, v2, hQ1, by have := HV2.out; omega, by have := HV2.out; omega, rfl, (by have hhh := HB2.out; go_grown)⟩
set_option maxHeartbeats 1000000 in
theorem DrawOverColor_c (A : Option Addr) (n cap : Nat) (w : World) (h : Code w.heap.size w A n cap) :
    Calls Try.prog 27 #[.slice A n cap] w (GotCC 2000 w) := by
  have HC := Lib.hid h
  clear h
  go_enter Try.func27, Try.ntmps27
  go_wp2_with fail
  refine (newReader_c w.heap.size _ _ _ _ (HC.out.below (by go_grown)) (by go_size)).mono ?_
  rintro e w0 ⟨rfl, hr, hb, hz⟩
  (try simp only [World.size_alloc] at hr hz)
  have X0_0 := Lib.hid (show Row w0 (w.heap.size) 25 4 (col 0 0 0 0) from Row.below (Row.alloc (row_col1 _ _ _ _ _ _ _ (by go_size)) _) hb (by go_size))
  have X1_0 := Lib.hid (show Row w0 (w.heap.size + 1) 25 4 (col 0 0 0 0) from Row.below (row_col1 _ _ _ _ _ _ _ (by go_size)) hb (by go_size))
  have HB0 := Lib.hid (show Below w.heap.size w w0 from below_then (by go_grown) hb)
  have HR0 := Lib.hid hr
  have hs0 : w.heap.size + 3 = w0.heap.size := by omega
  clear hr hb hz
  go_wp2_with fail
  refine (anyColor_c w.heap.size (w.heap.size + 1 + 1) 0 _ (by (repeat (first | (with_reducible exact HR0.out) | (with_reducible refine Rd.alloc ?_ _) | (with_reducible refine Rd.drew ?_) | (with_reducible refine Rd.setCell ?_ (by simp only []; omega) (by simp only []; omega) _)))) (by omega)).mono ?_
  rintro e w1 ⟨r1, g1, b1, a1, p1, hp1, hq1, hQ1, rfl, hr1, hg1⟩
  unfold ColBd at hQ1
  have X0_1 := Lib.hid (show Row w1 (w.heap.size) 25 4 (col 0 0 0 0) from (Row.grown (by (repeat (first | (with_reducible exact X0_0.out) | (with_reducible refine Row.alloc ?_ _) | (with_reducible refine Row.drew ?_)))) hg1 (by omega)))
  have X1_1 := Lib.hid (show Row w1 (w.heap.size + 1) 25 4 (col 0 0 0 0) from (Row.grown (by (repeat (first | (with_reducible exact X1_0.out) | (with_reducible refine Row.alloc ?_ _) | (with_reducible refine Row.drew ?_)))) hg1 (by omega)))
  have HB1 := Lib.hid (show Below w.heap.size w w1 from below_grown (by have hhh := HB0.out; go_grown) hg1 (by go_size) (by omega))
  have HR1 := Lib.hid hr1
  have hs1 := hg1.size
  (try simp only [World.size_alloc, World.size_setCell, World.size_drew] at hs1)
  clear hr1 hg1
  go_wp2_with fail
  go_region_held3 (fun w' => w'.cell? ⟨w1.heap.size, 0, none⟩ = some (.int .i64 r1) ∧ w'.cell? ⟨w1.heap.size, 1, none⟩ = some (.int .i64 g1) ∧ w'.cell? ⟨w1.heap.size, 2, none⟩ = some (.int .i64 b1) ∧ w'.cell? ⟨w1.heap.size, 3, none⟩ = some (.int .i64 a1)) ((repeat' apply And.intro) <;> (first | ((repeat (first | (with_reducible assumption) | (with_reducible refine cell_keepD ?_) | (with_reducible refine cell_keepA ?_ _) | (with_reducible refine cell_keepS ?_ _ (by simp only []; omega)))); done) | (go_cell; done)))
    (first | (go_at_call 39; refine (anyColor_c w.heap.size (w.heap.size + 1 + 1) p1 _ ?_ ?_).mono ?_; (repeat (first | (with_reducible exact HR1.out) | (with_reducible refine Rd.alloc ?_ _) | (with_reducible refine Rd.drew ?_) | (with_reducible refine Rd.setCell ?_ (by simp only []; omega) (by simp only []; omega) _))); omega; rintro e w2 ⟨r2, g2, b2, a2, p2, hp2, hq2, hQ2, rfl, hr2, hg2⟩; unfold ColBd at hQ2; have X0_2 := Lib.hid (show Row w2 (w.heap.size) 25 4 (col 0 0 0 0) from (Row.grown (by (repeat (first | (with_reducible exact X0_1.out) | (with_reducible refine Row.alloc ?_ _) | (with_reducible refine Row.drew ?_)))) hg2 (by omega))); have X1_2 := Lib.hid (show Row w2 (w.heap.size + 1) 25 4 (col 0 0 0 0) from (Row.grown (by (repeat (first | (with_reducible exact X1_1.out) | (with_reducible refine Row.alloc ?_ _) | (with_reducible refine Row.drew ?_)))) hg2 (by omega))); have C2 := Lib.hid (show Row w2 w1.heap.size 25 4 (col r1 g1 b1 a1) from (Row.grown (by (repeat (first | (with_reducible exact (row_col w1 25 r1 g1 b1 a1)) | (with_reducible refine Row.alloc ?_ _) | (with_reducible refine Row.drew ?_)))) hg2 (by omega))); have HB2 := Lib.hid (show Below w.heap.size w w2 from below_grown (by have hhh := HB1.out; go_grown) hg2 (by go_size) (by omega)); have HR2 := Lib.hid hr2; have hs2 := hg2.size; (try simp only [World.size_alloc, World.size_setCell, World.size_drew] at hs2); clear hr2 hg2; obtain ⟨⟨cX0_2_0, cX0_2_1, cX0_2_2, cX0_2_3⟩, fX0_2_0, fX0_2_1, fX0_2_2, fX0_2_3⟩ := col_cells X0_2.out; obtain ⟨⟨cX1_2_0, cX1_2_1, cX1_2_2, cX1_2_3⟩, fX1_2_0, fX1_2_1, fX1_2_2, fX1_2_3⟩ := col_cells X1_2.out; obtain ⟨⟨cC2_0, cC2_1, cC2_2, cC2_3⟩, fC2_0, fC2_1, fC2_2, fC2_3⟩ := col_cells C2.out))
  all_goals
    go_wp2
    refine bodyPost_ret (by simp [results, Try.results27, go_sem, *]; try rfl) rfl ?_
    exact ⟨r1, g1, b1, a1, r2, g2, b2, a2, hQ1, hQ2, rfl, (by have hhh := HB2.out; go_grown)⟩
set_option maxHeartbeats 1000000 in
theorem DrawMixColor_c (A : Option Addr) (n cap : Nat) (w : World) (h : Code w.heap.size w A n cap) :
    Calls Try.prog 26 #[.slice A n cap] w (GotCCI 2000 w) := by
  have HC := Lib.hid h
  clear h
  go_enter Try.func26, Try.ntmps26
  go_wp2_with fail
  refine (newReader_c w.heap.size _ _ _ _ (HC.out.below (by go_grown)) (by go_size)).mono ?_
  rintro e w0 ⟨rfl, hr, hb, hz⟩
  (try simp only [World.size_alloc] at hr hz)
  have X0_0 := Lib.hid (show Row w0 (w.heap.size) 25 4 (col 0 0 0 0) from Row.below (Row.alloc (row_col1 _ _ _ _ _ _ _ (by go_size)) _) hb (by go_size))
  have X1_0 := Lib.hid (show Row w0 (w.heap.size + 1) 25 4 (col 0 0 0 0) from Row.below (row_col1 _ _ _ _ _ _ _ (by go_size)) hb (by go_size))
  have HB0 := Lib.hid (show Below w.heap.size w w0 from below_then (by go_grown) hb)
  have HR0 := Lib.hid hr
  have hs0 : w.heap.size + 3 = w0.heap.size := by omega
  clear hr hb hz
  go_wp2_with fail
  refine (anyColor_c w.heap.size (w.heap.size + 1 + 1) 0 _ (by (repeat (first | (with_reducible exact HR0.out) | (with_reducible refine Rd.alloc ?_ _) | (with_reducible refine Rd.drew ?_) | (with_reducible refine Rd.setCell ?_ (by simp only []; omega) (by simp only []; omega) _)))) (by omega)).mono ?_
  rintro e w1 ⟨r1, g1, b1, a1, p1, hp1, hq1, hQ1, rfl, hr1, hg1⟩
  unfold ColBd at hQ1
  have X0_1 := Lib.hid (show Row w1 (w.heap.size) 25 4 (col 0 0 0 0) from (Row.grown (by (repeat (first | (with_reducible exact X0_0.out) | (with_reducible refine Row.alloc ?_ _) | (with_reducible refine Row.drew ?_)))) hg1 (by omega)))
  have X1_1 := Lib.hid (show Row w1 (w.heap.size + 1) 25 4 (col 0 0 0 0) from (Row.grown (by (repeat (first | (with_reducible exact X1_0.out) | (with_reducible refine Row.alloc ?_ _) | (with_reducible refine Row.drew ?_)))) hg1 (by omega)))
  have HB1 := Lib.hid (show Below w.heap.size w w1 from below_grown (by have hhh := HB0.out; go_grown) hg1 (by go_size) (by omega))
  have HR1 := Lib.hid hr1
  have hs1 := hg1.size
  (try simp only [World.size_alloc, World.size_setCell, World.size_drew] at hs1)
  clear hr1 hg1
  go_wp2_with fail
  refine (anyColor_c w.heap.size (w.heap.size + 1 + 1) p1 _ (by (repeat (first | (with_reducible exact HR1.out) | (with_reducible refine Rd.alloc ?_ _) | (with_reducible refine Rd.drew ?_) | (with_reducible refine Rd.setCell ?_ (by simp only []; omega) (by simp only []; omega) _)))) (by omega)).mono ?_
  rintro e w2 ⟨r2, g2, b2, a2, p2, hp2, hq2, hQ2, rfl, hr2, hg2⟩
  unfold ColBd at hQ2
  have X0_2 := Lib.hid (show Row w2 (w.heap.size) 25 4 (col 0 0 0 0) from (Row.grown (by (repeat (first | (with_reducible exact X0_1.out) | (with_reducible refine Row.alloc ?_ _) | (with_reducible refine Row.drew ?_)))) hg2 (by omega)))
  have X1_2 := Lib.hid (show Row w2 (w.heap.size + 1) 25 4 (col 0 0 0 0) from (Row.grown (by (repeat (first | (with_reducible exact X1_1.out) | (with_reducible refine Row.alloc ?_ _) | (with_reducible refine Row.drew ?_)))) hg2 (by omega)))
  have C2 := Lib.hid (show Row w2 w1.heap.size 25 4 (col r1 g1 b1 a1) from (Row.grown (by (repeat (first | (with_reducible exact (row_col w1 25 r1 g1 b1 a1)) | (with_reducible refine Row.alloc ?_ _) | (with_reducible refine Row.drew ?_)))) hg2 (by omega)))
  have HB2 := Lib.hid (show Below w.heap.size w w2 from below_grown (by have hhh := HB1.out; go_grown) hg2 (by go_size) (by omega))
  have HR2 := Lib.hid hr2
  have hs2 := hg2.size
  (try simp only [World.size_alloc, World.size_setCell, World.size_drew] at hs2)
  clear hr2 hg2
  obtain ⟨⟨cX0_2_0, cX0_2_1, cX0_2_2, cX0_2_3⟩, fX0_2_0, fX0_2_1, fX0_2_2, fX0_2_3⟩ := col_cells X0_2.out
  obtain ⟨⟨cX1_2_0, cX1_2_1, cX1_2_2, cX1_2_3⟩, fX1_2_0, fX1_2_1, fX1_2_2, fX1_2_3⟩ := col_cells X1_2.out
  obtain ⟨⟨cC2_0, cC2_1, cC2_2, cC2_3⟩, fC2_0, fC2_1, fC2_2, fC2_3⟩ := col_cells C2.out
  have zC : w1.heap.size < w2.heap.size := by omega
  have zX0 : w.heap.size < w2.heap.size := by omega
  have zX1 : w.heap.size + 1 < w2.heap.size := by omega
  go_wp2_with fail
  go_region_held3 (fun w' => w'.cell? ⟨w1.heap.size, 0, none⟩ = some (.int .i64 r1) ∧ w'.cell? ⟨w1.heap.size, 1, none⟩ = some (.int .i64 g1) ∧ w'.cell? ⟨w1.heap.size, 2, none⟩ = some (.int .i64 b1) ∧ w'.cell? ⟨w1.heap.size, 3, none⟩ = some (.int .i64 a1) ∧ w'.cell? ⟨w2.heap.size, 0, none⟩ = some (.int .i64 r2) ∧ w'.cell? ⟨w2.heap.size, 1, none⟩ = some (.int .i64 g2) ∧ w'.cell? ⟨w2.heap.size, 2, none⟩ = some (.int .i64 b2) ∧ w'.cell? ⟨w2.heap.size, 3, none⟩ = some (.int .i64 a2)) ((repeat' apply And.intro) <;> (first | ((repeat (first | (with_reducible assumption) | (with_reducible refine cell_keepD ?_) | (with_reducible refine cell_keepA ?_ _) | (with_reducible refine cell_keepS ?_ _ (by simp only []; omega)))); done) | (go_cell; done)))
    (first | (go_at_call 41; refine (one_c w.heap.size (w.heap.size + 1 + 1) p2 [0, 256, 128, 1, 77, 257, -1] _ _ _ _ ?_ ?_ ?_ ?_ rfl ?_ ?_).mono ?_; (repeat (first | (with_reducible exact HR2.out) | (with_reducible refine Rd.alloc ?_ _) | (with_reducible refine Rd.drew ?_) | (with_reducible refine Rd.setCell ?_ (by simp only []; omega) (by simp only []; omega) _))); omega; (try with_reducible refine Ints.drew ?_); (with_reducible refine Ints.lit _ _ _ _ _ ?_ ?_); (simp only [World.size_alloc]); (rfl); omega; (simp); (simp); rintro e w3 ⟨v3, p3, hp3, hq3, hv3, rfl, hr3, hg3⟩; simp only [List.mem_cons, List.not_mem_nil, or_false] at hv3; have X0_3 := Lib.hid (show Row w3 (w.heap.size) 25 4 (col 0 0 0 0) from (Row.grown (by (repeat (first | (with_reducible exact X0_2.out) | (with_reducible refine Row.alloc ?_ _) | (with_reducible refine Row.drew ?_)))) hg3 (by omega))); have X1_3 := Lib.hid (show Row w3 (w.heap.size + 1) 25 4 (col 0 0 0 0) from (Row.grown (by (repeat (first | (with_reducible exact X1_2.out) | (with_reducible refine Row.alloc ?_ _) | (with_reducible refine Row.drew ?_)))) hg3 (by omega))); have C3 := Lib.hid (show Row w3 w1.heap.size 25 4 (col r1 g1 b1 a1) from (Row.grown (by (repeat (first | (with_reducible exact C2.out) | (with_reducible refine Row.alloc ?_ _) | (with_reducible refine Row.drew ?_)))) hg3 (by omega))); have D3 := Lib.hid (show Row w3 w2.heap.size 25 4 (col r2 g2 b2 a2) from (Row.grown (by (repeat (first | (with_reducible exact (row_col w2 25 r2 g2 b2 a2)) | (with_reducible refine Row.alloc ?_ _) | (with_reducible refine Row.drew ?_)))) hg3 (by omega))); have HB3 := Lib.hid (show Below w.heap.size w w3 from below_grown (by have hhh := HB2.out; go_grown) hg3 (by go_size) (by omega)); have HR3 := Lib.hid hr3; have hs3 := hg3.size; (try simp only [World.size_alloc, World.size_setCell, World.size_drew] at hs3); clear hr3 hg3; obtain ⟨⟨cX0_3_0, cX0_3_1, cX0_3_2, cX0_3_3⟩, fX0_3_0, fX0_3_1, fX0_3_2, fX0_3_3⟩ := col_cells X0_3.out; obtain ⟨⟨cX1_3_0, cX1_3_1, cX1_3_2, cX1_3_3⟩, fX1_3_0, fX1_3_1, fX1_3_2, fX1_3_3⟩ := col_cells X1_3.out; obtain ⟨⟨cC3_0, cC3_1, cC3_2, cC3_3⟩, fC3_0, fC3_1, fC3_2, fC3_3⟩ := col_cells C3.out; obtain ⟨⟨cD3_0, cD3_1, cD3_2, cD3_3⟩, fD3_0, fD3_1, fD3_2, fD3_3⟩ := col_cells D3.out; have HV3 := Lib.hid hv3; clear hv3))
  all_goals
    go_wp2
    refine bodyPost_ret (by simp [results, Try.results26, go_sem, *]; try rfl) rfl ?_
    exact ⟨r1, g1, b1, a1, r2, g2, b2, a2, v3, hQ1, hQ2, by have := HV3.out; omega, by have := HV3.out; omega, rfl, (by have hhh := HB3.out; go_grown)⟩
end Go.Proofs.Ytmdkfeojkjlpeaa
