/-
  What the generators of colors yield: numbers within bounds; nothing that was there is touched.
-/
import Derived.Test.YtmdkfeojkjlpeaaDraw
import Derived.Test.YtmdkfeojkjlpeaaOwn
namespace Go.Proofs.Ytmdkfeojkjlpeaa
open Go.RowKit
set_option linter.unusedSimpArgs false
set_option linter.unusedVariables false

def ColBd (M r g b a : Int) : Prop := -M ≤ r ∧ r ≤ M ∧ -M ≤ g ∧ g ≤ M ∧ -M ≤ b ∧ b ≤ M ∧ -M ≤ a ∧ a ≤ M
/-- What a generator of colors leaves: four numbers within bounds; at most k picks more; nothing that was there has turned but the reader's own block. -/
def DrawnC (B R p k : Nat) (M : Int) (w : World) (e : Ending) (w' : World) : Prop := ∃ (r g b a : Int) (p' : Nat), p ≤ p' ∧ p' ≤ p + k ∧ ColBd M r g b a ∧ e = .returned (.agg #[.int .i64 r, .int .i64 g, .int .i64 b, .int .i64 a]) ∧ Rd B R p' w' ∧ w.grownBy w' (some R)
def GotC (M : Int) (w : World) (e : Ending) (w' : World) : Prop := ∃ r g b a : Int, ColBd M r g b a ∧ e = .returned (.agg #[.int .i64 r, .int .i64 g, .int .i64 b, .int .i64 a]) ∧ Below w.heap.size w w'
def col (r g b a : Int) : Nat → Value := fun i => .int .i64 (nth [r, g, b, a] i)
theorem Row.grown {w w1 : World} {g n R : Nat} {t : TypeId} {f : Nat → Value} (h : Row w g t n f) (hg : w.grownBy w1 (some R)) (hne : g ≠ R) : Row w1 g t n f := h.keep (hg.block g h.lt (by simpa using hne))
theorem Row.alloc {w : World} {g n : Nat} {t : TypeId} {f : Nat → Value} (h : Row w g t n f) (o : Obj) : Row (w.alloc o) g t n f := h.keep (Below.heap_alloc w o g h.lt)
theorem Row.drew {w : World} {g n : Nat} {t : TypeId} {f : Nat → Value} (h : Row w g t n f) : Row w.drew g t n f := h
theorem row_col (w : World) (t : TypeId) (r g b a : Int) : Row (w.alloc (.cells #[.int .i64 r, .int .i64 g, .int .i64 b, .int .i64 a] t)) w.heap.size t 4 (col r g b a) :=
  ⟨_, heap_alloc_new w _, fun i hi => by match i, hi with | 0, _ => rfl | 1, _ => rfl | 2, _ => rfl | 3, _ => rfl⟩
theorem col_cells {w : World} {x : Nat} {t : TypeId} {r g b a : Int} (h : Row w x t 4 (col r g b a)) : (w.cell? ⟨x, 0, none⟩ = some (.int .i64 r) ∧ w.cell? ⟨x, 1, none⟩ = some (.int .i64 g) ∧ w.cell? ⟨x, 2, none⟩ = some (.int .i64 b) ∧ w.cell? ⟨x, 3, none⟩ = some (.int .i64 a)) ∧ w.frozen? ⟨x, 0, none⟩ = false ∧ w.frozen? ⟨x, 1, none⟩ = false ∧ w.frozen? ⟨x, 2, none⟩ = false ∧ w.frozen? ⟨x, 3, none⟩ = false :=
  ⟨⟨h.cell (by omega), h.cell (by omega), h.cell (by omega), h.cell (by omega)⟩, h.free 0, h.free 1, h.free 2, h.free 3⟩
theorem plain_c (r g b a : Int) (w : World) (h1 : 0 ≤ r) (h2 : r ≤ 255) (h3 : 0 ≤ g) (h4 : g ≤ 255) (h5 : 0 ≤ b) (h6 : b ≤ 255) (h7 : 0 ≤ a) (h8 : a ≤ 255) :
    Calls Try.prog 48 #[.int .i64 r, .int .i64 g, .int .i64 b, .int .i64 a] w fun e w' => e = .returned (.agg #[.int .i64 (rnd (r * a) 255), .int .i64 (rnd (g * a) 255), .int .i64 (rnd (b * a) 255), .int .i64 a]) ∧ Below w.heap.size w w' := by
  obtain ⟨m1, m2⟩ := prod_bd h1 h2 h7 (show a ≤ 256 by omega)
  obtain ⟨m3, m4⟩ := prod_bd h3 h4 h7 (show a ≤ 256 by omega)
  obtain ⟨m5, m6⟩ := prod_bd h5 h6 h7 (show a ≤ 256 by omega)
  go_enter Try.func48, Try.ntmps48
  go_wp2_with (first | (go_at_call 43; refine (nearest_c _ _ _ (by omega) (by omega) (by omega) (by omega)).mono ?_; rintro e w1 ⟨rfl, rfl⟩))
  go_returns
  exact ⟨rfl, by go_grown⟩
theorem Rd.ge {B R p : Nat} {w : World} (h : Rd B R p w) : B ≤ R := by obtain ⟨A, n, cap, f, hn, hBR, hblk, hby⟩ := h; exact hBR
set_option maxHeartbeats 1000000 in
theorem randomColor_c (B R p : Nat) (w : World) (h : Rd B R p w) (hp : p ≤ 990000) :
    Calls Try.prog 45 #[.pointer (some ⟨R, 0, none⟩)] w (DrawnC B R p 4 1000 w) := by
  have HR := Lib.hid h
  have hRl := h.lt
  have hBR := h.ge
  clear h
  go_enter Try.func45, Try.ntmps45
  go_wp2_with fail
  refine (one_c B R p [255, 255, 128, 0, 1, 200] _ _ _ _ (by (repeat (first | (with_reducible exact HR.out) | (with_reducible refine Rd.alloc ?_ _) | (with_reducible refine Rd.drew ?_) | (with_reducible refine Rd.setCell ?_ (by simp only []; omega) (by simp only []; omega) _)))) (by omega) (Ints.lit _ _ _ _ _ (by go_size) rfl) (by omega) rfl (by simp) (by simp)).mono ?_
  rintro e w1 ⟨v1, p1, hp1, hq1, hv1, rfl, hr1, hg1⟩
  simp only [List.mem_cons, List.not_mem_nil, or_false] at hv1
  have X1 := Lib.hid (show Row w1 w.heap.size 25 4 (col 0 0 0 0) from (Row.grown (by (repeat (first | (with_reducible exact (row_col w 25 0 0 0 0)) | (with_reducible refine Row.alloc ?_ _) | (with_reducible refine Row.drew ?_)))) hg1 (by omega)))
  have HG1 := Lib.hid (show w.grownBy w1 (some R) from grown_trans (by (repeat (first | (with_reducible exact (grown_refl _ _)) | (with_reducible refine grown_alloc ?_ _) | (with_reducible refine grown_drew ?_) | (with_reducible refine grown_set ?_ (by simp only []; omega) _)))) hg1)
  have HR1 := Lib.hid hr1
  have hs1 := hg1.size
  (try simp only [World.size_alloc, World.size_setCell, World.size_drew] at hs1)
  clear hr1 hg1
  have HV1 := Lib.hid hv1
  clear hv1
  go_wp2_with fail
  refine (pick_c B R p1 _ _ (by (repeat (first | (with_reducible exact HR1.out) | (with_reducible refine Rd.alloc ?_ _) | (with_reducible refine Rd.drew ?_) | (with_reducible refine Rd.setCell ?_ (by simp only []; omega) (by simp only []; omega) _)))) (by omega) (by omega)).mono ?_
  rintro e w2 ⟨v2, p2, hp2, hq2, ⟨ha2, hb2⟩, rfl, hr2, hg2⟩
  have X2 := Lib.hid (show Row w2 w.heap.size 25 4 (col 0 0 0 0) from (Row.grown (by (repeat (first | (with_reducible exact X1.out) | (with_reducible refine Row.alloc ?_ _) | (with_reducible refine Row.drew ?_)))) hg2 (by omega)))
  have HG2 := Lib.hid (show w.grownBy w2 (some R) from grown_trans (by (repeat (first | (with_reducible exact HG1.out) | (with_reducible refine grown_alloc ?_ _) | (with_reducible refine grown_drew ?_) | (with_reducible refine grown_set ?_ (by simp only []; omega) _)))) hg2)
  have HR2 := Lib.hid hr2
  have hs2 := hg2.size
  (try simp only [World.size_alloc, World.size_setCell, World.size_drew] at hs2)
  clear hr2 hg2
  go_wp2_with fail
  refine (pick_c B R p2 _ _ (by (repeat (first | (with_reducible exact HR2.out) | (with_reducible refine Rd.alloc ?_ _) | (with_reducible refine Rd.drew ?_) | (with_reducible refine Rd.setCell ?_ (by simp only []; omega) (by simp only []; omega) _)))) (by omega) (by omega)).mono ?_
  rintro e w3 ⟨v3, p3, hp3, hq3, ⟨ha3, hb3⟩, rfl, hr3, hg3⟩
  have X3 := Lib.hid (show Row w3 w.heap.size 25 4 (col 0 0 0 0) from (Row.grown (by (repeat (first | (with_reducible exact X2.out) | (with_reducible refine Row.alloc ?_ _) | (with_reducible refine Row.drew ?_)))) hg3 (by omega)))
  have HG3 := Lib.hid (show w.grownBy w3 (some R) from grown_trans (by (repeat (first | (with_reducible exact HG2.out) | (with_reducible refine grown_alloc ?_ _) | (with_reducible refine grown_drew ?_) | (with_reducible refine grown_set ?_ (by simp only []; omega) _)))) hg3)
  have HR3 := Lib.hid hr3
  have hs3 := hg3.size
  (try simp only [World.size_alloc, World.size_setCell, World.size_drew] at hs3)
  clear hr3 hg3
  go_wp2_with fail
  refine (pick_c B R p3 _ _ (by (repeat (first | (with_reducible exact HR3.out) | (with_reducible refine Rd.alloc ?_ _) | (with_reducible refine Rd.drew ?_) | (with_reducible refine Rd.setCell ?_ (by simp only []; omega) (by simp only []; omega) _)))) (by omega) (by omega)).mono ?_
  rintro e w4 ⟨v4, p4, hp4, hq4, ⟨ha4, hb4⟩, rfl, hr4, hg4⟩
  have X4 := Lib.hid (show Row w4 w.heap.size 25 4 (col 0 0 0 0) from (Row.grown (by (repeat (first | (with_reducible exact X3.out) | (with_reducible refine Row.alloc ?_ _) | (with_reducible refine Row.drew ?_)))) hg4 (by omega)))
  have HG4 := Lib.hid (show w.grownBy w4 (some R) from grown_trans (by (repeat (first | (with_reducible exact HG3.out) | (with_reducible refine grown_alloc ?_ _) | (with_reducible refine grown_drew ?_) | (with_reducible refine grown_set ?_ (by simp only []; omega) _)))) hg4)
  have HR4 := Lib.hid hr4
  have hs4 := hg4.size
  (try simp only [World.size_alloc, World.size_setCell, World.size_drew] at hs4)
  clear hr4 hg4
  have x1 : 0 ≤ v1 ∧ v1 ≤ 255 := by have := HV1.out; omega
  go_wp2_with fail
  refine (plain_c v2 v3 v4 v1 _ (by omega) (by omega) (by omega) (by omega) (by omega) (by omega) (by omega) (by omega)).mono ?_
  rintro e w5 ⟨rfl, hb5⟩
  have HB5 := Lib.hid hb5
  have X5 := Lib.hid (Row.below X4.out hb5 X4.out.lt)
  have HR5 := Lib.hid (HR4.out.below hb5)
  have HG5 := Lib.hid (grown_then_below HG4.out hb5)
  have hs5 := hb5.size
  clear hb5
  obtain ⟨⟨cX5_0, cX5_1, cX5_2, cX5_3⟩, fX5_0, fX5_1, fX5_2, fX5_3⟩ := col_cells X5.out
  go_wp2
  refine bodyPost_ret (by simp [results, Try.results45, go_sem, *]; try rfl) rfl ?_
  obtain ⟨m1, m2⟩ := prod_bd (x := v2) (p := v1) (by omega) (by omega) x1.1 (by omega)
  obtain ⟨m3, m4⟩ := prod_bd (x := v3) (p := v1) (by omega) (by omega) x1.1 (by omega)
  obtain ⟨m5, m6⟩ := prod_bd (x := v4) (p := v1) (by omega) (by omega) x1.1 (by omega)
  have y1 := rnd_bd (p := v2 * v1) (q := 255) (M := 255) (by omega) m1 (by omega)
  have y2 := rnd_bd (p := v3 * v1) (q := 255) (M := 255) (by omega) m3 (by omega)
  have y3 := rnd_bd (p := v4 * v1) (q := 255) (M := 255) (by omega) m5 (by omega)
  exact ⟨_, _, _, _, p4, by omega, by omega, by unfold ColBd; omega, rfl, (by (repeat (first | (with_reducible exact HR5.out) | (with_reducible refine Rd.alloc ?_ _) | (with_reducible refine Rd.drew ?_) | (with_reducible refine Rd.setCell ?_ (by simp only []; omega) (by simp only []; omega) _)))), (by (repeat (first | (with_reducible exact HG5.out) | (with_reducible refine grown_alloc ?_ _) | (with_reducible refine grown_drew ?_) | (with_reducible refine grown_set ?_ (by simp only []; omega) _))))⟩
set_option maxHeartbeats 1000000 in
theorem anyColor_c (B R p : Nat) (w : World) (h : Rd B R p w) (hp : p ≤ 980000) :
    Calls Try.prog 39 #[.pointer (some ⟨R, 0, none⟩)] w (DrawnC B R p 6 2000 w) := by
  have HR := Lib.hid h
  have hRl := h.lt
  have hBR := h.ge
  clear h
  go_enter Try.func39, Try.ntmps39
  go_wp2_with fail
  refine (randomColor_c B R p _ (by (repeat (first | (with_reducible exact HR.out) | (with_reducible refine Rd.alloc ?_ _) | (with_reducible refine Rd.drew ?_) | (with_reducible refine Rd.setCell ?_ (by simp only []; omega) (by simp only []; omega) _)))) (by omega)).mono ?_
  rintro e w1 ⟨r1, g1, b1, a1, p1, hp1, hq1, hQ1, rfl, hr1, hg1⟩
  unfold ColBd at hQ1
  have X1 := Lib.hid (show Row w1 w.heap.size 25 4 (col 0 0 0 0) from (Row.grown (by (repeat (first | (with_reducible exact (row_col w 25 0 0 0 0)) | (with_reducible refine Row.alloc ?_ _) | (with_reducible refine Row.drew ?_)))) hg1 (by omega)))
  have HG1 := Lib.hid (show w.grownBy w1 (some R) from grown_trans (by (repeat (first | (with_reducible exact (grown_refl _ _)) | (with_reducible refine grown_alloc ?_ _) | (with_reducible refine grown_drew ?_) | (with_reducible refine grown_set ?_ (by simp only []; omega) _)))) hg1)
  have HR1 := Lib.hid hr1
  have hs1 := hg1.size
  (try simp only [World.size_alloc, World.size_setCell, World.size_drew] at hs1)
  clear hr1 hg1
  go_wp2_with fail
  refine (pick_c B R p1 _ _ (by (repeat (first | (with_reducible exact HR1.out) | (with_reducible refine Rd.alloc ?_ _) | (with_reducible refine Rd.drew ?_) | (with_reducible refine Rd.setCell ?_ (by simp only []; omega) (by simp only []; omega) _)))) (by omega) (by omega)).mono ?_
  rintro e w2 ⟨v2, p2, hp2, hq2, ⟨ha2, hb2⟩, rfl, hr2, hg2⟩
  have X2 := Lib.hid (show Row w2 w.heap.size 25 4 (col 0 0 0 0) from (Row.grown (by (repeat (first | (with_reducible exact X1.out) | (with_reducible refine Row.alloc ?_ _) | (with_reducible refine Row.drew ?_)))) hg2 (by omega)))
  have C2 := Lib.hid (show Row w2 w1.heap.size 25 4 (col r1 g1 b1 a1) from (Row.grown (by (repeat (first | (with_reducible exact (row_col w1 25 r1 g1 b1 a1)) | (with_reducible refine Row.alloc ?_ _) | (with_reducible refine Row.drew ?_)))) hg2 (by omega)))
  have HG2 := Lib.hid (show w.grownBy w2 (some R) from grown_trans (by (repeat (first | (with_reducible exact HG1.out) | (with_reducible refine grown_alloc ?_ _) | (with_reducible refine grown_drew ?_) | (with_reducible refine grown_set ?_ (by simp only []; omega) _)))) hg2)
  have HR2 := Lib.hid hr2
  have hs2 := hg2.size
  (try simp only [World.size_alloc, World.size_setCell, World.size_drew] at hs2)
  clear hr2 hg2
  by_cases e0 : v2 = 0
  · subst e0
    obtain ⟨⟨cX2_0, cX2_1, cX2_2, cX2_3⟩, fX2_0, fX2_1, fX2_2, fX2_3⟩ := col_cells X2.out
    obtain ⟨⟨cC2_0, cC2_1, cC2_2, cC2_3⟩, fC2_0, fC2_1, fC2_2, fC2_3⟩ := col_cells C2.out
    go_wp2
    refine bodyPost_ret (by simp [results, Try.results39, go_sem, *]; try rfl) rfl ?_
    exact ⟨_, _, _, _, p2, by omega, by omega, by unfold ColBd; omega, rfl, (by (repeat (first | (with_reducible exact HR2.out) | (with_reducible refine Rd.alloc ?_ _) | (with_reducible refine Rd.drew ?_) | (with_reducible refine Rd.setCell ?_ (by simp only []; omega) (by simp only []; omega) _)))), (by (repeat (first | (with_reducible exact HG2.out) | (with_reducible refine grown_alloc ?_ _) | (with_reducible refine grown_drew ?_) | (with_reducible refine grown_set ?_ (by simp only []; omega) _))))⟩
  by_cases e1 : v2 = 1
  · subst e1
    go_wp2_with fail
    refine (one_c B R p2 [-1, 256] _ _ _ _ (by (repeat (first | (with_reducible exact HR2.out) | (with_reducible refine Rd.alloc ?_ _) | (with_reducible refine Rd.drew ?_) | (with_reducible refine Rd.setCell ?_ (by simp only []; omega) (by simp only []; omega) _)))) (by omega) (Ints.lit _ _ _ _ _ (by go_size) rfl) (by omega) rfl (by simp) (by simp)).mono ?_
    rintro e w3 ⟨v3, p3, hp3, hq3, hv3, rfl, hr3, hg3⟩
    simp only [List.mem_cons, List.not_mem_nil, or_false] at hv3
    have X3 := Lib.hid (show Row w3 w.heap.size 25 4 (col 0 0 0 0) from (Row.grown (by (repeat (first | (with_reducible exact X2.out) | (with_reducible refine Row.alloc ?_ _) | (with_reducible refine Row.drew ?_)))) hg3 (by omega)))
    have C3 := Lib.hid (show Row w3 w1.heap.size 25 4 (col r1 g1 b1 a1) from (Row.grown (by (repeat (first | (with_reducible exact C2.out) | (with_reducible refine Row.alloc ?_ _) | (with_reducible refine Row.drew ?_)))) hg3 (by omega)))
    have HG3 := Lib.hid (show w.grownBy w3 (some R) from grown_trans (by (repeat (first | (with_reducible exact HG2.out) | (with_reducible refine grown_alloc ?_ _) | (with_reducible refine grown_drew ?_) | (with_reducible refine grown_set ?_ (by simp only []; omega) _)))) hg3)
    have HR3 := Lib.hid hr3
    have hs3 := hg3.size
    (try simp only [World.size_alloc, World.size_setCell, World.size_drew] at hs3)
    clear hr3 hg3
    have HV3 := Lib.hid hv3
    clear hv3
    have hv3 := HV3.out
    obtain ⟨⟨cX3_0, cX3_1, cX3_2, cX3_3⟩, fX3_0, fX3_1, fX3_2, fX3_3⟩ := col_cells X3.out
    obtain ⟨⟨cC3_0, cC3_1, cC3_2, cC3_3⟩, fC3_0, fC3_1, fC3_2, fC3_3⟩ := col_cells C3.out
    have HV3x := Lib.hid hv3
    clear hv3
    go_wp2
    refine bodyPost_ret (by simp [results, Try.results39, go_sem, *]; try rfl) rfl ?_
    have := HV3x.out
    exact ⟨_, _, _, _, p3, by omega, by omega, by unfold ColBd; omega, rfl, (by (repeat (first | (with_reducible exact HR3.out) | (with_reducible refine Rd.alloc ?_ _) | (with_reducible refine Rd.drew ?_) | (with_reducible refine Rd.setCell ?_ (by simp only []; omega) (by simp only []; omega) _)))), (by (repeat (first | (with_reducible exact HG3.out) | (with_reducible refine grown_alloc ?_ _) | (with_reducible refine grown_drew ?_) | (with_reducible refine grown_set ?_ (by simp only []; omega) _))))⟩
  by_cases e2 : v2 = 2
  · subst e2
    obtain ⟨⟨cX2_0, cX2_1, cX2_2, cX2_3⟩, fX2_0, fX2_1, fX2_2, fX2_3⟩ := col_cells X2.out
    obtain ⟨⟨cC2_0, cC2_1, cC2_2, cC2_3⟩, fC2_0, fC2_1, fC2_2, fC2_3⟩ := col_cells C2.out
    go_wp2
    refine bodyPost_ret (by simp [results, Try.results39, go_sem, *]; try rfl) rfl ?_
    exact ⟨_, _, _, _, p2, by omega, by omega, by unfold ColBd; omega, rfl, (by (repeat (first | (with_reducible exact HR2.out) | (with_reducible refine Rd.alloc ?_ _) | (with_reducible refine Rd.drew ?_) | (with_reducible refine Rd.setCell ?_ (by simp only []; omega) (by simp only []; omega) _)))), (by (repeat (first | (with_reducible exact HG2.out) | (with_reducible refine grown_alloc ?_ _) | (with_reducible refine grown_drew ?_) | (with_reducible refine grown_set ?_ (by simp only []; omega) _))))⟩
  obtain ⟨⟨cX2_0, cX2_1, cX2_2, cX2_3⟩, fX2_0, fX2_1, fX2_2, fX2_3⟩ := col_cells X2.out
  obtain ⟨⟨cC2_0, cC2_1, cC2_2, cC2_3⟩, fC2_0, fC2_1, fC2_2, fC2_3⟩ := col_cells C2.out
  go_wp2
  refine bodyPost_ret (by simp [results, Try.results39, go_sem, *]; try rfl) rfl ?_
  exact ⟨_, _, _, _, p2, by omega, by omega, by unfold ColBd; omega, rfl, (by (repeat (first | (with_reducible exact HR2.out) | (with_reducible refine Rd.alloc ?_ _) | (with_reducible refine Rd.drew ?_) | (with_reducible refine Rd.setCell ?_ (by simp only []; omega) (by simp only []; omega) _)))), (by (repeat (first | (with_reducible exact HG2.out) | (with_reducible refine grown_alloc ?_ _) | (with_reducible refine grown_drew ?_) | (with_reducible refine grown_set ?_ (by simp only []; omega) _))))⟩
end Go.Proofs.Ytmdkfeojkjlpeaa
