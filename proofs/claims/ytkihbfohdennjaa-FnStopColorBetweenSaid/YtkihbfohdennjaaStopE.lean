/-
  What the generators of stops yield: any stops.
-/
import Derived.Test.YtkihbfohdennjaaStopD
namespace Go.Proofs.Ytkihbfohdennjaa
open Go.RowKit
set_option linter.unusedSimpArgs false
set_option linter.unusedVariables false

def newCol (zs : List Int) (r g b a : Int) : List Int := (List.range zs.length).map fun j => if j = 4 then a else if j = 3 then b else if j = 2 then g else if j = 1 then r else nth zs j
theorem newCol_length (zs : List Int) (r g b a : Int) : (newCol zs r g b a).length = zs.length := by simp [newCol]
theorem nth_newCol {zs : List Int} {r g b a : Int} {i : Nat} (h : i < zs.length) : nth (newCol zs r g b a) i = if i = 4 then a else if i = 3 then b else if i = 2 then g else if i = 1 then r else nth zs i := by
  rw [nth_getElem (by rw [newCol_length]; exact h)]; simp [newCol]
set_option maxHeartbeats 4000000 in
theorem anyStops_c (B R p : Nat) (w : World) (h : Rd B R p w) (hp : p ≤ 800000) :
    Calls Try.prog 26 #[.pointer (some ⟨R, 0, none⟩)] w (DrawnS B R p 200 w) := by
  have HR := Lib.hid h
  have hRl := h.lt
  have hBR := h.ge
  clear h
  obtain ⟨i0, hi, hz0, hz1, hz2⟩ := info_parts stop_info
  go_enter Try.func26, Try.ntmps26
  go_wp2_with fail
  refine (randomStops_c B R p _ HR.out (by omega)).mono ?_
  rintro e w1 ⟨v, zs, n, p1, hp1, hq1, hn1, hn4, rfl, ho1, hr1, hg1⟩
  obtain ⟨g, cap, rfl, hc1, hc2, hg, hzl, hrow⟩ := ho1.form
  have HO1 := Lib.hid ho1
  have HR1 := Lib.hid hr1
  have HG1 := Lib.hid hg1
  have hs1 := hg1.size
  unfold maxLen at hc2
  clear ho1 hr1 hg1 hrow
  go_wp2_with fail
  refine (pick_c B R p1 _ _ HR1.out (by omega) (by omega)).mono ?_
  rintro e w2 ⟨v2, p2, hp2, hq2, ⟨ha2, hb2⟩, rfl, hr2, hg2⟩
  have HO2 := Lib.hid (HO1.out.grown hg2 hRl)
  have HR2 := Lib.hid hr2
  have HG2 := Lib.hid (show w.grownBy w2 (some R) from grown_trans HG1.out hg2)
  have hs2 := hg2.size
  clear hr2 hg2
  by_cases c0 : v2 = 0
  · subst c0
    go_wp2_with fail
    refine (one_c B R p2 [0, 256, 257] _ _ _ _ (HR2.out.alloc _) (by omega) (Ints.lit _ _ _ _ _ (by go_size) rfl) (by omega) rfl (by simp) (by simp)).mono ?_
    rintro e w3 ⟨v3, p3, hp3, hq3, hv3, rfl, hr3, hg3⟩
    have HO3 := Lib.hid ((HO2.out.alloc _).grown hg3 hRl)
    have HG3 := Lib.hid (show w.grownBy w3 (some R) from grown_trans (grown_alloc HG2.out _) hg3)
    have HR3 := Lib.hid hr3
    have hs3 := hg3.size
    (try simp only [World.size_alloc] at hs3)
    clear hr3 hg3 hv3
    go_wp2_with fail
    refine (randomColor_c B R p3 _ HR3.out (by omega)).mono ?_
    rintro e w4 ⟨r, gg, bl, al, p4, hp4, hq4, hcb, rfl, hr4, hg4⟩
    have HO4 := Lib.hid (HO3.out.grown hg4 hRl)
    have HG4 := Lib.hid (show w.grownBy w4 (some R) from grown_trans HG3.out hg4)
    have HR4 := Lib.hid hr4
    have hs4 := hg4.size
    clear hr4 hg4 hcb
    go_wp2_with (first | (at_builtin; refine wpList_append_own _ rfl _ _ 25 rfl w.heap.size 40 i0 (.agg #[.int .i64 0, .int .i64 0, .int .i64 0, .int .i64 0, .int .i64 0]) 5 40 Try.underlying25 hi hz0 hz1 hz2 rfl (by decide) _ _ _ rfl (HO4.out.alloc _).1 ⟨w4.heap.size, 0, none⟩ 1 1 [.int .i64 v3, .int .i64 r, .int .i64 gg, .int .i64 bl, .int .i64 al] rfl rfl (cell_five_new _ _ _ _ _ _ _) (by simp [Value.oneCell']) (by unfold maxLen; omega) (by omega) (by simp; omega) ?_; intro v' w9 hown' hgrow hnil; have HO9 := Lib.hid hown'; have HG9 := Lib.hid hgrow; have HN9 := Lib.hid hnil; clear hown' hgrow hnil))
    have HR9 := Lib.hid ((HR4.out.alloc _).own HG9.out (fun k hk => by have := (HO4.out.1.lt k hk).1; omega) hBR)
    have HGG := Lib.hid (grown_own (grown_alloc HG4.out _) HG9.out (fun k hk => (HO4.out.1.lt k hk).1))
    have hoo := OwnP.snoc (v := .slice (some ⟨g, 0, none⟩) n cap) (by simp) HO9.out HN9.out
    obtain ⟨g5, cap5, rfl, k1, k2, k3, k4, k5⟩ := hoo.form
    have HK := Lib.hid k5
    clear HO9 HG9 HN9 k5 hoo
    go_ret
    exact ⟨_, _, cap5, n + 1, p4, by omega, by omega, by omega, k4, k1, k2, rfl, row_ints HK.out k3, HR9.out, HGG.out⟩
  by_cases c1 : v2 = 1
  · subst c1
    go_wp2_with fail
    refine (anyColor_c B R p2 _ HR2.out (by omega)).mono ?_
    rintro e w3 ⟨r, gg, bl, al, p3, hp3, hq3, hcb, rfl, hr3, hg3⟩
    have ho3 := HO2.out.grown hg3 hRl
    obtain ⟨g', cap', e1, k1, k2, k3, k4, k5⟩ := ho3.form
    simp only [Value.slice.injEq, Option.some.injEq, Addr.mk.injEq, and_true, true_and] at e1
    obtain ⟨rfl, rfl⟩ := e1
    have d1 := k5.cell (i := 1) (by omega)
    have d2 := k5.cell (i := 2) (by omega)
    have d3 := k5.cell (i := 3) (by omega)
    have d4 := k5.cell (i := 4) (by omega)
    have f1 := k5.free 1
    have f2 := k5.free 2
    have f3 := k5.free 3
    have f4 := k5.free 4
    have HK := Lib.hid k5
    have HG3 := Lib.hid (show w.grownBy w3 (some R) from grown_trans HG2.out hg3)
    have HR3 := Lib.hid hr3
    have hs3 := hg3.size
    have hn0 : (0 : Int) < (n : Int) := by omega
    clear hr3 hg3 hcb ho3 k5
    go_wp2
    go_ret
    refine ⟨newCol zs r gg bl al, _, _, n, p3, by omega, by omega, by omega, by rw [newCol_length]; exact hzl, hc1, by unfold maxLen; omega, rfl, row_ints (t := 40) ?_ hg, (((HR3.out.setCell (by simp only []; omega) (by simp only []; omega) _).setCell (by simp only []; omega) (by simp only []; omega) _).setCell (by simp only []; omega) (by simp only []; omega) _).setCell (by simp only []; omega) (by simp only []; omega) _, grown_set (grown_set (grown_set (grown_set HG3.out hg _) hg _) hg _) hg _⟩
    rw [newCol_length]
    refine ((((HK.out.set (i := 1) (by omega) _).set (i := 2) (by omega) _).set (i := 3) (by omega) _).set (i := 4) (by omega) _).congr fun j hj => ?_
    rw [nth_newCol hj]
    by_cases j4 : j = 4
    · simp [j4]
    by_cases j3 : j = 3
    · simp [j3]
    by_cases j2 : j = 2
    · simp [j2]
    by_cases j1 : j = 1
    · simp [j1]
    · simp [j1, j2, j3, j4]
  by_cases c2 : v2 = 2
  · subst c2
    go_wp2
    go_ret
    exact ⟨[], _, 0, 0, p2, by omega, by omega, by omega, rfl, Nat.le_refl _, by unfold maxLen; omega, rfl, (fun hn => absurd hn (by simp)), HR2.out.alloc _, grown_alloc HG2.out _⟩
  · have x0 : (v2 == 0) = false := by rw [beq_eq_false_iff_ne]; exact c0
    have x1 : (v2 == 1) = false := by rw [beq_eq_false_iff_ne]; exact c1
    have x2 : (v2 == 2) = false := by rw [beq_eq_false_iff_ne]; exact c2
    obtain ⟨g', cap', e1, k1, k2, k3, k4, k5⟩ := HO2.out.form
    simp only [Value.slice.injEq, Option.some.injEq, Addr.mk.injEq, and_true, true_and] at e1
    obtain ⟨rfl, rfl⟩ := e1
    have HK := Lib.hid k5
    clear k5
    go_wp2
    go_ret
    exact ⟨zs, _, _, n, p2, by omega, by omega, by omega, hzl, hc1, by unfold maxLen; omega, rfl, row_ints HK.out hg, HR2.out, HG2.out⟩
def GotS (w : World) (e : Ending) (w' : World) : Prop := ∃ (zs : List Int) (A : Option Addr) (cap n : Nat), n ≤ 5 ∧ zs.length = 5 * n ∧ n ≤ cap ∧ cap ≤ maxLen ∧ e = .returned (.slice A n cap) ∧ Ints w' A zs ∧ Below w.heap.size w w'
def GotSI (w : World) (e : Ending) (w' : World) : Prop := ∃ (zs : List Int) (A : Option Addr) (cap n : Nat) (t : Int), n ≤ 5 ∧ zs.length = 5 * n ∧ n ≤ cap ∧ cap ≤ maxLen ∧ -1000 ≤ t ∧ t ≤ 1000 ∧ e = .returned (.tuple #[.slice A n cap, .int .i64 t]) ∧ Ints w' A zs ∧ Below w.heap.size w w'
theorem DrawValidStops_c (A : Option Addr) (n cap : Nat) (w : World) (h : Code w.heap.size w A n cap) :
    Calls Try.prog 17 #[.slice A n cap] w (GotS w) := by
  have HC := Lib.hid h
  clear h
  go_enter Try.func17, Try.ntmps17
  go_wp2_with fail
  refine (newReader_c w.heap.size _ _ _ _ HC.out (Nat.le_refl _)).mono ?_
  rintro e w0 ⟨rfl, hr, hb, hz⟩
  have HR0 := Lib.hid hr
  have HB0 := Lib.hid hb
  have hs0 : w.heap.size < w0.heap.size := by omega
  clear hr hb hz
  go_wp2_with fail
  refine (anyStops_c w.heap.size w.heap.size 0 _ HR0.out (by omega)).mono ?_
  rintro e w1 ⟨zs, A1, cap1, n1, p1, hp1, hq1, hn1, hl1, hc1, hc2, rfl, hi1, hr1, hg1⟩
  have HI1 := Lib.hid hi1
  have HB1 := Lib.hid (below_grown HB0.out hg1 (by omega) (Nat.le_refl _))
  clear hi1 hr1 hg1
  go_wp2
  go_ret
  exact ⟨zs, A1, cap1, n1, hn1, hl1, hc1, hc2, rfl, HI1.out.ints, HB1.out⟩
theorem DrawStopColor_c (A : Option Addr) (n cap : Nat) (w : World) (h : Code w.heap.size w A n cap) :
    Calls Try.prog 18 #[.slice A n cap] w (GotSI w) := by
  have HC := Lib.hid h
  clear h
  go_enter Try.func18, Try.ntmps18
  go_wp2_with fail
  refine (newReader_c w.heap.size _ _ _ _ HC.out (Nat.le_refl _)).mono ?_
  rintro e w0 ⟨rfl, hr, hb, hz⟩
  have HR0 := Lib.hid hr
  have HB0 := Lib.hid hb
  have hs0 : w.heap.size < w0.heap.size := by omega
  clear hr hb hz
  go_wp2_with fail
  refine (anyStops_c w.heap.size w.heap.size 0 _ HR0.out (by omega)).mono ?_
  rintro e w1 ⟨zs, A1, cap1, n1, p1, hp1, hq1, hn1, hl1, hc1, hc2, rfl, hi1, hr1, hg1⟩
  have HI1 := Lib.hid hi1
  have HR1 := Lib.hid hr1
  have HB1 := Lib.hid (below_grown HB0.out hg1 (by omega) (Nat.le_refl _))
  have hs1 := hg1.size
  clear hi1 hr1 hg1
  go_wp2_with fail
  refine (pick_c w.heap.size w.heap.size p1 _ _ HR1.out (by omega) (by omega)).mono ?_
  rintro e w2 ⟨v2, p2, hp2, hq2, ⟨ha2, hb2⟩, rfl, hr2, hg2⟩
  have HI2 := Lib.hid (HI1.out.grown hg2 (by omega))
  have HR2 := Lib.hid hr2
  have HB2 := Lib.hid (below_grown HB1.out hg2 (by omega) (Nat.le_refl _))
  have hs2 := hg2.size
  clear hr2 hg2
  go_wp2_with fail
  refine (one_c w.heap.size w.heap.size p2 [0, 256, 100, 50, -5, 300, v2] _ _ _ _ (HR2.out.alloc _) (by omega) (Ints.lit _ _ _ _ _ (by go_size) rfl) (by omega) rfl (by simp) (by simp)).mono ?_
  rintro e w3 ⟨v3, p3, hp3, hq3, hv3, rfl, hr3, hg3⟩
  simp only [List.mem_cons, List.not_mem_nil, or_false] at hv3
  have HI3 := Lib.hid ((HI2.out.alloc _).grown hg3 (by omega))
  have HB3 := Lib.hid (below_grown (HB2.out.alloc (by omega) _) hg3 (by simp only [World.size_alloc]; omega) (Nat.le_refl _))
  have hx : -1000 ≤ v3 ∧ v3 ≤ 1000 := by omega
  clear hr3 hg3 hv3
  go_wp2
  go_ret2
  exact ⟨zs, A1, cap1, n1, v3, hn1, hl1, hc1, hc2, hx.1, hx.2, rfl, HI3.out.ints, HB3.out⟩
end Go.Proofs.Ytkihbfohdennjaa
