/-
  What the generators of plain numbers yield: numbers within bounds; nothing that was there is touched.
-/
import Derived.Test.YtkcmjpbnjdedlaaReader
namespace Go.Proofs.Ytkcmjpbnjdedlaa
open Go.RowKit
set_option linter.unusedSimpArgs false
set_option linter.unusedVariables false

/-- What a generator leaves: numbers, of which Q holds; nothing that was there has turned. -/
def Got1 (w : World) (Q : Int → Prop) (e : Ending) (w' : World) : Prop := ∃ v : Int, Q v ∧ e = .returned (.int .i64 v) ∧ Below w.heap.size w w'
def Got2 (w : World) (Q : Int → Int → Prop) (e : Ending) (w' : World) : Prop := ∃ u v : Int, Q u v ∧ e = .returned (.tuple #[.int .i64 u, .int .i64 v]) ∧ Below w.heap.size w w'
def Got4 (w : World) (Q : Int → Int → Int → Int → Prop) (e : Ending) (w' : World) : Prop := ∃ a b c d : Int, Q a b c d ∧ e = .returned (.tuple #[.int .i64 a, .int .i64 b, .int .i64 c, .int .i64 d]) ∧ Below w.heap.size w w'
theorem results_tmp4 {fn : Func} {t u v x : Tmp} (h : fn.results = #[.tmp t, .tmp u, .tmp v, .tmp x]) (tmps : Array Value) (P : Program) (w : World) :
    (results fn tmps).run P w = .ok (.tuple #[tmps.getD t undef, tmps.getD u undef, tmps.getD v undef, tmps.getD x undef]) w := by simp [results, h]
theorem anyUnit_c (B R p : Nat) (w : World) (h : Rd B R p w) (hp : p ≤ 990000) :
    Calls Try.prog 51 #[.pointer (some ⟨R, 0, none⟩)] w (Drawn B R p 2 w fun v => -2000000 ≤ v ∧ v ≤ 2000000) := by
  have HR := Lib.hid h
  have hRl := h.lt
  clear h
  go_enter Try.func51, Try.ntmps51
  go_wp2_with fail
  refine (pick_c B R p _ _ HR.out (by omega) (by omega)).mono ?_
  rintro e w1 ⟨v1, p1, hp1, hq1, ⟨ha1, hb1⟩, rfl, hr1, hg1⟩
  have HG1 := Lib.hid (grown_trans (grown_refl _ _) hg1)
  have HR1 := Lib.hid hr1
  have hs1 := hg1.size
  try simp only [World.size_alloc] at hs1
  clear hr1 hg1
  go_wp2_with fail
  refine (one_c B R p1 [0, 8, 7, -8, -1, 16, 100, 1000, -1000, 1001, -1001, v1 - 125] _ _ _ _ (HR1.out.alloc _) (by omega) (Ints.lit _ _ _ _ _ rfl rfl) (by omega) rfl (by simp) (by simp)).mono ?_
  rintro e w2 ⟨v2, p2, hp2, hq2, hv2, rfl, hr2, hg2⟩
  simp only [List.mem_cons, List.not_mem_nil, or_false] at hv2
  have HG2 := Lib.hid (grown_trans (grown_alloc HG1.out _) hg2)
  have HR2 := Lib.hid hr2
  have hs2 := hg2.size
  try simp only [World.size_alloc] at hs2
  clear hr2 hg2
  have HV2 := Lib.hid hv2
  clear hv2
  go_wp2
  go_ret
  exact ⟨v2, p2, by omega, by omega, by have := HV2.out; omega, rfl, HR2.out, HG2.out⟩
theorem anySide_c (B R p : Nat) (w : World) (h : Rd B R p w) (hp : p ≤ 990000) :
    Calls Try.prog 56 #[.pointer (some ⟨R, 0, none⟩)] w (Drawn B R p 1 w fun v => -2000000 ≤ v ∧ v ≤ 2000000) := by
  have HR := Lib.hid h
  have hRl := h.lt
  clear h
  go_enter Try.func56, Try.ntmps56
  go_wp2_with fail
  refine (one_c B R p [4, 5, 8, 3, 12, 1, 9, 0, 13] _ _ _ _ (HR.out.alloc _) (by omega) (Ints.lit _ _ _ _ _ rfl rfl) (by omega) rfl (by simp) (by simp)).mono ?_
  rintro e w1 ⟨v1, p1, hp1, hq1, hv1, rfl, hr1, hg1⟩
  simp only [List.mem_cons, List.not_mem_nil, or_false] at hv1
  have HG1 := Lib.hid (grown_trans (grown_alloc (grown_refl _ _) _) hg1)
  have HR1 := Lib.hid hr1
  have hs1 := hg1.size
  try simp only [World.size_alloc] at hs1
  clear hr1 hg1
  have HV1 := Lib.hid hv1
  clear hv1
  go_wp2
  go_ret
  exact ⟨v1, p1, by omega, by omega, by have := HV1.out; omega, rfl, HR1.out, HG1.out⟩
theorem anyByte_c (B R p : Nat) (w : World) (h : Rd B R p w) (hp : p ≤ 990000) :
    Calls Try.prog 63 #[.pointer (some ⟨R, 0, none⟩)] w (Drawn B R p 3 w fun v => -2000000 ≤ v ∧ v ≤ 2000000) := by
  have HR := Lib.hid h
  have hRl := h.lt
  clear h
  go_enter Try.func63, Try.ntmps63
  go_wp2_with fail
  refine (pick_c B R p _ _ HR.out (by omega) (by omega)).mono ?_
  rintro e w1 ⟨v1, p1, hp1, hq1, ⟨ha1, hb1⟩, rfl, hr1, hg1⟩
  have HG1 := Lib.hid (grown_trans (grown_refl _ _) hg1)
  have HR1 := Lib.hid hr1
  have hs1 := hg1.size
  try simp only [World.size_alloc] at hs1
  clear hr1 hg1
  go_wp2_with fail
  refine (pick_c B R p1 _ _ HR1.out (by omega) (by omega)).mono ?_
  rintro e w2 ⟨v2, p2, hp2, hq2, ⟨ha2, hb2⟩, rfl, hr2, hg2⟩
  have HG2 := Lib.hid (grown_trans HG1.out hg2)
  have HR2 := Lib.hid hr2
  have hs2 := hg2.size
  try simp only [World.size_alloc] at hs2
  clear hr2 hg2
  go_wp2_with fail
  refine (one_c B R p2 [0, 255, 128, 1, 254, 100, 256, -1, v1, v2] _ _ _ _ (HR2.out.alloc _) (by omega) (Ints.lit _ _ _ _ _ rfl rfl) (by omega) rfl (by simp) (by simp)).mono ?_
  rintro e w3 ⟨v3, p3, hp3, hq3, hv3, rfl, hr3, hg3⟩
  simp only [List.mem_cons, List.not_mem_nil, or_false] at hv3
  have HG3 := Lib.hid (grown_trans (grown_alloc HG2.out _) hg3)
  have HR3 := Lib.hid hr3
  have hs3 := hg3.size
  try simp only [World.size_alloc] at hs3
  clear hr3 hg3
  have HV3 := Lib.hid hv3
  clear hv3
  go_wp2
  go_ret
  exact ⟨v3, p3, by omega, by omega, by have := HV3.out; omega, rfl, HR3.out, HG3.out⟩
theorem DrawFloorUnit_c (A : Option Addr) (n cap : Nat) (w : World) (h : Code w.heap.size w A n cap) :
    Calls Try.prog 21 #[.slice A n cap] w (Got1 w fun v => -2000000 ≤ v ∧ v ≤ 2000000) := by
  have HC := Lib.hid h
  clear h
  go_enter Try.func21, Try.ntmps21
  go_wp2_with fail
  refine (newReader_c w.heap.size _ _ _ _ HC.out (Nat.le_refl _)).mono ?_
  rintro e wr ⟨rfl, hr, hb, hz⟩
  have HR := Lib.hid hr
  have HB := Lib.hid hb
  have hRl : w.heap.size < wr.heap.size := by omega
  clear hr hb hz
  go_wp2_with fail
  refine (anyUnit_c w.heap.size w.heap.size 0 _ HR.out (by omega)).mono ?_
  rintro e w1 ⟨v1, p1, hp1, hq1, ⟨ha1, hb1⟩, rfl, hr1, hg1⟩
  have HB1 := Lib.hid (below_grown HB.out hg1 (by first | omega | (simp; omega)) (Nat.le_refl _))
  have HR1 := Lib.hid hr1
  have hs1 := hg1.size
  try simp only [World.size_alloc] at hs1
  clear hr1 hg1
  go_wp2
  go_ret
  exact ⟨_, ⟨ha1, hb1⟩, rfl, HB1.out⟩
theorem DrawRoundUnit_c (A : Option Addr) (n cap : Nat) (w : World) (h : Code w.heap.size w A n cap) :
    Calls Try.prog 33 #[.slice A n cap] w (Got1 w fun v => -2000000 ≤ v ∧ v ≤ 2000000) := by
  have HC := Lib.hid h
  clear h
  go_enter Try.func33, Try.ntmps33
  go_wp2_with fail
  refine (newReader_c w.heap.size _ _ _ _ HC.out (Nat.le_refl _)).mono ?_
  rintro e wr ⟨rfl, hr, hb, hz⟩
  have HR := Lib.hid hr
  have HB := Lib.hid hb
  have hRl : w.heap.size < wr.heap.size := by omega
  clear hr hb hz
  go_wp2_with fail
  refine (anyUnit_c w.heap.size w.heap.size 0 _ HR.out (by omega)).mono ?_
  rintro e w1 ⟨v1, p1, hp1, hq1, ⟨ha1, hb1⟩, rfl, hr1, hg1⟩
  have HB1 := Lib.hid (below_grown HB.out hg1 (by first | omega | (simp; omega)) (Nat.le_refl _))
  have HR1 := Lib.hid hr1
  have hs1 := hg1.size
  try simp only [World.size_alloc] at hs1
  clear hr1 hg1
  go_wp2
  go_ret
  exact ⟨_, ⟨ha1, hb1⟩, rfl, HB1.out⟩
theorem DrawRootOf_c (A : Option Addr) (n cap : Nat) (w : World) (h : Code w.heap.size w A n cap) :
    Calls Try.prog 18 #[.slice A n cap] w (Got1 w fun v => -2000000 ≤ v ∧ v ≤ 2000000) := by
  have HC := Lib.hid h
  clear h
  go_enter Try.func18, Try.ntmps18
  go_wp2_with fail
  refine (newReader_c w.heap.size _ _ _ _ HC.out (Nat.le_refl _)).mono ?_
  rintro e wr ⟨rfl, hr, hb, hz⟩
  have HR := Lib.hid hr
  have HB := Lib.hid hb
  have hRl : w.heap.size < wr.heap.size := by omega
  clear hr hb hz
  go_wp2_with fail
  refine (pick_c w.heap.size w.heap.size 0 _ _ HR.out (by omega) (by omega)).mono ?_
  rintro e w1 ⟨v1, p1, hp1, hq1, ⟨ha1, hb1⟩, rfl, hr1, hg1⟩
  have HB1 := Lib.hid (below_grown HB.out hg1 (by first | omega | (simp; omega)) (Nat.le_refl _))
  have HR1 := Lib.hid hr1
  have hs1 := hg1.size
  try simp only [World.size_alloc] at hs1
  clear hr1 hg1
  go_wp2_with fail
  refine (one_c w.heap.size w.heap.size p1 [0, 1, 2, 3, 4, 15, 16, 17, 99, 1000000, 1000001, -1, v1 * 33] _ _ _ _ (HR1.out.alloc _) (by omega) (Ints.lit _ _ _ _ _ rfl rfl) (by omega) rfl (by simp) (by simp)).mono ?_
  rintro e w2 ⟨v2, p2, hp2, hq2, hv2, rfl, hr2, hg2⟩
  simp only [List.mem_cons, List.not_mem_nil, or_false] at hv2
  have HB2 := Lib.hid (below_grown (HB1.out.alloc (by omega) _) hg2 (by first | omega | (simp; omega)) (Nat.le_refl _))
  have HR2 := Lib.hid hr2
  have hs2 := hg2.size
  try simp only [World.size_alloc] at hs2
  clear hr2 hg2
  have HV2 := Lib.hid hv2
  clear hv2
  go_wp2
  go_ret
  exact ⟨v2, by have := HV2.out; omega, rfl, HB2.out⟩
theorem DrawMulFixed_c (A : Option Addr) (n cap : Nat) (w : World) (h : Code w.heap.size w A n cap) :
    Calls Try.prog 24 #[.slice A n cap] w (Got2 w fun u v => -2000000 ≤ u ∧ u ≤ 2000000 ∧ -2000000 ≤ v ∧ v ≤ 2000000) := by
  have HC := Lib.hid h
  clear h
  go_enter Try.func24, Try.ntmps24
  go_wp2_with fail
  refine (newReader_c w.heap.size _ _ _ _ HC.out (Nat.le_refl _)).mono ?_
  rintro e wr ⟨rfl, hr, hb, hz⟩
  have HR := Lib.hid hr
  have HB := Lib.hid hb
  have hRl : w.heap.size < wr.heap.size := by omega
  clear hr hb hz
  go_wp2_with fail
  refine (one_c w.heap.size w.heap.size 0 [256, 128, -128, 0, 1, 300, 1000000, -1000000, 1000001] _ _ _ _ (HR.out.alloc _) (by omega) (Ints.lit _ _ _ _ _ rfl rfl) (by omega) rfl (by simp) (by simp)).mono ?_
  rintro e w1 ⟨v1, p1, hp1, hq1, hv1, rfl, hr1, hg1⟩
  simp only [List.mem_cons, List.not_mem_nil, or_false] at hv1
  have HB1 := Lib.hid (below_grown (HB.out.alloc (by omega) _) hg1 (by first | omega | (simp; omega)) (Nat.le_refl _))
  have HR1 := Lib.hid hr1
  have hs1 := hg1.size
  try simp only [World.size_alloc] at hs1
  clear hr1 hg1
  have HV1 := Lib.hid hv1
  clear hv1
  go_wp2_with fail
  refine (one_c w.heap.size w.heap.size p1 [256, 3, -3, 0, 127, 512, 1000000, -1000001] _ _ _ _ (HR1.out.alloc _) (by omega) (Ints.lit _ _ _ _ _ rfl rfl) (by omega) rfl (by simp) (by simp)).mono ?_
  rintro e w2 ⟨v2, p2, hp2, hq2, hv2, rfl, hr2, hg2⟩
  simp only [List.mem_cons, List.not_mem_nil, or_false] at hv2
  have HB2 := Lib.hid (below_grown (HB1.out.alloc (by omega) _) hg2 (by first | omega | (simp; omega)) (Nat.le_refl _))
  have HR2 := Lib.hid hr2
  have hs2 := hg2.size
  try simp only [World.size_alloc] at hs2
  clear hr2 hg2
  have HV2 := Lib.hid hv2
  clear hv2
  go_wp2
  go_ret2
  exact ⟨v1, v2, by have := HV1.out; have := HV2.out; omega, rfl, HB2.out⟩
theorem DrawTileCount_c (A : Option Addr) (n cap : Nat) (w : World) (h : Code w.heap.size w A n cap) :
    Calls Try.prog 27 #[.slice A n cap] w (Got2 w fun u v => -2000000 ≤ u ∧ u ≤ 2000000 ∧ -2000000 ≤ v ∧ v ≤ 2000000) := by
  have HC := Lib.hid h
  clear h
  go_enter Try.func27, Try.ntmps27
  go_wp2_with fail
  refine (newReader_c w.heap.size _ _ _ _ HC.out (Nat.le_refl _)).mono ?_
  rintro e wr ⟨rfl, hr, hb, hz⟩
  have HR := Lib.hid hr
  have HB := Lib.hid hb
  have hRl : w.heap.size < wr.heap.size := by omega
  clear hr hb hz
  go_wp2_with fail
  refine (anySide_c w.heap.size w.heap.size 0 _ HR.out (by omega)).mono ?_
  rintro e w1 ⟨v1, p1, hp1, hq1, ⟨ha1, hb1⟩, rfl, hr1, hg1⟩
  have HB1 := Lib.hid (below_grown HB.out hg1 (by first | omega | (simp; omega)) (Nat.le_refl _))
  have HR1 := Lib.hid hr1
  have hs1 := hg1.size
  try simp only [World.size_alloc] at hs1
  clear hr1 hg1
  go_wp2_with fail
  refine (anySide_c w.heap.size w.heap.size p1 _ HR1.out (by omega)).mono ?_
  rintro e w2 ⟨v2, p2, hp2, hq2, ⟨ha2, hb2⟩, rfl, hr2, hg2⟩
  have HB2 := Lib.hid (below_grown HB1.out hg2 (by first | omega | (simp; omega)) (Nat.le_refl _))
  have HR2 := Lib.hid hr2
  have hs2 := hg2.size
  try simp only [World.size_alloc] at hs2
  clear hr2 hg2
  go_wp2
  go_ret2
  exact ⟨v1, v2, by omega, rfl, HB2.out⟩
theorem DrawColorOf_c (A : Option Addr) (n cap : Nat) (w : World) (h : Code w.heap.size w A n cap) :
    Calls Try.prog 38 #[.slice A n cap] w (Got4 w fun a b c d => -2000000 ≤ a ∧ a ≤ 2000000 ∧ -2000000 ≤ b ∧ b ≤ 2000000 ∧ -2000000 ≤ c ∧ c ≤ 2000000 ∧ -2000000 ≤ d ∧ d ≤ 2000000) := by
  have HC := Lib.hid h
  clear h
  go_enter Try.func38, Try.ntmps38
  go_wp2_with fail
  refine (newReader_c w.heap.size _ _ _ _ HC.out (Nat.le_refl _)).mono ?_
  rintro e wr ⟨rfl, hr, hb, hz⟩
  have HR := Lib.hid hr
  have HB := Lib.hid hb
  have hRl : w.heap.size < wr.heap.size := by omega
  clear hr hb hz
  go_wp2_with fail
  refine (anyByte_c w.heap.size w.heap.size 0 _ HR.out (by omega)).mono ?_
  rintro e w1 ⟨v1, p1, hp1, hq1, ⟨ha1, hb1⟩, rfl, hr1, hg1⟩
  have HB1 := Lib.hid (below_grown HB.out hg1 (by first | omega | (simp; omega)) (Nat.le_refl _))
  have HR1 := Lib.hid hr1
  have hs1 := hg1.size
  try simp only [World.size_alloc] at hs1
  clear hr1 hg1
  go_wp2_with fail
  refine (anyByte_c w.heap.size w.heap.size p1 _ HR1.out (by omega)).mono ?_
  rintro e w2 ⟨v2, p2, hp2, hq2, ⟨ha2, hb2⟩, rfl, hr2, hg2⟩
  have HB2 := Lib.hid (below_grown HB1.out hg2 (by first | omega | (simp; omega)) (Nat.le_refl _))
  have HR2 := Lib.hid hr2
  have hs2 := hg2.size
  try simp only [World.size_alloc] at hs2
  clear hr2 hg2
  go_wp2_with fail
  refine (anyByte_c w.heap.size w.heap.size p2 _ HR2.out (by omega)).mono ?_
  rintro e w3 ⟨v3, p3, hp3, hq3, ⟨ha3, hb3⟩, rfl, hr3, hg3⟩
  have HB3 := Lib.hid (below_grown HB2.out hg3 (by first | omega | (simp; omega)) (Nat.le_refl _))
  have HR3 := Lib.hid hr3
  have hs3 := hg3.size
  try simp only [World.size_alloc] at hs3
  clear hr3 hg3
  go_wp2_with fail
  refine (anyByte_c w.heap.size w.heap.size p3 _ HR3.out (by omega)).mono ?_
  rintro e w4 ⟨v4, p4, hp4, hq4, ⟨ha4, hb4⟩, rfl, hr4, hg4⟩
  have HB4 := Lib.hid (below_grown HB3.out hg4 (by first | omega | (simp; omega)) (Nat.le_refl _))
  have HR4 := Lib.hid hr4
  have hs4 := hg4.size
  try simp only [World.size_alloc] at hs4
  clear hr4 hg4
  go_wp2
  refine bodyPost_ret (results_tmp4 rfl _ _ _) rfl ?_
  exact ⟨v1, v2, v3, v4, by omega, rfl, HB4.out⟩
end Go.Proofs.Ytkcmjpbnjdedlaa
