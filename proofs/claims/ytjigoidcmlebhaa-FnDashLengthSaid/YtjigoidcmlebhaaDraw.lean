/-
  What the generators of plain numbers yield: numbers within bounds; nothing that was there is touched.
-/
import Derived.Test.YtjigoidcmlebhaaReader
namespace Go.Proofs.Ytjigoidcmlebhaa
open Go.RowKit
set_option linter.unusedSimpArgs false
set_option linter.unusedVariables false

/-- What a generator leaves: numbers, of which Q holds; nothing that was there has turned. -/
def Got1 (w : World) (Q : Int → Prop) (e : Ending) (w' : World) : Prop := ∃ v : Int, Q v ∧ e = .returned (.int .i64 v) ∧ Below w.heap.size w w'
def Got2 (w : World) (Q : Int → Int → Prop) (e : Ending) (w' : World) : Prop := ∃ u v : Int, Q u v ∧ e = .returned (.tuple #[.int .i64 u, .int .i64 v]) ∧ Below w.heap.size w w'
def Got4 (w : World) (Q : Int → Int → Int → Int → Prop) (e : Ending) (w' : World) : Prop := ∃ a b c d : Int, Q a b c d ∧ e = .returned (.tuple #[.int .i64 a, .int .i64 b, .int .i64 c, .int .i64 d]) ∧ Below w.heap.size w w'
theorem results_tmp4 {fn : Func} {t u v x : Tmp} (h : fn.results = #[.tmp t, .tmp u, .tmp v, .tmp x]) (tmps : Array Value) (P : Program) (w : World) :
    (results fn tmps).run P w = .ok (.tuple #[tmps.getD t undef, tmps.getD u undef, tmps.getD v undef, tmps.getD x undef]) w := by simp [results, h]
theorem anyLength_c (B R p : Nat) (w : World) (h : Rd B R p w) (hp : p ≤ 990000) :
    Calls Try.prog 43 #[.pointer (some ⟨R, 0, none⟩)] w (Drawn B R p 1 w fun v => -2000000 ≤ v ∧ v ≤ 2000000) := by
  have HR := Lib.hid h
  have hRl := h.lt
  clear h
  go_enter Try.func43, Try.ntmps43
  go_wp2_with fail
  refine (one_c B R p [20, 50, 7, 0, 100, 400, 401, -1] _ _ _ _ (HR.out.alloc _) (by omega) (Ints.lit _ _ _ _ _ rfl rfl) (by omega) rfl (by simp) (by simp)).mono ?_
  rintro e w1 ⟨v1, p1, hp1, hq1, hv1, rfl, hr1, hg1⟩
  simp only [List.mem_cons, List.not_mem_nil, or_false] at hv1
  have HG1 := Lib.hid (grown_trans (grown_alloc (grown_refl _ _) _) hg1)
  have HR1 := Lib.hid hr1
  have hs1 := hg1.size
  try simp only [World.size_alloc] at hs1
  clear hr1 hg1
  have HV1 := Lib.hid hv1
  clear hv1
  go_wp2
  go_ret
  exact ⟨v1, p1, by omega, by omega, by have := HV1.out; omega, rfl, HR1.out, HG1.out⟩
end Go.Proofs.Ytjigoidcmlebhaa
