/-
  What the generators of plain numbers yield: numbers within bounds; nothing that was there is touched.
-/
import Derived.Test.YtmdkfeojkjlpeaaReader
namespace Go.Proofs.Ytmdkfeojkjlpeaa
open Go.RowKit
set_option linter.unusedSimpArgs false
set_option linter.unusedVariables false

/-- What a generator leaves: numbers, of which Q holds; nothing that was there has turned. -/
def Got1 (w : World) (Q : Int → Prop) (e : Ending) (w' : World) : Prop := ∃ v : Int, Q v ∧ e = .returned (.int .i64 v) ∧ Below w.heap.size w w'
def Got2 (w : World) (Q : Int → Int → Prop) (e : Ending) (w' : World) : Prop := ∃ u v : Int, Q u v ∧ e = .returned (.tuple #[.int .i64 u, .int .i64 v]) ∧ Below w.heap.size w w'
def Got4 (w : World) (Q : Int → Int → Int → Int → Prop) (e : Ending) (w' : World) : Prop := ∃ a b c d : Int, Q a b c d ∧ e = .returned (.tuple #[.int .i64 a, .int .i64 b, .int .i64 c, .int .i64 d]) ∧ Below w.heap.size w w'
theorem results_tmp4 {fn : Func} {t u v x : Tmp} (h : fn.results = #[.tmp t, .tmp u, .tmp v, .tmp x]) (tmps : Array Value) (P : Program) (w : World) :
    (results fn tmps).run P w = .ok (.tuple #[tmps.getD t undef, tmps.getD u undef, tmps.getD v undef, tmps.getD x undef]) w := by simp [results, h]
end Go.Proofs.Ytmdkfeojkjlpeaa
