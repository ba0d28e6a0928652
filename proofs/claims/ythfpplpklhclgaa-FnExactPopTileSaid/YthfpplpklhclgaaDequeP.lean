/-
  What push, pop and steal return: their words.
-/
import Derived.Test.YthfpplpklhclgaaDequeC
namespace Go.Proofs.Ythfpplpklhclgaa
open Go.RowKit
set_option linter.unusedSimpArgs false
set_option linter.unusedVariables false

def zsel (v : Bool) (z : List Int) : List Int := if v = true then z else []
def isel (v : Bool) (x y : Int) : Int := if v = true then x else y
def MadeP2 (w : World) (z : List Int) (a b : Int) (v : Bool) (e : Ending) (w' : World) : Prop := ∃ (A : Option Addr) (cap : Nat), e = .returned (.tuple #[.agg #[.slice A z.length cap, .int .i64 a, .int .i64 b], .bool v]) ∧ z.length ≤ cap ∧ Own w.heap.size w'.heap.size w' A z ∧ Below w.heap.size w w'
def MadeP3 (w : World) (z : List Int) (a b x : Int) (v : Bool) (e : Ending) (w' : World) : Prop := ∃ (A : Option Addr) (cap : Nat), e = .returned (.tuple #[.agg #[.slice A z.length cap, .int .i64 a, .int .i64 b], .int .i64 x, .bool v]) ∧ z.length ≤ cap ∧ Own w.heap.size w'.heap.size w' A z ∧ Below w.heap.size w w'
def pushB (zs : List Int) (a b t : Int) : Bool := devB zs a b && inB t 0 99 && !decide (b - a = 16) && !decide (b = 500)
def popB (zs : List Int) (a b : Int) : Bool := devB zs a b && !decide (a = b)
end Go.Proofs.Ythfpplpklhclgaa
