/-
  No cell of these rows narrows 'for every input' (looked for: loops, veiled, ifaces, maps, wideKeys, modest, calm, conditions, laid).
  DERIVED. THE GIVEN ROWS OF THIS SEAT. 10 by the template 'for every input the law returns true; each argument reads behind the call as it read before'; 0 by the template 'total and deterministic' (their statements: YtjigoidcmlebhaaTotals.lean).
  GIVEN WITH THE SEED: the statements are not yours to turn. If you find one false, say at which input.
  Laid BY PROGRAM, IN A SANDBOX (cutbox-rows.mjs): the forced cells as the released guide's own fill.sh prints them over the translation 694ea973ef051543… (all of the seat's roots in one cut). By AI agents, Wed Nov 11 2026. No macro, syntax, notation, axiom, sorry.
-/
import Derived.Test.YtjigoidcmlebhaaChecked
import GoSem.Claim
import GoSem.ClaimJoined
import GoSem.ClaimMapViews
import Derived.JoinedTies
import Derived.KernelRfl
namespace Go.Proofs.Ytjigoidcmlebhaa
/- THE CELL 'sum', in the pinned program and in every row, IS THE sha256 OF THE DUMP (.gsa) THAT YtjigoidcmlebhaaProg.lean LOADS. Nothing in Lean hashes anything: it is a label: what it is worth is what the hold of that sum in a sandbox is worth. -/
noncomputable def Try.pinned : Pinned := { name := "ytjigoidcmlebhaa", sum := "694ea973ef051543df886fac9c57cca40f14e246d3e8105ca73ed35de3c0435a", checked := Try.checked }
namespace Rows
def none {H : Type} : Left H := { results := [], args := [] }

/-- 'laws.FnExactIsDrawn': WHATEVER THE INPUT: true; the input reads as it did. -/
def fnExactIsDrawnSpec : ChangeSpec := { name := "fnExactIsDrawn", fn := fun _ => fun
  | [d1, d2] => { results := [.lit (.bool true)], args := [d1, d2] }
  | _ => none }
def fnExactIsDrawnRow : OpenClaim := { program := "ytjigoidcmlebhaa", sum := "694ea973ef051543df886fac9c57cca40f14e246d3e8105ca73ed35de3c0435a", func := "loop.example/vectorraster/laws.FnExactIsDrawn", spec := "fnExactIsDrawn", unfollowed := true, recurses := true, apart := false }
def FnExactIsDrawnSaid : Prop := fnExactIsDrawnRow.holds Try.pinned (OpenSpec.ofChange fnExactIsDrawnSpec)

/-- ITS FALSE NEIGHBOUR: 'it returns false'. Refute it at one input. -/
def fnExactIsDrawnWrong : ChangeSpec := { name := "fnExactIsDrawn", fn := fun _ => fun
  | [d1, d2] => { results := [.lit (.bool false)], args := [d1, d2] }
  | _ => none }
def FnExactIsDrawnWrongFalsely : Prop := fnExactIsDrawnRow.holds Try.pinned (OpenSpec.ofChange fnExactIsDrawnWrong)

/-- 'laws.FnIsDrawnFirst': WHATEVER THE INPUT: true; the input reads as it did. -/
def fnIsDrawnFirstSpec : ChangeSpec := { name := "fnIsDrawnFirst", fn := fun _ => fun
  | [d] => { results := [.lit (.bool true)], args := [d] }
  | _ => none }
def fnIsDrawnFirstRow : OpenClaim := { program := "ytjigoidcmlebhaa", sum := "694ea973ef051543df886fac9c57cca40f14e246d3e8105ca73ed35de3c0435a", func := "loop.example/vectorraster/laws.FnIsDrawnFirst", spec := "fnIsDrawnFirst", unfollowed := true, recurses := true, apart := false }
def FnIsDrawnFirstSaid : Prop := fnIsDrawnFirstRow.holds Try.pinned (OpenSpec.ofChange fnIsDrawnFirstSpec)

/-- ITS FALSE NEIGHBOUR: 'it returns false'. Refute it at one input. -/
def fnIsDrawnFirstWrong : ChangeSpec := { name := "fnIsDrawnFirst", fn := fun _ => fun
  | [d] => { results := [.lit (.bool false)], args := [d] }
  | _ => none }
def FnIsDrawnFirstWrongFalsely : Prop := fnIsDrawnFirstRow.holds Try.pinned (OpenSpec.ofChange fnIsDrawnFirstWrong)

/-- 'laws.FnIsDrawn': WHATEVER THE INPUT: true; the input reads as it did. -/
def fnIsDrawnSpec : ChangeSpec := { name := "fnIsDrawn", fn := fun _ => fun
  | [d] => { results := [.lit (.bool true)], args := [d] }
  | _ => none }
def fnIsDrawnRow : OpenClaim := { program := "ytjigoidcmlebhaa", sum := "694ea973ef051543df886fac9c57cca40f14e246d3e8105ca73ed35de3c0435a", func := "loop.example/vectorraster/laws.FnIsDrawn", spec := "fnIsDrawn", unfollowed := true, recurses := true, apart := false }
def FnIsDrawnSaid : Prop := fnIsDrawnRow.holds Try.pinned (OpenSpec.ofChange fnIsDrawnSpec)

/-- ITS FALSE NEIGHBOUR: 'it returns false'. Refute it at one input. -/
def fnIsDrawnWrong : ChangeSpec := { name := "fnIsDrawn", fn := fun _ => fun
  | [d] => { results := [.lit (.bool false)], args := [d] }
  | _ => none }
def FnIsDrawnWrongFalsely : Prop := fnIsDrawnRow.holds Try.pinned (OpenSpec.ofChange fnIsDrawnWrong)

/-- 'laws.FnIsDrawnOdd': WHATEVER THE INPUT: true; the input reads as it did. -/
def fnIsDrawnOddSpec : ChangeSpec := { name := "fnIsDrawnOdd", fn := fun _ => fun
  | [d] => { results := [.lit (.bool true)], args := [d] }
  | _ => none }
def fnIsDrawnOddRow : OpenClaim := { program := "ytjigoidcmlebhaa", sum := "694ea973ef051543df886fac9c57cca40f14e246d3e8105ca73ed35de3c0435a", func := "loop.example/vectorraster/laws.FnIsDrawnOdd", spec := "fnIsDrawnOdd", unfollowed := true, recurses := true, apart := false }
def FnIsDrawnOddSaid : Prop := fnIsDrawnOddRow.holds Try.pinned (OpenSpec.ofChange fnIsDrawnOddSpec)

/-- ITS FALSE NEIGHBOUR: 'it returns false'. Refute it at one input. -/
def fnIsDrawnOddWrong : ChangeSpec := { name := "fnIsDrawnOdd", fn := fun _ => fun
  | [d] => { results := [.lit (.bool false)], args := [d] }
  | _ => none }
def FnIsDrawnOddWrongFalsely : Prop := fnIsDrawnOddRow.holds Try.pinned (OpenSpec.ofChange fnIsDrawnOddWrong)

/-- 'laws.FnExactDashLength': WHATEVER THE INPUT: true; the input reads as it did. -/
def fnExactDashLengthSpec : ChangeSpec := { name := "fnExactDashLength", fn := fun _ => fun
  | [d1, d2, d3] => { results := [.lit (.bool true)], args := [d1, d2, d3] }
  | _ => none }
def fnExactDashLengthRow : OpenClaim := { program := "ytjigoidcmlebhaa", sum := "694ea973ef051543df886fac9c57cca40f14e246d3e8105ca73ed35de3c0435a", func := "loop.example/vectorraster/laws.FnExactDashLength", spec := "fnExactDashLength", unfollowed := true, recurses := true, apart := false }
def FnExactDashLengthSaid : Prop := fnExactDashLengthRow.holds Try.pinned (OpenSpec.ofChange fnExactDashLengthSpec)

/-- ITS FALSE NEIGHBOUR: 'it returns false'. Refute it at one input. -/
def fnExactDashLengthWrong : ChangeSpec := { name := "fnExactDashLength", fn := fun _ => fun
  | [d1, d2, d3] => { results := [.lit (.bool false)], args := [d1, d2, d3] }
  | _ => none }
def FnExactDashLengthWrongFalsely : Prop := fnExactDashLengthRow.holds Try.pinned (OpenSpec.ofChange fnExactDashLengthWrong)

/-- 'laws.FnDashLength': WHATEVER THE INPUT: true; the input reads as it did. -/
def fnDashLengthSpec : ChangeSpec := { name := "fnDashLength", fn := fun _ => fun
  | [d] => { results := [.lit (.bool true)], args := [d] }
  | _ => none }
def fnDashLengthRow : OpenClaim := { program := "ytjigoidcmlebhaa", sum := "694ea973ef051543df886fac9c57cca40f14e246d3e8105ca73ed35de3c0435a", func := "loop.example/vectorraster/laws.FnDashLength", spec := "fnDashLength", unfollowed := true, recurses := true, apart := false }
def FnDashLengthSaid : Prop := fnDashLengthRow.holds Try.pinned (OpenSpec.ofChange fnDashLengthSpec)

/-- ITS FALSE NEIGHBOUR: 'it returns false'. Refute it at one input. -/
def fnDashLengthWrong : ChangeSpec := { name := "fnDashLength", fn := fun _ => fun
  | [d] => { results := [.lit (.bool false)], args := [d] }
  | _ => none }
def FnDashLengthWrongFalsely : Prop := fnDashLengthRow.holds Try.pinned (OpenSpec.ofChange fnDashLengthWrong)

/-- 'laws.FnExactDashSpans': WHATEVER THE INPUT: true; the input reads as it did. -/
def fnExactDashSpansSpec : ChangeSpec := { name := "fnExactDashSpans", fn := fun _ => fun
  | [d1, d2, d3] => { results := [.lit (.bool true)], args := [d1, d2, d3] }
  | _ => none }
def fnExactDashSpansRow : OpenClaim := { program := "ytjigoidcmlebhaa", sum := "694ea973ef051543df886fac9c57cca40f14e246d3e8105ca73ed35de3c0435a", func := "loop.example/vectorraster/laws.FnExactDashSpans", spec := "fnExactDashSpans", unfollowed := true, recurses := true, apart := false }
def FnExactDashSpansSaid : Prop := fnExactDashSpansRow.holds Try.pinned (OpenSpec.ofChange fnExactDashSpansSpec)

/-- ITS FALSE NEIGHBOUR: 'it returns false'. Refute it at one input. -/
def fnExactDashSpansWrong : ChangeSpec := { name := "fnExactDashSpans", fn := fun _ => fun
  | [d1, d2, d3] => { results := [.lit (.bool false)], args := [d1, d2, d3] }
  | _ => none }
def FnExactDashSpansWrongFalsely : Prop := fnExactDashSpansRow.holds Try.pinned (OpenSpec.ofChange fnExactDashSpansWrong)

/-- 'laws.FnDashSpans': WHATEVER THE INPUT: true; the input reads as it did. -/
def fnDashSpansSpec : ChangeSpec := { name := "fnDashSpans", fn := fun _ => fun
  | [d] => { results := [.lit (.bool true)], args := [d] }
  | _ => none }
def fnDashSpansRow : OpenClaim := { program := "ytjigoidcmlebhaa", sum := "694ea973ef051543df886fac9c57cca40f14e246d3e8105ca73ed35de3c0435a", func := "loop.example/vectorraster/laws.FnDashSpans", spec := "fnDashSpans", unfollowed := true, recurses := true, apart := false }
def FnDashSpansSaid : Prop := fnDashSpansRow.holds Try.pinned (OpenSpec.ofChange fnDashSpansSpec)

/-- ITS FALSE NEIGHBOUR: 'it returns false'. Refute it at one input. -/
def fnDashSpansWrong : ChangeSpec := { name := "fnDashSpans", fn := fun _ => fun
  | [d] => { results := [.lit (.bool false)], args := [d] }
  | _ => none }
def FnDashSpansWrongFalsely : Prop := fnDashSpansRow.holds Try.pinned (OpenSpec.ofChange fnDashSpansWrong)

/-- 'laws.FnDashSpansShift': WHATEVER THE INPUT: true; the input reads as it did. -/
def fnDashSpansShiftSpec : ChangeSpec := { name := "fnDashSpansShift", fn := fun _ => fun
  | [d] => { results := [.lit (.bool true)], args := [d] }
  | _ => none }
def fnDashSpansShiftRow : OpenClaim := { program := "ytjigoidcmlebhaa", sum := "694ea973ef051543df886fac9c57cca40f14e246d3e8105ca73ed35de3c0435a", func := "loop.example/vectorraster/laws.FnDashSpansShift", spec := "fnDashSpansShift", unfollowed := true, recurses := true, apart := false }
def FnDashSpansShiftSaid : Prop := fnDashSpansShiftRow.holds Try.pinned (OpenSpec.ofChange fnDashSpansShiftSpec)

/-- ITS FALSE NEIGHBOUR: 'it returns false'. Refute it at one input. -/
def fnDashSpansShiftWrong : ChangeSpec := { name := "fnDashSpansShift", fn := fun _ => fun
  | [d] => { results := [.lit (.bool false)], args := [d] }
  | _ => none }
def FnDashSpansShiftWrongFalsely : Prop := fnDashSpansShiftRow.holds Try.pinned (OpenSpec.ofChange fnDashSpansShiftWrong)

/-- 'laws.FnDashSpansApart': WHATEVER THE INPUT: true; the input reads as it did. -/
def fnDashSpansApartSpec : ChangeSpec := { name := "fnDashSpansApart", fn := fun _ => fun
  | [d] => { results := [.lit (.bool true)], args := [d] }
  | _ => none }
def fnDashSpansApartRow : OpenClaim := { program := "ytjigoidcmlebhaa", sum := "694ea973ef051543df886fac9c57cca40f14e246d3e8105ca73ed35de3c0435a", func := "loop.example/vectorraster/laws.FnDashSpansApart", spec := "fnDashSpansApart", unfollowed := true, recurses := true, apart := false }
def FnDashSpansApartSaid : Prop := fnDashSpansApartRow.holds Try.pinned (OpenSpec.ofChange fnDashSpansApartSpec)

/-- ITS FALSE NEIGHBOUR: 'it returns false'. Refute it at one input. -/
def fnDashSpansApartWrong : ChangeSpec := { name := "fnDashSpansApart", fn := fun _ => fun
  | [d] => { results := [.lit (.bool false)], args := [d] }
  | _ => none }
def FnDashSpansApartWrongFalsely : Prop := fnDashSpansApartRow.holds Try.pinned (OpenSpec.ofChange fnDashSpansApartWrong)

/- THE SECOND FORM. 'bulk': how many values and letters a reading holds, each counted each time it is reached (what is shared counts as often as it is met; a slice's spare places count too). A statement '..UptoSaid' is the law's where the arguments, and the package variables that the reading takes, are together of bulk at most 1048576: NARROWER than '..Said'. Prove '..Said' where nothing that the law and all that it calls make is longer than what came in: it says more and counts as full. Else prove '..UptoSaid'. A law counts once. -/
mutual
def uptoBulk {H : Type} : DataW H → Nat
  | .lit (.string bytes) => bytes.length + 1
  | .lit _ => 1
  | .nil => 1
  | .ptr d => uptoBulk d + 1
  | .slice elems spare => uptoBulkAll elems + uptoBulkAll spare + 1
  | .agg parts => uptoBulkAll parts + 1
  | .iface _ d => uptoBulk d + 1
  | .map entries => uptoBulkEntries entries + 1
  | .held _ => 1
def uptoBulkAll {H : Type} : List (DataW H) → Nat
  | [] => 0
  | d :: r => uptoBulk d + uptoBulkAll r
def uptoBulkEntries {H : Type} : List (Lit × DataW H) → Nat
  | [] => 0
  | x :: r => uptoBulkEntry x + uptoBulkEntries r
def uptoBulkEntry {H : Type} : Lit × DataW H → Nat
  | (.string bytes, d) => bytes.length + uptoBulk d + 1
  | (_, d) => uptoBulk d + 1
 end
def uptoSmall : (H : Type) → List (DataW H) → Bool := fun _ ds => decide (uptoBulkAll ds ≤ 1048576)
def OpenSpec.upto (s : _root_.Go.ChangeSpec) : _root_.Go.OpenSpec := { _root_.Go.OpenSpec.ofChange s with cond := some uptoSmall }

/-- 'laws.FnExactIsDrawn', WHERE WHAT IT READS IS OF BULK AT MOST 1048576: true; the input reads as it did. -/
def fnExactIsDrawnUptoRow : OpenClaim := { program := "ytjigoidcmlebhaa", sum := "694ea973ef051543df886fac9c57cca40f14e246d3e8105ca73ed35de3c0435a", func := "loop.example/vectorraster/laws.FnExactIsDrawn", spec := "fnExactIsDrawn", unfollowed := true, recurses := true, apart := false, narrowed := true }
def FnExactIsDrawnUptoSaid : Prop := fnExactIsDrawnUptoRow.holds Try.pinned (OpenSpec.upto fnExactIsDrawnSpec)

/-- 'laws.FnIsDrawnFirst', WHERE WHAT IT READS IS OF BULK AT MOST 1048576: true; the input reads as it did. -/
def fnIsDrawnFirstUptoRow : OpenClaim := { program := "ytjigoidcmlebhaa", sum := "694ea973ef051543df886fac9c57cca40f14e246d3e8105ca73ed35de3c0435a", func := "loop.example/vectorraster/laws.FnIsDrawnFirst", spec := "fnIsDrawnFirst", unfollowed := true, recurses := true, apart := false, narrowed := true }
def FnIsDrawnFirstUptoSaid : Prop := fnIsDrawnFirstUptoRow.holds Try.pinned (OpenSpec.upto fnIsDrawnFirstSpec)

/-- 'laws.FnIsDrawn', WHERE WHAT IT READS IS OF BULK AT MOST 1048576: true; the input reads as it did. -/
def fnIsDrawnUptoRow : OpenClaim := { program := "ytjigoidcmlebhaa", sum := "694ea973ef051543df886fac9c57cca40f14e246d3e8105ca73ed35de3c0435a", func := "loop.example/vectorraster/laws.FnIsDrawn", spec := "fnIsDrawn", unfollowed := true, recurses := true, apart := false, narrowed := true }
def FnIsDrawnUptoSaid : Prop := fnIsDrawnUptoRow.holds Try.pinned (OpenSpec.upto fnIsDrawnSpec)

/-- 'laws.FnIsDrawnOdd', WHERE WHAT IT READS IS OF BULK AT MOST 1048576: true; the input reads as it did. -/
def fnIsDrawnOddUptoRow : OpenClaim := { program := "ytjigoidcmlebhaa", sum := "694ea973ef051543df886fac9c57cca40f14e246d3e8105ca73ed35de3c0435a", func := "loop.example/vectorraster/laws.FnIsDrawnOdd", spec := "fnIsDrawnOdd", unfollowed := true, recurses := true, apart := false, narrowed := true }
def FnIsDrawnOddUptoSaid : Prop := fnIsDrawnOddUptoRow.holds Try.pinned (OpenSpec.upto fnIsDrawnOddSpec)

/-- 'laws.FnExactDashLength', WHERE WHAT IT READS IS OF BULK AT MOST 1048576: true; the input reads as it did. -/
def fnExactDashLengthUptoRow : OpenClaim := { program := "ytjigoidcmlebhaa", sum := "694ea973ef051543df886fac9c57cca40f14e246d3e8105ca73ed35de3c0435a", func := "loop.example/vectorraster/laws.FnExactDashLength", spec := "fnExactDashLength", unfollowed := true, recurses := true, apart := false, narrowed := true }
def FnExactDashLengthUptoSaid : Prop := fnExactDashLengthUptoRow.holds Try.pinned (OpenSpec.upto fnExactDashLengthSpec)

/-- 'laws.FnDashLength', WHERE WHAT IT READS IS OF BULK AT MOST 1048576: true; the input reads as it did. -/
def fnDashLengthUptoRow : OpenClaim := { program := "ytjigoidcmlebhaa", sum := "694ea973ef051543df886fac9c57cca40f14e246d3e8105ca73ed35de3c0435a", func := "loop.example/vectorraster/laws.FnDashLength", spec := "fnDashLength", unfollowed := true, recurses := true, apart := false, narrowed := true }
def FnDashLengthUptoSaid : Prop := fnDashLengthUptoRow.holds Try.pinned (OpenSpec.upto fnDashLengthSpec)

/-- 'laws.FnExactDashSpans', WHERE WHAT IT READS IS OF BULK AT MOST 1048576: true; the input reads as it did. -/
def fnExactDashSpansUptoRow : OpenClaim := { program := "ytjigoidcmlebhaa", sum := "694ea973ef051543df886fac9c57cca40f14e246d3e8105ca73ed35de3c0435a", func := "loop.example/vectorraster/laws.FnExactDashSpans", spec := "fnExactDashSpans", unfollowed := true, recurses := true, apart := false, narrowed := true }
def FnExactDashSpansUptoSaid : Prop := fnExactDashSpansUptoRow.holds Try.pinned (OpenSpec.upto fnExactDashSpansSpec)

/-- 'laws.FnDashSpans', WHERE WHAT IT READS IS OF BULK AT MOST 1048576: true; the input reads as it did. -/
def fnDashSpansUptoRow : OpenClaim := { program := "ytjigoidcmlebhaa", sum := "694ea973ef051543df886fac9c57cca40f14e246d3e8105ca73ed35de3c0435a", func := "loop.example/vectorraster/laws.FnDashSpans", spec := "fnDashSpans", unfollowed := true, recurses := true, apart := false, narrowed := true }
def FnDashSpansUptoSaid : Prop := fnDashSpansUptoRow.holds Try.pinned (OpenSpec.upto fnDashSpansSpec)

/-- 'laws.FnDashSpansShift', WHERE WHAT IT READS IS OF BULK AT MOST 1048576: true; the input reads as it did. -/
def fnDashSpansShiftUptoRow : OpenClaim := { program := "ytjigoidcmlebhaa", sum := "694ea973ef051543df886fac9c57cca40f14e246d3e8105ca73ed35de3c0435a", func := "loop.example/vectorraster/laws.FnDashSpansShift", spec := "fnDashSpansShift", unfollowed := true, recurses := true, apart := false, narrowed := true }
def FnDashSpansShiftUptoSaid : Prop := fnDashSpansShiftUptoRow.holds Try.pinned (OpenSpec.upto fnDashSpansShiftSpec)

/-- 'laws.FnDashSpansApart', WHERE WHAT IT READS IS OF BULK AT MOST 1048576: true; the input reads as it did. -/
def fnDashSpansApartUptoRow : OpenClaim := { program := "ytjigoidcmlebhaa", sum := "694ea973ef051543df886fac9c57cca40f14e246d3e8105ca73ed35de3c0435a", func := "loop.example/vectorraster/laws.FnDashSpansApart", spec := "fnDashSpansApart", unfollowed := true, recurses := true, apart := false, narrowed := true }
def FnDashSpansApartUptoSaid : Prop := fnDashSpansApartUptoRow.holds Try.pinned (OpenSpec.upto fnDashSpansApartSpec)

end Rows
end Go.Proofs.Ytjigoidcmlebhaa
