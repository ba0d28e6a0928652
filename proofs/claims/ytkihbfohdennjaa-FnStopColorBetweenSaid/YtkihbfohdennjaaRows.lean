/-
  No cell of these rows narrows 'for every input' (looked for: loops, veiled, ifaces, maps, wideKeys, modest, calm, conditions, laid).
  DERIVED. THE GIVEN ROWS OF THIS SEAT. 6 by the template 'for every input the law returns true; each argument reads behind the call as it read before'; 0 by the template 'total and deterministic' (their statements: YtkihbfohdennjaaTotals.lean).
  GIVEN WITH THE SEED: the statements are not yours to turn. If you find one false, say at which input.
  Laid BY PROGRAM, IN A SANDBOX (cutbox-rows.mjs): the forced cells as the released guide's own fill.sh prints them over the translation 550fc0b7ba062f9f… (all of the seat's roots in one cut). By AI agents, Wed Nov 11 2026. No macro, syntax, notation, axiom, sorry.
-/
import Derived.Test.YtkihbfohdennjaaChecked
import GoSem.Claim
import GoSem.ClaimJoined
import GoSem.ClaimMapViews
import Derived.JoinedTies
import Derived.KernelRfl
namespace Go.Proofs.Ytkihbfohdennjaa
/- THE CELL 'sum', in the pinned program and in every row, IS THE sha256 OF THE DUMP (.gsa) THAT YtkihbfohdennjaaProg.lean LOADS. Nothing in Lean hashes anything: it is a label: what it is worth is what the hold of that sum in a sandbox is worth. -/
noncomputable def Try.pinned : Pinned := { name := "ytkihbfohdennjaa", sum := "550fc0b7ba062f9fb93f2d131f78cafe64c73fdedf0bbb24fcf5b2506309dc9a", checked := Try.checked }
namespace Rows
def none {H : Type} : Left H := { results := [], args := [] }

/-- 'laws.FnExactValidStops': WHATEVER THE INPUT: true; the input reads as it did. -/
def fnExactValidStopsSpec : ChangeSpec := { name := "fnExactValidStops", fn := fun _ => fun
  | [d] => { results := [.lit (.bool true)], args := [d] }
  | _ => none }
def fnExactValidStopsRow : OpenClaim := { program := "ytkihbfohdennjaa", sum := "550fc0b7ba062f9fb93f2d131f78cafe64c73fdedf0bbb24fcf5b2506309dc9a", func := "loop.example/vectorraster/laws.FnExactValidStops", spec := "fnExactValidStops", apart := false }
def FnExactValidStopsSaid : Prop := fnExactValidStopsRow.holds Try.pinned (OpenSpec.ofChange fnExactValidStopsSpec)

/-- ITS FALSE NEIGHBOUR: 'it returns false'. Refute it at one input. -/
def fnExactValidStopsWrong : ChangeSpec := { name := "fnExactValidStops", fn := fun _ => fun
  | [d] => { results := [.lit (.bool false)], args := [d] }
  | _ => none }
def FnExactValidStopsWrongFalsely : Prop := fnExactValidStopsRow.holds Try.pinned (OpenSpec.ofChange fnExactValidStopsWrong)

/-- 'laws.FnExactStopColor': WHATEVER THE INPUT: true; the input reads as it did. -/
def fnExactStopColorSpec : ChangeSpec := { name := "fnExactStopColor", fn := fun _ => fun
  | [d1, d2] => { results := [.lit (.bool true)], args := [d1, d2] }
  | _ => none }
def fnExactStopColorRow : OpenClaim := { program := "ytkihbfohdennjaa", sum := "550fc0b7ba062f9fb93f2d131f78cafe64c73fdedf0bbb24fcf5b2506309dc9a", func := "loop.example/vectorraster/laws.FnExactStopColor", spec := "fnExactStopColor", unfollowed := true, recurses := true, apart := false }
def FnExactStopColorSaid : Prop := fnExactStopColorRow.holds Try.pinned (OpenSpec.ofChange fnExactStopColorSpec)

/-- ITS FALSE NEIGHBOUR: 'it returns false'. Refute it at one input. -/
def fnExactStopColorWrong : ChangeSpec := { name := "fnExactStopColor", fn := fun _ => fun
  | [d1, d2] => { results := [.lit (.bool false)], args := [d1, d2] }
  | _ => none }
def FnExactStopColorWrongFalsely : Prop := fnExactStopColorRow.holds Try.pinned (OpenSpec.ofChange fnExactStopColorWrong)

/-- 'laws.FnValidStops': WHATEVER THE INPUT: true; the input reads as it did. -/
def fnValidStopsSpec : ChangeSpec := { name := "fnValidStops", fn := fun _ => fun
  | [d] => { results := [.lit (.bool true)], args := [d] }
  | _ => none }
def fnValidStopsRow : OpenClaim := { program := "ytkihbfohdennjaa", sum := "550fc0b7ba062f9fb93f2d131f78cafe64c73fdedf0bbb24fcf5b2506309dc9a", func := "loop.example/vectorraster/laws.FnValidStops", spec := "fnValidStops", apart := false }
def FnValidStopsSaid : Prop := fnValidStopsRow.holds Try.pinned (OpenSpec.ofChange fnValidStopsSpec)

/-- ITS FALSE NEIGHBOUR: 'it returns false'. Refute it at one input. -/
def fnValidStopsWrong : ChangeSpec := { name := "fnValidStops", fn := fun _ => fun
  | [d] => { results := [.lit (.bool false)], args := [d] }
  | _ => none }
def FnValidStopsWrongFalsely : Prop := fnValidStopsRow.holds Try.pinned (OpenSpec.ofChange fnValidStopsWrong)

/-- 'laws.FnStopColor': WHATEVER THE INPUT: true; the input reads as it did. -/
def fnStopColorSpec : ChangeSpec := { name := "fnStopColor", fn := fun _ => fun
  | [d] => { results := [.lit (.bool true)], args := [d] }
  | _ => none }
def fnStopColorRow : OpenClaim := { program := "ytkihbfohdennjaa", sum := "550fc0b7ba062f9fb93f2d131f78cafe64c73fdedf0bbb24fcf5b2506309dc9a", func := "loop.example/vectorraster/laws.FnStopColor", spec := "fnStopColor", unfollowed := true, recurses := true, apart := false }
def FnStopColorSaid : Prop := fnStopColorRow.holds Try.pinned (OpenSpec.ofChange fnStopColorSpec)

/-- ITS FALSE NEIGHBOUR: 'it returns false'. Refute it at one input. -/
def fnStopColorWrong : ChangeSpec := { name := "fnStopColor", fn := fun _ => fun
  | [d] => { results := [.lit (.bool false)], args := [d] }
  | _ => none }
def FnStopColorWrongFalsely : Prop := fnStopColorRow.holds Try.pinned (OpenSpec.ofChange fnStopColorWrong)

/-- 'laws.FnStopColorOne': WHATEVER THE INPUT: true; the input reads as it did. -/
def fnStopColorOneSpec : ChangeSpec := { name := "fnStopColorOne", fn := fun _ => fun
  | [d] => { results := [.lit (.bool true)], args := [d] }
  | _ => none }
def fnStopColorOneRow : OpenClaim := { program := "ytkihbfohdennjaa", sum := "550fc0b7ba062f9fb93f2d131f78cafe64c73fdedf0bbb24fcf5b2506309dc9a", func := "loop.example/vectorraster/laws.FnStopColorOne", spec := "fnStopColorOne", unfollowed := true, recurses := true, apart := false }
def FnStopColorOneSaid : Prop := fnStopColorOneRow.holds Try.pinned (OpenSpec.ofChange fnStopColorOneSpec)

/-- ITS FALSE NEIGHBOUR: 'it returns false'. Refute it at one input. -/
def fnStopColorOneWrong : ChangeSpec := { name := "fnStopColorOne", fn := fun _ => fun
  | [d] => { results := [.lit (.bool false)], args := [d] }
  | _ => none }
def FnStopColorOneWrongFalsely : Prop := fnStopColorOneRow.holds Try.pinned (OpenSpec.ofChange fnStopColorOneWrong)

/-- 'laws.FnStopColorBetween': WHATEVER THE INPUT: true; the input reads as it did. -/
def fnStopColorBetweenSpec : ChangeSpec := { name := "fnStopColorBetween", fn := fun _ => fun
  | [d] => { results := [.lit (.bool true)], args := [d] }
  | _ => none }
def fnStopColorBetweenRow : OpenClaim := { program := "ytkihbfohdennjaa", sum := "550fc0b7ba062f9fb93f2d131f78cafe64c73fdedf0bbb24fcf5b2506309dc9a", func := "loop.example/vectorraster/laws.FnStopColorBetween", spec := "fnStopColorBetween", unfollowed := true, recurses := true, apart := false }
def FnStopColorBetweenSaid : Prop := fnStopColorBetweenRow.holds Try.pinned (OpenSpec.ofChange fnStopColorBetweenSpec)

/-- ITS FALSE NEIGHBOUR: 'it returns false'. Refute it at one input. -/
def fnStopColorBetweenWrong : ChangeSpec := { name := "fnStopColorBetween", fn := fun _ => fun
  | [d] => { results := [.lit (.bool false)], args := [d] }
  | _ => none }
def FnStopColorBetweenWrongFalsely : Prop := fnStopColorBetweenRow.holds Try.pinned (OpenSpec.ofChange fnStopColorBetweenWrong)

/- THE SECOND FORM. 'bulk': how many values and letters a reading holds, each counted each time it is reached (what is shared counts as often as it is met; a slice's spare places count too). A statement '..UptoSaid' is the law's where the arguments, and the package variables that the reading takes, are together of bulk at most 1048576: NARROWER than '..Said'. Prove '..Said' where nothing that the law and all that it calls make is longer than what came in: it says more and counts as full. Else prove '..UptoSaid'. A law counts once. -/
mutual
def uptoBulk {H : Type} : DataW H → Nat
  | .lit (.string bytes) => bytes.length + 1
  | .lit _ => 1
  | .nil => 1
  | .ptr d => uptoBulk d + 1
  | .slice elems spare => uptoBulkAll elems + uptoBulkAll spare + 1
  | .agg parts => uptoBulkAll parts + 1
  | .iface _ d => uptoBulk d + 1
  | .map entries => uptoBulkEntries entries + 1
  | .held _ => 1
def uptoBulkAll {H : Type} : List (DataW H) → Nat
  | [] => 0
  | d :: r => uptoBulk d + uptoBulkAll r
def uptoBulkEntries {H : Type} : List (Lit × DataW H) → Nat
  | [] => 0
  | x :: r => uptoBulkEntry x + uptoBulkEntries r
def uptoBulkEntry {H : Type} : Lit × DataW H → Nat
  | (.string bytes, d) => bytes.length + uptoBulk d + 1
  | (_, d) => uptoBulk d + 1
 end
def uptoSmall : (H : Type) → List (DataW H) → Bool := fun _ ds => decide (uptoBulkAll ds ≤ 1048576)
def OpenSpec.upto (s : _root_.Go.ChangeSpec) : _root_.Go.OpenSpec := { _root_.Go.OpenSpec.ofChange s with cond := some uptoSmall }

/-- 'laws.FnExactValidStops', WHERE WHAT IT READS IS OF BULK AT MOST 1048576: true; the input reads as it did. -/
def fnExactValidStopsUptoRow : OpenClaim := { program := "ytkihbfohdennjaa", sum := "550fc0b7ba062f9fb93f2d131f78cafe64c73fdedf0bbb24fcf5b2506309dc9a", func := "loop.example/vectorraster/laws.FnExactValidStops", spec := "fnExactValidStops", apart := false, narrowed := true }
def FnExactValidStopsUptoSaid : Prop := fnExactValidStopsUptoRow.holds Try.pinned (OpenSpec.upto fnExactValidStopsSpec)

/-- 'laws.FnExactStopColor', WHERE WHAT IT READS IS OF BULK AT MOST 1048576: true; the input reads as it did. -/
def fnExactStopColorUptoRow : OpenClaim := { program := "ytkihbfohdennjaa", sum := "550fc0b7ba062f9fb93f2d131f78cafe64c73fdedf0bbb24fcf5b2506309dc9a", func := "loop.example/vectorraster/laws.FnExactStopColor", spec := "fnExactStopColor", unfollowed := true, recurses := true, apart := false, narrowed := true }
def FnExactStopColorUptoSaid : Prop := fnExactStopColorUptoRow.holds Try.pinned (OpenSpec.upto fnExactStopColorSpec)

/-- 'laws.FnValidStops', WHERE WHAT IT READS IS OF BULK AT MOST 1048576: true; the input reads as it did. -/
def fnValidStopsUptoRow : OpenClaim := { program := "ytkihbfohdennjaa", sum := "550fc0b7ba062f9fb93f2d131f78cafe64c73fdedf0bbb24fcf5b2506309dc9a", func := "loop.example/vectorraster/laws.FnValidStops", spec := "fnValidStops", apart := false, narrowed := true }
def FnValidStopsUptoSaid : Prop := fnValidStopsUptoRow.holds Try.pinned (OpenSpec.upto fnValidStopsSpec)

/-- 'laws.FnStopColor', WHERE WHAT IT READS IS OF BULK AT MOST 1048576: true; the input reads as it did. -/
def fnStopColorUptoRow : OpenClaim := { program := "ytkihbfohdennjaa", sum := "550fc0b7ba062f9fb93f2d131f78cafe64c73fdedf0bbb24fcf5b2506309dc9a", func := "loop.example/vectorraster/laws.FnStopColor", spec := "fnStopColor", unfollowed := true, recurses := true, apart := false, narrowed := true }
def FnStopColorUptoSaid : Prop := fnStopColorUptoRow.holds Try.pinned (OpenSpec.upto fnStopColorSpec)

/-- 'laws.FnStopColorOne', WHERE WHAT IT READS IS OF BULK AT MOST 1048576: true; the input reads as it did. -/
def fnStopColorOneUptoRow : OpenClaim := { program := "ytkihbfohdennjaa", sum := "550fc0b7ba062f9fb93f2d131f78cafe64c73fdedf0bbb24fcf5b2506309dc9a", func := "loop.example/vectorraster/laws.FnStopColorOne", spec := "fnStopColorOne", unfollowed := true, recurses := true, apart := false, narrowed := true }
def FnStopColorOneUptoSaid : Prop := fnStopColorOneUptoRow.holds Try.pinned (OpenSpec.upto fnStopColorOneSpec)

/-- 'laws.FnStopColorBetween', WHERE WHAT IT READS IS OF BULK AT MOST 1048576: true; the input reads as it did. -/
def fnStopColorBetweenUptoRow : OpenClaim := { program := "ytkihbfohdennjaa", sum := "550fc0b7ba062f9fb93f2d131f78cafe64c73fdedf0bbb24fcf5b2506309dc9a", func := "loop.example/vectorraster/laws.FnStopColorBetween", spec := "fnStopColorBetween", unfollowed := true, recurses := true, apart := false, narrowed := true }
def FnStopColorBetweenUptoSaid : Prop := fnStopColorBetweenUptoRow.holds Try.pinned (OpenSpec.upto fnStopColorBetweenSpec)

end Rows
end Go.Proofs.Ytkihbfohdennjaa
