/-
  No cell of these rows narrows 'for every input' (looked for: loops, veiled, ifaces, maps, wideKeys, modest, calm, conditions, laid).
  DERIVED. THE GIVEN ROWS OF THIS SEAT. 11 by the template 'for every input the law returns true; each argument reads behind the call as it read before'; 0 by the template 'total and deterministic' (their statements: YtmdkfeojkjlpeaaTotals.lean).
  GIVEN WITH THE SEED: the statements are not yours to turn. If you find one false, say at which input.
  Laid BY PROGRAM, IN A SANDBOX (cutbox-rows.mjs): the forced cells as the released guide's own fill.sh prints them over the translation c25098542bc65a99… (all of the seat's roots in one cut). By AI agents, Wed Nov 11 2026. No macro, syntax, notation, axiom, sorry.
-/
import Derived.Test.YtmdkfeojkjlpeaaChecked
import GoSem.Claim
import GoSem.ClaimJoined
import GoSem.ClaimMapViews
import Derived.JoinedTies
import Derived.KernelRfl
namespace Go.Proofs.Ytmdkfeojkjlpeaa
/- THE CELL 'sum', in the pinned program and in every row, IS THE sha256 OF THE DUMP (.gsa) THAT YtmdkfeojkjlpeaaProg.lean LOADS. Nothing in Lean hashes anything: it is a label: what it is worth is what the hold of that sum in a sandbox is worth. -/
noncomputable def Try.pinned : Pinned := { name := "ytmdkfeojkjlpeaa", sum := "c25098542bc65a9938896c405ecf1ee0d4656ddef677a73e11e45eb9b91623c4", checked := Try.checked }
namespace Rows
def none {H : Type} : Left H := { results := [], args := [] }

/-- 'laws.FnExactValidColor': WHATEVER THE INPUT: true; the input reads as it did. -/
def fnExactValidColorSpec : ChangeSpec := { name := "fnExactValidColor", fn := fun _ => fun
  | [d] => { results := [.lit (.bool true)], args := [d] }
  | _ => none }
def fnExactValidColorRow : OpenClaim := { program := "ytmdkfeojkjlpeaa", sum := "c25098542bc65a9938896c405ecf1ee0d4656ddef677a73e11e45eb9b91623c4", func := "loop.example/vectorraster/laws.FnExactValidColor", spec := "fnExactValidColor", apart := false }
def FnExactValidColorSaid : Prop := fnExactValidColorRow.holds Try.pinned (OpenSpec.ofChange fnExactValidColorSpec)

/-- ITS FALSE NEIGHBOUR: 'it returns false'. Refute it at one input. -/
def fnExactValidColorWrong : ChangeSpec := { name := "fnExactValidColor", fn := fun _ => fun
  | [d] => { results := [.lit (.bool false)], args := [d] }
  | _ => none }
def FnExactValidColorWrongFalsely : Prop := fnExactValidColorRow.holds Try.pinned (OpenSpec.ofChange fnExactValidColorWrong)

/-- 'laws.FnExactCoverColor': WHATEVER THE INPUT: true; the input reads as it did. -/
def fnExactCoverColorSpec : ChangeSpec := { name := "fnExactCoverColor", fn := fun _ => fun
  | [d1, d2] => { results := [.lit (.bool true)], args := [d1, d2] }
  | _ => none }
def fnExactCoverColorRow : OpenClaim := { program := "ytmdkfeojkjlpeaa", sum := "c25098542bc65a9938896c405ecf1ee0d4656ddef677a73e11e45eb9b91623c4", func := "loop.example/vectorraster/laws.FnExactCoverColor", spec := "fnExactCoverColor", unfollowed := true, recurses := true, apart := false }
def FnExactCoverColorSaid : Prop := fnExactCoverColorRow.holds Try.pinned (OpenSpec.ofChange fnExactCoverColorSpec)

/-- ITS FALSE NEIGHBOUR: 'it returns false'. Refute it at one input. -/
def fnExactCoverColorWrong : ChangeSpec := { name := "fnExactCoverColor", fn := fun _ => fun
  | [d1, d2] => { results := [.lit (.bool false)], args := [d1, d2] }
  | _ => none }
def FnExactCoverColorWrongFalsely : Prop := fnExactCoverColorRow.holds Try.pinned (OpenSpec.ofChange fnExactCoverColorWrong)

/-- 'laws.FnExactMixColor': WHATEVER THE INPUT: true; the input reads as it did. -/
def fnExactMixColorSpec : ChangeSpec := { name := "fnExactMixColor", fn := fun _ => fun
  | [d1, d2, d3] => { results := [.lit (.bool true)], args := [d1, d2, d3] }
  | _ => none }
def fnExactMixColorRow : OpenClaim := { program := "ytmdkfeojkjlpeaa", sum := "c25098542bc65a9938896c405ecf1ee0d4656ddef677a73e11e45eb9b91623c4", func := "loop.example/vectorraster/laws.FnExactMixColor", spec := "fnExactMixColor", unfollowed := true, recurses := true, apart := false }
def FnExactMixColorSaid : Prop := fnExactMixColorRow.holds Try.pinned (OpenSpec.ofChange fnExactMixColorSpec)

/-- ITS FALSE NEIGHBOUR: 'it returns false'. Refute it at one input. -/
def fnExactMixColorWrong : ChangeSpec := { name := "fnExactMixColor", fn := fun _ => fun
  | [d1, d2, d3] => { results := [.lit (.bool false)], args := [d1, d2, d3] }
  | _ => none }
def FnExactMixColorWrongFalsely : Prop := fnExactMixColorRow.holds Try.pinned (OpenSpec.ofChange fnExactMixColorWrong)

/-- 'laws.FnExactOverColor': WHATEVER THE INPUT: true; the input reads as it did. -/
def fnExactOverColorSpec : ChangeSpec := { name := "fnExactOverColor", fn := fun _ => fun
  | [d1, d2] => { results := [.lit (.bool true)], args := [d1, d2] }
  | _ => none }
def fnExactOverColorRow : OpenClaim := { program := "ytmdkfeojkjlpeaa", sum := "c25098542bc65a9938896c405ecf1ee0d4656ddef677a73e11e45eb9b91623c4", func := "loop.example/vectorraster/laws.FnExactOverColor", spec := "fnExactOverColor", unfollowed := true, recurses := true, apart := false }
def FnExactOverColorSaid : Prop := fnExactOverColorRow.holds Try.pinned (OpenSpec.ofChange fnExactOverColorSpec)

/-- ITS FALSE NEIGHBOUR: 'it returns false'. Refute it at one input. -/
def fnExactOverColorWrong : ChangeSpec := { name := "fnExactOverColor", fn := fun _ => fun
  | [d1, d2] => { results := [.lit (.bool false)], args := [d1, d2] }
  | _ => none }
def FnExactOverColorWrongFalsely : Prop := fnExactOverColorRow.holds Try.pinned (OpenSpec.ofChange fnExactOverColorWrong)

/-- 'laws.FnValidColor': WHATEVER THE INPUT: true; the input reads as it did. -/
def fnValidColorSpec : ChangeSpec := { name := "fnValidColor", fn := fun _ => fun
  | [d] => { results := [.lit (.bool true)], args := [d] }
  | _ => none }
def fnValidColorRow : OpenClaim := { program := "ytmdkfeojkjlpeaa", sum := "c25098542bc65a9938896c405ecf1ee0d4656ddef677a73e11e45eb9b91623c4", func := "loop.example/vectorraster/laws.FnValidColor", spec := "fnValidColor", unfollowed := true, recurses := true, apart := false }
def FnValidColorSaid : Prop := fnValidColorRow.holds Try.pinned (OpenSpec.ofChange fnValidColorSpec)

/-- ITS FALSE NEIGHBOUR: 'it returns false'. Refute it at one input. -/
def fnValidColorWrong : ChangeSpec := { name := "fnValidColor", fn := fun _ => fun
  | [d] => { results := [.lit (.bool false)], args := [d] }
  | _ => none }
def FnValidColorWrongFalsely : Prop := fnValidColorRow.holds Try.pinned (OpenSpec.ofChange fnValidColorWrong)

/-- 'laws.FnCoverColor': WHATEVER THE INPUT: true; the input reads as it did. -/
def fnCoverColorSpec : ChangeSpec := { name := "fnCoverColor", fn := fun _ => fun
  | [d] => { results := [.lit (.bool true)], args := [d] }
  | _ => none }
def fnCoverColorRow : OpenClaim := { program := "ytmdkfeojkjlpeaa", sum := "c25098542bc65a9938896c405ecf1ee0d4656ddef677a73e11e45eb9b91623c4", func := "loop.example/vectorraster/laws.FnCoverColor", spec := "fnCoverColor", unfollowed := true, recurses := true, apart := false }
def FnCoverColorSaid : Prop := fnCoverColorRow.holds Try.pinned (OpenSpec.ofChange fnCoverColorSpec)

/-- ITS FALSE NEIGHBOUR: 'it returns false'. Refute it at one input. -/
def fnCoverColorWrong : ChangeSpec := { name := "fnCoverColor", fn := fun _ => fun
  | [d] => { results := [.lit (.bool false)], args := [d] }
  | _ => none }
def FnCoverColorWrongFalsely : Prop := fnCoverColorRow.holds Try.pinned (OpenSpec.ofChange fnCoverColorWrong)

/-- 'laws.FnMixColor': WHATEVER THE INPUT: true; the input reads as it did. -/
def fnMixColorSpec : ChangeSpec := { name := "fnMixColor", fn := fun _ => fun
  | [d] => { results := [.lit (.bool true)], args := [d] }
  | _ => none }
def fnMixColorRow : OpenClaim := { program := "ytmdkfeojkjlpeaa", sum := "c25098542bc65a9938896c405ecf1ee0d4656ddef677a73e11e45eb9b91623c4", func := "loop.example/vectorraster/laws.FnMixColor", spec := "fnMixColor", unfollowed := true, recurses := true, apart := false }
def FnMixColorSaid : Prop := fnMixColorRow.holds Try.pinned (OpenSpec.ofChange fnMixColorSpec)

/-- ITS FALSE NEIGHBOUR: 'it returns false'. Refute it at one input. -/
def fnMixColorWrong : ChangeSpec := { name := "fnMixColor", fn := fun _ => fun
  | [d] => { results := [.lit (.bool false)], args := [d] }
  | _ => none }
def FnMixColorWrongFalsely : Prop := fnMixColorRow.holds Try.pinned (OpenSpec.ofChange fnMixColorWrong)

/-- 'laws.FnMixColorReverse': WHATEVER THE INPUT: true; the input reads as it did. -/
def fnMixColorReverseSpec : ChangeSpec := { name := "fnMixColorReverse", fn := fun _ => fun
  | [d] => { results := [.lit (.bool true)], args := [d] }
  | _ => none }
def fnMixColorReverseRow : OpenClaim := { program := "ytmdkfeojkjlpeaa", sum := "c25098542bc65a9938896c405ecf1ee0d4656ddef677a73e11e45eb9b91623c4", func := "loop.example/vectorraster/laws.FnMixColorReverse", spec := "fnMixColorReverse", unfollowed := true, recurses := true, apart := false }
def FnMixColorReverseSaid : Prop := fnMixColorReverseRow.holds Try.pinned (OpenSpec.ofChange fnMixColorReverseSpec)

/-- ITS FALSE NEIGHBOUR: 'it returns false'. Refute it at one input. -/
def fnMixColorReverseWrong : ChangeSpec := { name := "fnMixColorReverse", fn := fun _ => fun
  | [d] => { results := [.lit (.bool false)], args := [d] }
  | _ => none }
def FnMixColorReverseWrongFalsely : Prop := fnMixColorReverseRow.holds Try.pinned (OpenSpec.ofChange fnMixColorReverseWrong)

/-- 'laws.FnOverColor': WHATEVER THE INPUT: true; the input reads as it did. -/
def fnOverColorSpec : ChangeSpec := { name := "fnOverColor", fn := fun _ => fun
  | [d] => { results := [.lit (.bool true)], args := [d] }
  | _ => none }
def fnOverColorRow : OpenClaim := { program := "ytmdkfeojkjlpeaa", sum := "c25098542bc65a9938896c405ecf1ee0d4656ddef677a73e11e45eb9b91623c4", func := "loop.example/vectorraster/laws.FnOverColor", spec := "fnOverColor", unfollowed := true, recurses := true, apart := false }
def FnOverColorSaid : Prop := fnOverColorRow.holds Try.pinned (OpenSpec.ofChange fnOverColorSpec)

/-- ITS FALSE NEIGHBOUR: 'it returns false'. Refute it at one input. -/
def fnOverColorWrong : ChangeSpec := { name := "fnOverColor", fn := fun _ => fun
  | [d] => { results := [.lit (.bool false)], args := [d] }
  | _ => none }
def FnOverColorWrongFalsely : Prop := fnOverColorRow.holds Try.pinned (OpenSpec.ofChange fnOverColorWrong)

/-- 'laws.FnOverColorAlpha': WHATEVER THE INPUT: true; the input reads as it did. -/
def fnOverColorAlphaSpec : ChangeSpec := { name := "fnOverColorAlpha", fn := fun _ => fun
  | [d] => { results := [.lit (.bool true)], args := [d] }
  | _ => none }
def fnOverColorAlphaRow : OpenClaim := { program := "ytmdkfeojkjlpeaa", sum := "c25098542bc65a9938896c405ecf1ee0d4656ddef677a73e11e45eb9b91623c4", func := "loop.example/vectorraster/laws.FnOverColorAlpha", spec := "fnOverColorAlpha", unfollowed := true, recurses := true, apart := false }
def FnOverColorAlphaSaid : Prop := fnOverColorAlphaRow.holds Try.pinned (OpenSpec.ofChange fnOverColorAlphaSpec)

/-- ITS FALSE NEIGHBOUR: 'it returns false'. Refute it at one input. -/
def fnOverColorAlphaWrong : ChangeSpec := { name := "fnOverColorAlpha", fn := fun _ => fun
  | [d] => { results := [.lit (.bool false)], args := [d] }
  | _ => none }
def FnOverColorAlphaWrongFalsely : Prop := fnOverColorAlphaRow.holds Try.pinned (OpenSpec.ofChange fnOverColorAlphaWrong)

/-- 'laws.FnOverColorSame': WHATEVER THE INPUT: true; the input reads as it did. -/
def fnOverColorSameSpec : ChangeSpec := { name := "fnOverColorSame", fn := fun _ => fun
  | [d] => { results := [.lit (.bool true)], args := [d] }
  | _ => none }
def fnOverColorSameRow : OpenClaim := { program := "ytmdkfeojkjlpeaa", sum := "c25098542bc65a9938896c405ecf1ee0d4656ddef677a73e11e45eb9b91623c4", func := "loop.example/vectorraster/laws.FnOverColorSame", spec := "fnOverColorSame", unfollowed := true, recurses := true, apart := false }
def FnOverColorSameSaid : Prop := fnOverColorSameRow.holds Try.pinned (OpenSpec.ofChange fnOverColorSameSpec)

/-- ITS FALSE NEIGHBOUR: 'it returns false'. Refute it at one input. -/
def fnOverColorSameWrong : ChangeSpec := { name := "fnOverColorSame", fn := fun _ => fun
  | [d] => { results := [.lit (.bool false)], args := [d] }
  | _ => none }
def FnOverColorSameWrongFalsely : Prop := fnOverColorSameRow.holds Try.pinned (OpenSpec.ofChange fnOverColorSameWrong)

/- THE SECOND FORM. 'bulk': how many values and letters a reading holds, each counted each time it is reached (what is shared counts as often as it is met; a slice's spare places count too). A statement '..UptoSaid' is the law's where the arguments, and the package variables that the reading takes, are together of bulk at most 1048576: NARROWER than '..Said'. Prove '..Said' where nothing that the law and all that it calls make is longer than what came in: it says more and counts as full. Else prove '..UptoSaid'. A law counts once. -/
mutual
def uptoBulk {H : Type} : DataW H → Nat
  | .lit (.string bytes) => bytes.length + 1
  | .lit _ => 1
  | .nil => 1
  | .ptr d => uptoBulk d + 1
  | .slice elems spare => uptoBulkAll elems + uptoBulkAll spare + 1
  | .agg parts => uptoBulkAll parts + 1
  | .iface _ d => uptoBulk d + 1
  | .map entries => uptoBulkEntries entries + 1
  | .held _ => 1
def uptoBulkAll {H : Type} : List (DataW H) → Nat
  | [] => 0
  | d :: r => uptoBulk d + uptoBulkAll r
def uptoBulkEntries {H : Type} : List (Lit × DataW H) → Nat
  | [] => 0
  | x :: r => uptoBulkEntry x + uptoBulkEntries r
def uptoBulkEntry {H : Type} : Lit × DataW H → Nat
  | (.string bytes, d) => bytes.length + uptoBulk d + 1
  | (_, d) => uptoBulk d + 1
 end
def uptoSmall : (H : Type) → List (DataW H) → Bool := fun _ ds => decide (uptoBulkAll ds ≤ 1048576)
def OpenSpec.upto (s : _root_.Go.ChangeSpec) : _root_.Go.OpenSpec := { _root_.Go.OpenSpec.ofChange s with cond := some uptoSmall }

/-- 'laws.FnExactValidColor', WHERE WHAT IT READS IS OF BULK AT MOST 1048576: true; the input reads as it did. -/
def fnExactValidColorUptoRow : OpenClaim := { program := "ytmdkfeojkjlpeaa", sum := "c25098542bc65a9938896c405ecf1ee0d4656ddef677a73e11e45eb9b91623c4", func := "loop.example/vectorraster/laws.FnExactValidColor", spec := "fnExactValidColor", apart := false, narrowed := true }
def FnExactValidColorUptoSaid : Prop := fnExactValidColorUptoRow.holds Try.pinned (OpenSpec.upto fnExactValidColorSpec)

/-- 'laws.FnExactCoverColor', WHERE WHAT IT READS IS OF BULK AT MOST 1048576: true; the input reads as it did. -/
def fnExactCoverColorUptoRow : OpenClaim := { program := "ytmdkfeojkjlpeaa", sum := "c25098542bc65a9938896c405ecf1ee0d4656ddef677a73e11e45eb9b91623c4", func := "loop.example/vectorraster/laws.FnExactCoverColor", spec := "fnExactCoverColor", unfollowed := true, recurses := true, apart := false, narrowed := true }
def FnExactCoverColorUptoSaid : Prop := fnExactCoverColorUptoRow.holds Try.pinned (OpenSpec.upto fnExactCoverColorSpec)

/-- 'laws.FnExactMixColor', WHERE WHAT IT READS IS OF BULK AT MOST 1048576: true; the input reads as it did. -/
def fnExactMixColorUptoRow : OpenClaim := { program := "ytmdkfeojkjlpeaa", sum := "c25098542bc65a9938896c405ecf1ee0d4656ddef677a73e11e45eb9b91623c4", func := "loop.example/vectorraster/laws.FnExactMixColor", spec := "fnExactMixColor", unfollowed := true, recurses := true, apart := false, narrowed := true }
def FnExactMixColorUptoSaid : Prop := fnExactMixColorUptoRow.holds Try.pinned (OpenSpec.upto fnExactMixColorSpec)

/-- 'laws.FnExactOverColor', WHERE WHAT IT READS IS OF BULK AT MOST 1048576: true; the input reads as it did. -/
def fnExactOverColorUptoRow : OpenClaim := { program := "ytmdkfeojkjlpeaa", sum := "c25098542bc65a9938896c405ecf1ee0d4656ddef677a73e11e45eb9b91623c4", func := "loop.example/vectorraster/laws.FnExactOverColor", spec := "fnExactOverColor", unfollowed := true, recurses := true, apart := false, narrowed := true }
def FnExactOverColorUptoSaid : Prop := fnExactOverColorUptoRow.holds Try.pinned (OpenSpec.upto fnExactOverColorSpec)

/-- 'laws.FnValidColor', WHERE WHAT IT READS IS OF BULK AT MOST 1048576: true; the input reads as it did. -/
def fnValidColorUptoRow : OpenClaim := { program := "ytmdkfeojkjlpeaa", sum := "c25098542bc65a9938896c405ecf1ee0d4656ddef677a73e11e45eb9b91623c4", func := "loop.example/vectorraster/laws.FnValidColor", spec := "fnValidColor", unfollowed := true, recurses := true, apart := false, narrowed := true }
def FnValidColorUptoSaid : Prop := fnValidColorUptoRow.holds Try.pinned (OpenSpec.upto fnValidColorSpec)

/-- 'laws.FnCoverColor', WHERE WHAT IT READS IS OF BULK AT MOST 1048576: true; the input reads as it did. -/
def fnCoverColorUptoRow : OpenClaim := { program := "ytmdkfeojkjlpeaa", sum := "c25098542bc65a9938896c405ecf1ee0d4656ddef677a73e11e45eb9b91623c4", func := "loop.example/vectorraster/laws.FnCoverColor", spec := "fnCoverColor", unfollowed := true, recurses := true, apart := false, narrowed := true }
def FnCoverColorUptoSaid : Prop := fnCoverColorUptoRow.holds Try.pinned (OpenSpec.upto fnCoverColorSpec)

/-- 'laws.FnMixColor', WHERE WHAT IT READS IS OF BULK AT MOST 1048576: true; the input reads as it did. -/
def fnMixColorUptoRow : OpenClaim := { program := "ytmdkfeojkjlpeaa", sum := "c25098542bc65a9938896c405ecf1ee0d4656ddef677a73e11e45eb9b91623c4", func := "loop.example/vectorraster/laws.FnMixColor", spec := "fnMixColor", unfollowed := true, recurses := true, apart := false, narrowed := true }
def FnMixColorUptoSaid : Prop := fnMixColorUptoRow.holds Try.pinned (OpenSpec.upto fnMixColorSpec)

/-- 'laws.FnMixColorReverse', WHERE WHAT IT READS IS OF BULK AT MOST 1048576: true; the input reads as it did. -/
def fnMixColorReverseUptoRow : OpenClaim := { program := "ytmdkfeojkjlpeaa", sum := "c25098542bc65a9938896c405ecf1ee0d4656ddef677a73e11e45eb9b91623c4", func := "loop.example/vectorraster/laws.FnMixColorReverse", spec := "fnMixColorReverse", unfollowed := true, recurses := true, apart := false, narrowed := true }
def FnMixColorReverseUptoSaid : Prop := fnMixColorReverseUptoRow.holds Try.pinned (OpenSpec.upto fnMixColorReverseSpec)

/-- 'laws.FnOverColor', WHERE WHAT IT READS IS OF BULK AT MOST 1048576: true; the input reads as it did. -/
def fnOverColorUptoRow : OpenClaim := { program := "ytmdkfeojkjlpeaa", sum := "c25098542bc65a9938896c405ecf1ee0d4656ddef677a73e11e45eb9b91623c4", func := "loop.example/vectorraster/laws.FnOverColor", spec := "fnOverColor", unfollowed := true, recurses := true, apart := false, narrowed := true }
def FnOverColorUptoSaid : Prop := fnOverColorUptoRow.holds Try.pinned (OpenSpec.upto fnOverColorSpec)

/-- 'laws.FnOverColorAlpha', WHERE WHAT IT READS IS OF BULK AT MOST 1048576: true; the input reads as it did. -/
def fnOverColorAlphaUptoRow : OpenClaim := { program := "ytmdkfeojkjlpeaa", sum := "c25098542bc65a9938896c405ecf1ee0d4656ddef677a73e11e45eb9b91623c4", func := "loop.example/vectorraster/laws.FnOverColorAlpha", spec := "fnOverColorAlpha", unfollowed := true, recurses := true, apart := false, narrowed := true }
def FnOverColorAlphaUptoSaid : Prop := fnOverColorAlphaUptoRow.holds Try.pinned (OpenSpec.upto fnOverColorAlphaSpec)

/-- 'laws.FnOverColorSame', WHERE WHAT IT READS IS OF BULK AT MOST 1048576: true; the input reads as it did. -/
def fnOverColorSameUptoRow : OpenClaim := { program := "ytmdkfeojkjlpeaa", sum := "c25098542bc65a9938896c405ecf1ee0d4656ddef677a73e11e45eb9b91623c4", func := "loop.example/vectorraster/laws.FnOverColorSame", spec := "fnOverColorSame", unfollowed := true, recurses := true, apart := false, narrowed := true }
def FnOverColorSameUptoSaid : Prop := fnOverColorSameUptoRow.holds Try.pinned (OpenSpec.upto fnOverColorSameSpec)

end Rows
end Go.Proofs.Ytmdkfeojkjlpeaa
