/-
  No cell of these rows narrows 'for every input' (looked for: loops, veiled, ifaces, maps, wideKeys, modest, calm, conditions, laid).
  DERIVED. THE GIVEN ROWS OF THIS SEAT. 7 by the template 'for every input the law returns true; each argument reads behind the call as it read before'; 0 by the template 'total and deterministic' (their statements: YtjfbbieacpnpkaaTotals.lean).
  GIVEN WITH THE SEED: the statements are not yours to turn. If you find one false, say at which input.
  Laid BY PROGRAM, IN A SANDBOX (cutbox-rows.mjs): the forced cells as the released guide's own fill.sh prints them over the translation e737924d23989bf0… (all of the seat's roots in one cut). By AI agents, Wed Nov 11 2026. No macro, syntax, notation, axiom, sorry.
-/
import Derived.Test.YtjfbbieacpnpkaaChecked
import GoSem.Claim
import GoSem.ClaimJoined
import GoSem.ClaimMapViews
import Derived.JoinedTies
import Derived.KernelRfl
namespace Go.Proofs.Ytjfbbieacpnpkaa
/- THE CELL 'sum', in the pinned program and in every row, IS THE sha256 OF THE DUMP (.gsa) THAT YtjfbbieacpnpkaaProg.lean LOADS. Nothing in Lean hashes anything: it is a label: what it is worth is what the hold of that sum in a sandbox is worth. -/
noncomputable def Try.pinned : Pinned := { name := "ytjfbbieacpnpkaa", sum := "e737924d23989bf013d726ab6f5b5af98ecfdad5570eb09fb7f8e044ecf771bd", checked := Try.checked }
namespace Rows
def none {H : Type} : Left H := { results := [], args := [] }

/-- 'laws.FnExactSpanCover': WHATEVER THE INPUT: true; the input reads as it did. -/
def fnExactSpanCoverSpec : ChangeSpec := { name := "fnExactSpanCover", fn := fun _ => fun
  | [d1, d2] => { results := [.lit (.bool true)], args := [d1, d2] }
  | _ => none }
def fnExactSpanCoverRow : OpenClaim := { program := "ytjfbbieacpnpkaa", sum := "e737924d23989bf013d726ab6f5b5af98ecfdad5570eb09fb7f8e044ecf771bd", func := "loop.example/vectorraster/laws.FnExactSpanCover", spec := "fnExactSpanCover", apart := false }
def FnExactSpanCoverSaid : Prop := fnExactSpanCoverRow.holds Try.pinned (OpenSpec.ofChange fnExactSpanCoverSpec)

/-- ITS FALSE NEIGHBOUR: 'it returns false'. Refute it at one input. -/
def fnExactSpanCoverWrong : ChangeSpec := { name := "fnExactSpanCover", fn := fun _ => fun
  | [d1, d2] => { results := [.lit (.bool false)], args := [d1, d2] }
  | _ => none }
def FnExactSpanCoverWrongFalsely : Prop := fnExactSpanCoverRow.holds Try.pinned (OpenSpec.ofChange fnExactSpanCoverWrong)

/-- 'laws.FnExactInvertMask': WHATEVER THE INPUT: true; the input reads as it did. -/
def fnExactInvertMaskSpec : ChangeSpec := { name := "fnExactInvertMask", fn := fun _ => fun
  | [d] => { results := [.lit (.bool true)], args := [d] }
  | _ => none }
def fnExactInvertMaskRow : OpenClaim := { program := "ytjfbbieacpnpkaa", sum := "e737924d23989bf013d726ab6f5b5af98ecfdad5570eb09fb7f8e044ecf771bd", func := "loop.example/vectorraster/laws.FnExactInvertMask", spec := "fnExactInvertMask", unfollowed := true, recurses := true, apart := false }
def FnExactInvertMaskSaid : Prop := fnExactInvertMaskRow.holds Try.pinned (OpenSpec.ofChange fnExactInvertMaskSpec)

/-- ITS FALSE NEIGHBOUR: 'it returns false'. Refute it at one input. -/
def fnExactInvertMaskWrong : ChangeSpec := { name := "fnExactInvertMask", fn := fun _ => fun
  | [d] => { results := [.lit (.bool false)], args := [d] }
  | _ => none }
def FnExactInvertMaskWrongFalsely : Prop := fnExactInvertMaskRow.holds Try.pinned (OpenSpec.ofChange fnExactInvertMaskWrong)

/-- 'laws.FnExactCutMask': WHATEVER THE INPUT: true; the input reads as it did. -/
def fnExactCutMaskSpec : ChangeSpec := { name := "fnExactCutMask", fn := fun _ => fun
  | [d1, d2] => { results := [.lit (.bool true)], args := [d1, d2] }
  | _ => none }
def fnExactCutMaskRow : OpenClaim := { program := "ytjfbbieacpnpkaa", sum := "e737924d23989bf013d726ab6f5b5af98ecfdad5570eb09fb7f8e044ecf771bd", func := "loop.example/vectorraster/laws.FnExactCutMask", spec := "fnExactCutMask", unfollowed := true, recurses := true, apart := false }
def FnExactCutMaskSaid : Prop := fnExactCutMaskRow.holds Try.pinned (OpenSpec.ofChange fnExactCutMaskSpec)

/-- ITS FALSE NEIGHBOUR: 'it returns false'. Refute it at one input. -/
def fnExactCutMaskWrong : ChangeSpec := { name := "fnExactCutMask", fn := fun _ => fun
  | [d1, d2] => { results := [.lit (.bool false)], args := [d1, d2] }
  | _ => none }
def FnExactCutMaskWrongFalsely : Prop := fnExactCutMaskRow.holds Try.pinned (OpenSpec.ofChange fnExactCutMaskWrong)

/-- 'laws.FnInvertMask': WHATEVER THE INPUT: true; the input reads as it did. -/
def fnInvertMaskSpec : ChangeSpec := { name := "fnInvertMask", fn := fun _ => fun
  | [d] => { results := [.lit (.bool true)], args := [d] }
  | _ => none }
def fnInvertMaskRow : OpenClaim := { program := "ytjfbbieacpnpkaa", sum := "e737924d23989bf013d726ab6f5b5af98ecfdad5570eb09fb7f8e044ecf771bd", func := "loop.example/vectorraster/laws.FnInvertMask", spec := "fnInvertMask", unfollowed := true, recurses := true, apart := false }
def FnInvertMaskSaid : Prop := fnInvertMaskRow.holds Try.pinned (OpenSpec.ofChange fnInvertMaskSpec)

/-- ITS FALSE NEIGHBOUR: 'it returns false'. Refute it at one input. -/
def fnInvertMaskWrong : ChangeSpec := { name := "fnInvertMask", fn := fun _ => fun
  | [d] => { results := [.lit (.bool false)], args := [d] }
  | _ => none }
def FnInvertMaskWrongFalsely : Prop := fnInvertMaskRow.holds Try.pinned (OpenSpec.ofChange fnInvertMaskWrong)

/-- 'laws.FnCutMask': WHATEVER THE INPUT: true; the input reads as it did. -/
def fnCutMaskSpec : ChangeSpec := { name := "fnCutMask", fn := fun _ => fun
  | [d] => { results := [.lit (.bool true)], args := [d] }
  | _ => none }
def fnCutMaskRow : OpenClaim := { program := "ytjfbbieacpnpkaa", sum := "e737924d23989bf013d726ab6f5b5af98ecfdad5570eb09fb7f8e044ecf771bd", func := "loop.example/vectorraster/laws.FnCutMask", spec := "fnCutMask", unfollowed := true, recurses := true, apart := false }
def FnCutMaskSaid : Prop := fnCutMaskRow.holds Try.pinned (OpenSpec.ofChange fnCutMaskSpec)

/-- ITS FALSE NEIGHBOUR: 'it returns false'. Refute it at one input. -/
def fnCutMaskWrong : ChangeSpec := { name := "fnCutMask", fn := fun _ => fun
  | [d] => { results := [.lit (.bool false)], args := [d] }
  | _ => none }
def FnCutMaskWrongFalsely : Prop := fnCutMaskRow.holds Try.pinned (OpenSpec.ofChange fnCutMaskWrong)

/-- 'laws.FnCutMaskInvert': WHATEVER THE INPUT: true; the input reads as it did. -/
def fnCutMaskInvertSpec : ChangeSpec := { name := "fnCutMaskInvert", fn := fun _ => fun
  | [d] => { results := [.lit (.bool true)], args := [d] }
  | _ => none }
def fnCutMaskInvertRow : OpenClaim := { program := "ytjfbbieacpnpkaa", sum := "e737924d23989bf013d726ab6f5b5af98ecfdad5570eb09fb7f8e044ecf771bd", func := "loop.example/vectorraster/laws.FnCutMaskInvert", spec := "fnCutMaskInvert", unfollowed := true, recurses := true, apart := false }
def FnCutMaskInvertSaid : Prop := fnCutMaskInvertRow.holds Try.pinned (OpenSpec.ofChange fnCutMaskInvertSpec)

/-- ITS FALSE NEIGHBOUR: 'it returns false'. Refute it at one input. -/
def fnCutMaskInvertWrong : ChangeSpec := { name := "fnCutMaskInvert", fn := fun _ => fun
  | [d] => { results := [.lit (.bool false)], args := [d] }
  | _ => none }
def FnCutMaskInvertWrongFalsely : Prop := fnCutMaskInvertRow.holds Try.pinned (OpenSpec.ofChange fnCutMaskInvertWrong)

/-- 'laws.FnExactBlankFrame': WHATEVER THE INPUT: true; the input reads as it did. -/
def fnExactBlankFrameSpec : ChangeSpec := { name := "fnExactBlankFrame", fn := fun _ => fun
  | [d1, d2] => { results := [.lit (.bool true)], args := [d1, d2] }
  | _ => none }
def fnExactBlankFrameRow : OpenClaim := { program := "ytjfbbieacpnpkaa", sum := "e737924d23989bf013d726ab6f5b5af98ecfdad5570eb09fb7f8e044ecf771bd", func := "loop.example/vectorraster/laws.FnExactBlankFrame", spec := "fnExactBlankFrame", apart := false }
def FnExactBlankFrameSaid : Prop := fnExactBlankFrameRow.holds Try.pinned (OpenSpec.ofChange fnExactBlankFrameSpec)

/-- ITS FALSE NEIGHBOUR: 'it returns false'. Refute it at one input. -/
def fnExactBlankFrameWrong : ChangeSpec := { name := "fnExactBlankFrame", fn := fun _ => fun
  | [d1, d2] => { results := [.lit (.bool false)], args := [d1, d2] }
  | _ => none }
def FnExactBlankFrameWrongFalsely : Prop := fnExactBlankFrameRow.holds Try.pinned (OpenSpec.ofChange fnExactBlankFrameWrong)

/- THE SECOND FORM. 'bulk': how many values and letters a reading holds, each counted each time it is reached (what is shared counts as often as it is met; a slice's spare places count too). A statement '..UptoSaid' is the law's where the arguments, and the package variables that the reading takes, are together of bulk at most 1048576: NARROWER than '..Said'. Prove '..Said' where nothing that the law and all that it calls make is longer than what came in: it says more and counts as full. Else prove '..UptoSaid'. A law counts once. -/
mutual
def uptoBulk {H : Type} : DataW H → Nat
  | .lit (.string bytes) => bytes.length + 1
  | .lit _ => 1
  | .nil => 1
  | .ptr d => uptoBulk d + 1
  | .slice elems spare => uptoBulkAll elems + uptoBulkAll spare + 1
  | .agg parts => uptoBulkAll parts + 1
  | .iface _ d => uptoBulk d + 1
  | .map entries => uptoBulkEntries entries + 1
  | .held _ => 1
def uptoBulkAll {H : Type} : List (DataW H) → Nat
  | [] => 0
  | d :: r => uptoBulk d + uptoBulkAll r
def uptoBulkEntries {H : Type} : List (Lit × DataW H) → Nat
  | [] => 0
  | x :: r => uptoBulkEntry x + uptoBulkEntries r
def uptoBulkEntry {H : Type} : Lit × DataW H → Nat
  | (.string bytes, d) => bytes.length + uptoBulk d + 1
  | (_, d) => uptoBulk d + 1
 end
def uptoSmall : (H : Type) → List (DataW H) → Bool := fun _ ds => decide (uptoBulkAll ds ≤ 1048576)
def OpenSpec.upto (s : _root_.Go.ChangeSpec) : _root_.Go.OpenSpec := { _root_.Go.OpenSpec.ofChange s with cond := some uptoSmall }

/-- 'laws.FnExactSpanCover', WHERE WHAT IT READS IS OF BULK AT MOST 1048576: true; the input reads as it did. -/
def fnExactSpanCoverUptoRow : OpenClaim := { program := "ytjfbbieacpnpkaa", sum := "e737924d23989bf013d726ab6f5b5af98ecfdad5570eb09fb7f8e044ecf771bd", func := "loop.example/vectorraster/laws.FnExactSpanCover", spec := "fnExactSpanCover", apart := false, narrowed := true }
def FnExactSpanCoverUptoSaid : Prop := fnExactSpanCoverUptoRow.holds Try.pinned (OpenSpec.upto fnExactSpanCoverSpec)

/-- 'laws.FnExactInvertMask', WHERE WHAT IT READS IS OF BULK AT MOST 1048576: true; the input reads as it did. -/
def fnExactInvertMaskUptoRow : OpenClaim := { program := "ytjfbbieacpnpkaa", sum := "e737924d23989bf013d726ab6f5b5af98ecfdad5570eb09fb7f8e044ecf771bd", func := "loop.example/vectorraster/laws.FnExactInvertMask", spec := "fnExactInvertMask", unfollowed := true, recurses := true, apart := false, narrowed := true }
def FnExactInvertMaskUptoSaid : Prop := fnExactInvertMaskUptoRow.holds Try.pinned (OpenSpec.upto fnExactInvertMaskSpec)

/-- 'laws.FnExactCutMask', WHERE WHAT IT READS IS OF BULK AT MOST 1048576: true; the input reads as it did. -/
def fnExactCutMaskUptoRow : OpenClaim := { program := "ytjfbbieacpnpkaa", sum := "e737924d23989bf013d726ab6f5b5af98ecfdad5570eb09fb7f8e044ecf771bd", func := "loop.example/vectorraster/laws.FnExactCutMask", spec := "fnExactCutMask", unfollowed := true, recurses := true, apart := false, narrowed := true }
def FnExactCutMaskUptoSaid : Prop := fnExactCutMaskUptoRow.holds Try.pinned (OpenSpec.upto fnExactCutMaskSpec)

/-- 'laws.FnInvertMask', WHERE WHAT IT READS IS OF BULK AT MOST 1048576: true; the input reads as it did. -/
def fnInvertMaskUptoRow : OpenClaim := { program := "ytjfbbieacpnpkaa", sum := "e737924d23989bf013d726ab6f5b5af98ecfdad5570eb09fb7f8e044ecf771bd", func := "loop.example/vectorraster/laws.FnInvertMask", spec := "fnInvertMask", unfollowed := true, recurses := true, apart := false, narrowed := true }
def FnInvertMaskUptoSaid : Prop := fnInvertMaskUptoRow.holds Try.pinned (OpenSpec.upto fnInvertMaskSpec)

/-- 'laws.FnCutMask', WHERE WHAT IT READS IS OF BULK AT MOST 1048576: true; the input reads as it did. -/
def fnCutMaskUptoRow : OpenClaim := { program := "ytjfbbieacpnpkaa", sum := "e737924d23989bf013d726ab6f5b5af98ecfdad5570eb09fb7f8e044ecf771bd", func := "loop.example/vectorraster/laws.FnCutMask", spec := "fnCutMask", unfollowed := true, recurses := true, apart := false, narrowed := true }
def FnCutMaskUptoSaid : Prop := fnCutMaskUptoRow.holds Try.pinned (OpenSpec.upto fnCutMaskSpec)

/-- 'laws.FnCutMaskInvert', WHERE WHAT IT READS IS OF BULK AT MOST 1048576: true; the input reads as it did. -/
def fnCutMaskInvertUptoRow : OpenClaim := { program := "ytjfbbieacpnpkaa", sum := "e737924d23989bf013d726ab6f5b5af98ecfdad5570eb09fb7f8e044ecf771bd", func := "loop.example/vectorraster/laws.FnCutMaskInvert", spec := "fnCutMaskInvert", unfollowed := true, recurses := true, apart := false, narrowed := true }
def FnCutMaskInvertUptoSaid : Prop := fnCutMaskInvertUptoRow.holds Try.pinned (OpenSpec.upto fnCutMaskInvertSpec)

/-- 'laws.FnExactBlankFrame', WHERE WHAT IT READS IS OF BULK AT MOST 1048576: true; the input reads as it did. -/
def fnExactBlankFrameUptoRow : OpenClaim := { program := "ytjfbbieacpnpkaa", sum := "e737924d23989bf013d726ab6f5b5af98ecfdad5570eb09fb7f8e044ecf771bd", func := "loop.example/vectorraster/laws.FnExactBlankFrame", spec := "fnExactBlankFrame", apart := false, narrowed := true }
def FnExactBlankFrameUptoSaid : Prop := fnExactBlankFrameUptoRow.holds Try.pinned (OpenSpec.upto fnExactBlankFrameSpec)

end Rows
end Go.Proofs.Ytjfbbieacpnpkaa
