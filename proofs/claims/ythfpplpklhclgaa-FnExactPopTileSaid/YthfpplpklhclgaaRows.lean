/-
  No cell of these rows narrows 'for every input' (looked for: loops, veiled, ifaces, maps, wideKeys, modest, calm, conditions, laid).
  DERIVED. THE GIVEN ROWS OF THIS SEAT. 5 by the template 'for every input the law returns true; each argument reads behind the call as it read before'; 0 by the template 'total and deterministic' (their statements: YthfpplpklhclgaaTotals.lean).
  GIVEN WITH THE SEED: the statements are not yours to turn. If you find one false, say at which input.
  Laid BY PROGRAM, IN A SANDBOX (cutbox-rows.mjs): the forced cells as the released guide's own fill.sh prints them over the translation 9a314edcdf2b51d6… (all of the seat's roots in one cut). By AI agents, Wed Nov 11 2026. No macro, syntax, notation, axiom, sorry.
-/
import Derived.Test.YthfpplpklhclgaaChecked
import GoSem.Claim
import GoSem.ClaimJoined
import GoSem.ClaimMapViews
import Derived.JoinedTies
import Derived.KernelRfl
namespace Go.Proofs.Ythfpplpklhclgaa
/- THE CELL 'sum', in the pinned program and in every row, IS THE sha256 OF THE DUMP (.gsa) THAT YthfpplpklhclgaaProg.lean LOADS. Nothing in Lean hashes anything: it is a label: what it is worth is what the hold of that sum in a sandbox is worth. -/
noncomputable def Try.pinned : Pinned := { name := "ythfpplpklhclgaa", sum := "9a314edcdf2b51d68a1074b1c917e9c7b9e4a2e5315a654e3bfb5fb8d1fbccdb", checked := Try.checked }
namespace Rows
def none {H : Type} : Left H := { results := [], args := [] }

/-- 'laws.FnExactValidDeque': WHATEVER THE INPUT: true; the input reads as it did. -/
def fnExactValidDequeSpec : ChangeSpec := { name := "fnExactValidDeque", fn := fun _ => fun
  | [d] => { results := [.lit (.bool true)], args := [d] }
  | _ => none }
def fnExactValidDequeRow : OpenClaim := { program := "ythfpplpklhclgaa", sum := "9a314edcdf2b51d68a1074b1c917e9c7b9e4a2e5315a654e3bfb5fb8d1fbccdb", func := "loop.example/vectorraster/laws.FnExactValidDeque", spec := "fnExactValidDeque", apart := false }
def FnExactValidDequeSaid : Prop := fnExactValidDequeRow.holds Try.pinned (OpenSpec.ofChange fnExactValidDequeSpec)

/-- ITS FALSE NEIGHBOUR: 'it returns false'. Refute it at one input. -/
def fnExactValidDequeWrong : ChangeSpec := { name := "fnExactValidDeque", fn := fun _ => fun
  | [d] => { results := [.lit (.bool false)], args := [d] }
  | _ => none }
def FnExactValidDequeWrongFalsely : Prop := fnExactValidDequeRow.holds Try.pinned (OpenSpec.ofChange fnExactValidDequeWrong)

/-- 'laws.FnExactDequeTiles': WHATEVER THE INPUT: true; the input reads as it did. -/
def fnExactDequeTilesSpec : ChangeSpec := { name := "fnExactDequeTiles", fn := fun _ => fun
  | [d] => { results := [.lit (.bool true)], args := [d] }
  | _ => none }
def fnExactDequeTilesRow : OpenClaim := { program := "ythfpplpklhclgaa", sum := "9a314edcdf2b51d68a1074b1c917e9c7b9e4a2e5315a654e3bfb5fb8d1fbccdb", func := "loop.example/vectorraster/laws.FnExactDequeTiles", spec := "fnExactDequeTiles", apart := false }
def FnExactDequeTilesSaid : Prop := fnExactDequeTilesRow.holds Try.pinned (OpenSpec.ofChange fnExactDequeTilesSpec)

/-- ITS FALSE NEIGHBOUR: 'it returns false'. Refute it at one input. -/
def fnExactDequeTilesWrong : ChangeSpec := { name := "fnExactDequeTiles", fn := fun _ => fun
  | [d] => { results := [.lit (.bool false)], args := [d] }
  | _ => none }
def FnExactDequeTilesWrongFalsely : Prop := fnExactDequeTilesRow.holds Try.pinned (OpenSpec.ofChange fnExactDequeTilesWrong)

/-- 'laws.FnExactPushTile': WHATEVER THE INPUT: true; the input reads as it did. -/
def fnExactPushTileSpec : ChangeSpec := { name := "fnExactPushTile", fn := fun _ => fun
  | [d1, d2] => { results := [.lit (.bool true)], args := [d1, d2] }
  | _ => none }
def fnExactPushTileRow : OpenClaim := { program := "ythfpplpklhclgaa", sum := "9a314edcdf2b51d68a1074b1c917e9c7b9e4a2e5315a654e3bfb5fb8d1fbccdb", func := "loop.example/vectorraster/laws.FnExactPushTile", spec := "fnExactPushTile", apart := false }
def FnExactPushTileSaid : Prop := fnExactPushTileRow.holds Try.pinned (OpenSpec.ofChange fnExactPushTileSpec)

/-- ITS FALSE NEIGHBOUR: 'it returns false'. Refute it at one input. -/
def fnExactPushTileWrong : ChangeSpec := { name := "fnExactPushTile", fn := fun _ => fun
  | [d1, d2] => { results := [.lit (.bool false)], args := [d1, d2] }
  | _ => none }
def FnExactPushTileWrongFalsely : Prop := fnExactPushTileRow.holds Try.pinned (OpenSpec.ofChange fnExactPushTileWrong)

/-- 'laws.FnExactStealTile': WHATEVER THE INPUT: true; the input reads as it did. -/
def fnExactStealTileSpec : ChangeSpec := { name := "fnExactStealTile", fn := fun _ => fun
  | [d] => { results := [.lit (.bool true)], args := [d] }
  | _ => none }
def fnExactStealTileRow : OpenClaim := { program := "ythfpplpklhclgaa", sum := "9a314edcdf2b51d68a1074b1c917e9c7b9e4a2e5315a654e3bfb5fb8d1fbccdb", func := "loop.example/vectorraster/laws.FnExactStealTile", spec := "fnExactStealTile", apart := false }
def FnExactStealTileSaid : Prop := fnExactStealTileRow.holds Try.pinned (OpenSpec.ofChange fnExactStealTileSpec)

/-- ITS FALSE NEIGHBOUR: 'it returns false'. Refute it at one input. -/
def fnExactStealTileWrong : ChangeSpec := { name := "fnExactStealTile", fn := fun _ => fun
  | [d] => { results := [.lit (.bool false)], args := [d] }
  | _ => none }
def FnExactStealTileWrongFalsely : Prop := fnExactStealTileRow.holds Try.pinned (OpenSpec.ofChange fnExactStealTileWrong)

/-- 'laws.FnExactPopTile': WHATEVER THE INPUT: true; the input reads as it did. -/
def fnExactPopTileSpec : ChangeSpec := { name := "fnExactPopTile", fn := fun _ => fun
  | [d] => { results := [.lit (.bool true)], args := [d] }
  | _ => none }
def fnExactPopTileRow : OpenClaim := { program := "ythfpplpklhclgaa", sum := "9a314edcdf2b51d68a1074b1c917e9c7b9e4a2e5315a654e3bfb5fb8d1fbccdb", func := "loop.example/vectorraster/laws.FnExactPopTile", spec := "fnExactPopTile", apart := false }
def FnExactPopTileSaid : Prop := fnExactPopTileRow.holds Try.pinned (OpenSpec.ofChange fnExactPopTileSpec)

/-- ITS FALSE NEIGHBOUR: 'it returns false'. Refute it at one input. -/
def fnExactPopTileWrong : ChangeSpec := { name := "fnExactPopTile", fn := fun _ => fun
  | [d] => { results := [.lit (.bool false)], args := [d] }
  | _ => none }
def FnExactPopTileWrongFalsely : Prop := fnExactPopTileRow.holds Try.pinned (OpenSpec.ofChange fnExactPopTileWrong)

/- THE SECOND FORM. 'bulk': how many values and letters a reading holds, each counted each time it is reached (what is shared counts as often as it is met; a slice's spare places count too). A statement '..UptoSaid' is the law's where the arguments, and the package variables that the reading takes, are together of bulk at most 1048576: NARROWER than '..Said'. Prove '..Said' where nothing that the law and all that it calls make is longer than what came in: it says more and counts as full. Else prove '..UptoSaid'. A law counts once. -/
mutual
def uptoBulk {H : Type} : DataW H → Nat
  | .lit (.string bytes) => bytes.length + 1
  | .lit _ => 1
  | .nil => 1
  | .ptr d => uptoBulk d + 1
  | .slice elems spare => uptoBulkAll elems + uptoBulkAll spare + 1
  | .agg parts => uptoBulkAll parts + 1
  | .iface _ d => uptoBulk d + 1
  | .map entries => uptoBulkEntries entries + 1
  | .held _ => 1
def uptoBulkAll {H : Type} : List (DataW H) → Nat
  | [] => 0
  | d :: r => uptoBulk d + uptoBulkAll r
def uptoBulkEntries {H : Type} : List (Lit × DataW H) → Nat
  | [] => 0
  | x :: r => uptoBulkEntry x + uptoBulkEntries r
def uptoBulkEntry {H : Type} : Lit × DataW H → Nat
  | (.string bytes, d) => bytes.length + uptoBulk d + 1
  | (_, d) => uptoBulk d + 1
 end
def uptoSmall : (H : Type) → List (DataW H) → Bool := fun _ ds => decide (uptoBulkAll ds ≤ 1048576)
def OpenSpec.upto (s : _root_.Go.ChangeSpec) : _root_.Go.OpenSpec := { _root_.Go.OpenSpec.ofChange s with cond := some uptoSmall }

/-- 'laws.FnExactValidDeque', WHERE WHAT IT READS IS OF BULK AT MOST 1048576: true; the input reads as it did. -/
def fnExactValidDequeUptoRow : OpenClaim := { program := "ythfpplpklhclgaa", sum := "9a314edcdf2b51d68a1074b1c917e9c7b9e4a2e5315a654e3bfb5fb8d1fbccdb", func := "loop.example/vectorraster/laws.FnExactValidDeque", spec := "fnExactValidDeque", apart := false, narrowed := true }
def FnExactValidDequeUptoSaid : Prop := fnExactValidDequeUptoRow.holds Try.pinned (OpenSpec.upto fnExactValidDequeSpec)

/-- 'laws.FnExactDequeTiles', WHERE WHAT IT READS IS OF BULK AT MOST 1048576: true; the input reads as it did. -/
def fnExactDequeTilesUptoRow : OpenClaim := { program := "ythfpplpklhclgaa", sum := "9a314edcdf2b51d68a1074b1c917e9c7b9e4a2e5315a654e3bfb5fb8d1fbccdb", func := "loop.example/vectorraster/laws.FnExactDequeTiles", spec := "fnExactDequeTiles", apart := false, narrowed := true }
def FnExactDequeTilesUptoSaid : Prop := fnExactDequeTilesUptoRow.holds Try.pinned (OpenSpec.upto fnExactDequeTilesSpec)

/-- 'laws.FnExactPushTile', WHERE WHAT IT READS IS OF BULK AT MOST 1048576: true; the input reads as it did. -/
def fnExactPushTileUptoRow : OpenClaim := { program := "ythfpplpklhclgaa", sum := "9a314edcdf2b51d68a1074b1c917e9c7b9e4a2e5315a654e3bfb5fb8d1fbccdb", func := "loop.example/vectorraster/laws.FnExactPushTile", spec := "fnExactPushTile", apart := false, narrowed := true }
def FnExactPushTileUptoSaid : Prop := fnExactPushTileUptoRow.holds Try.pinned (OpenSpec.upto fnExactPushTileSpec)

/-- 'laws.FnExactStealTile', WHERE WHAT IT READS IS OF BULK AT MOST 1048576: true; the input reads as it did. -/
def fnExactStealTileUptoRow : OpenClaim := { program := "ythfpplpklhclgaa", sum := "9a314edcdf2b51d68a1074b1c917e9c7b9e4a2e5315a654e3bfb5fb8d1fbccdb", func := "loop.example/vectorraster/laws.FnExactStealTile", spec := "fnExactStealTile", apart := false, narrowed := true }
def FnExactStealTileUptoSaid : Prop := fnExactStealTileUptoRow.holds Try.pinned (OpenSpec.upto fnExactStealTileSpec)

/-- 'laws.FnExactPopTile', WHERE WHAT IT READS IS OF BULK AT MOST 1048576: true; the input reads as it did. -/
def fnExactPopTileUptoRow : OpenClaim := { program := "ythfpplpklhclgaa", sum := "9a314edcdf2b51d68a1074b1c917e9c7b9e4a2e5315a654e3bfb5fb8d1fbccdb", func := "loop.example/vectorraster/laws.FnExactPopTile", spec := "fnExactPopTile", apart := false, narrowed := true }
def FnExactPopTileUptoSaid : Prop := fnExactPopTileUptoRow.holds Try.pinned (OpenSpec.upto fnExactPopTileSpec)

end Rows
end Go.Proofs.Ythfpplpklhclgaa
