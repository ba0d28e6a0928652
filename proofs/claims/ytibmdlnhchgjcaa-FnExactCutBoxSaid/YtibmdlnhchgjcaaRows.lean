/-
  No cell of these rows narrows 'for every input' (looked for: loops, veiled, ifaces, maps, wideKeys, modest, calm, conditions, laid).
  DERIVED. THE GIVEN ROWS OF THIS SEAT. 12 by the template 'for every input the law returns true; each argument reads behind the call as it read before'; 0 by the template 'total and deterministic' (their statements: YtibmdlnhchgjcaaTotals.lean).
  GIVEN WITH THE SEED: the statements are not yours to turn. If you find one false, say at which input.
  Laid BY PROGRAM, IN A SANDBOX (cutbox-rows.mjs): the forced cells as the released guide's own fill.sh prints them over the translation f6739a2a03cd1f99… (all of the seat's roots in one cut). By AI agents, Wed Nov 11 2026. No macro, syntax, notation, axiom, sorry.
-/
import Derived.Test.YtibmdlnhchgjcaaChecked
import GoSem.Claim
import GoSem.ClaimJoined
import GoSem.ClaimMapViews
import Derived.JoinedTies
import Derived.KernelRfl
namespace Go.Proofs.Ytibmdlnhchgjcaa
/- THE CELL 'sum', in the pinned program and in every row, IS THE sha256 OF THE DUMP (.gsa) THAT YtibmdlnhchgjcaaProg.lean LOADS. Nothing in Lean hashes anything: it is a label: what it is worth is what the hold of that sum in a sandbox is worth. -/
noncomputable def Try.pinned : Pinned := { name := "ytibmdlnhchgjcaa", sum := "f6739a2a03cd1f99184d36cdb0ceb248ee529726adee61009689ae6f95193c10", checked := Try.checked }
namespace Rows
def none {H : Type} : Left H := { results := [], args := [] }

/-- 'laws.FnExactConstants': WHATEVER THE INPUT: true; the input reads as it did. -/
def fnExactConstantsSpec : ChangeSpec := { name := "fnExactConstants", fn := fun _ => fun
  | [] => { results := [.lit (.bool true)], args := [] }
  | _ => none }
def fnExactConstantsRow : OpenClaim := { program := "ytibmdlnhchgjcaa", sum := "f6739a2a03cd1f99184d36cdb0ceb248ee529726adee61009689ae6f95193c10", func := "loop.example/vectorraster/laws.FnExactConstants", spec := "fnExactConstants", apart := false }
def FnExactConstantsSaid : Prop := fnExactConstantsRow.holds Try.pinned (OpenSpec.ofChange fnExactConstantsSpec)

/-- ITS FALSE NEIGHBOUR: 'it returns false'. Refute it at one input. -/
def fnExactConstantsWrong : ChangeSpec := { name := "fnExactConstants", fn := fun _ => fun
  | [] => { results := [.lit (.bool false)], args := [] }
  | _ => none }
def FnExactConstantsWrongFalsely : Prop := fnExactConstantsRow.holds Try.pinned (OpenSpec.ofChange fnExactConstantsWrong)

/-- 'laws.FnExactTileCount': WHATEVER THE INPUT: true; the input reads as it did. -/
def fnExactTileCountSpec : ChangeSpec := { name := "fnExactTileCount", fn := fun _ => fun
  | [d1, d2] => { results := [.lit (.bool true)], args := [d1, d2] }
  | _ => none }
def fnExactTileCountRow : OpenClaim := { program := "ytibmdlnhchgjcaa", sum := "f6739a2a03cd1f99184d36cdb0ceb248ee529726adee61009689ae6f95193c10", func := "loop.example/vectorraster/laws.FnExactTileCount", spec := "fnExactTileCount", apart := false }
def FnExactTileCountSaid : Prop := fnExactTileCountRow.holds Try.pinned (OpenSpec.ofChange fnExactTileCountSpec)

/-- ITS FALSE NEIGHBOUR: 'it returns false'. Refute it at one input. -/
def fnExactTileCountWrong : ChangeSpec := { name := "fnExactTileCount", fn := fun _ => fun
  | [d1, d2] => { results := [.lit (.bool false)], args := [d1, d2] }
  | _ => none }
def FnExactTileCountWrongFalsely : Prop := fnExactTileCountRow.holds Try.pinned (OpenSpec.ofChange fnExactTileCountWrong)

/-- 'laws.FnExactBoxHas': WHATEVER THE INPUT: true; the input reads as it did. -/
def fnExactBoxHasSpec : ChangeSpec := { name := "fnExactBoxHas", fn := fun _ => fun
  | [d1, d2, d3] => { results := [.lit (.bool true)], args := [d1, d2, d3] }
  | _ => none }
def fnExactBoxHasRow : OpenClaim := { program := "ytibmdlnhchgjcaa", sum := "f6739a2a03cd1f99184d36cdb0ceb248ee529726adee61009689ae6f95193c10", func := "loop.example/vectorraster/laws.FnExactBoxHas", spec := "fnExactBoxHas", apart := false }
def FnExactBoxHasSaid : Prop := fnExactBoxHasRow.holds Try.pinned (OpenSpec.ofChange fnExactBoxHasSpec)

/-- ITS FALSE NEIGHBOUR: 'it returns false'. Refute it at one input. -/
def fnExactBoxHasWrong : ChangeSpec := { name := "fnExactBoxHas", fn := fun _ => fun
  | [d1, d2, d3] => { results := [.lit (.bool false)], args := [d1, d2, d3] }
  | _ => none }
def FnExactBoxHasWrongFalsely : Prop := fnExactBoxHasRow.holds Try.pinned (OpenSpec.ofChange fnExactBoxHasWrong)

/-- 'laws.FnExactFloorUnit': WHATEVER THE INPUT: true; the input reads as it did. -/
def fnExactFloorUnitSpec : ChangeSpec := { name := "fnExactFloorUnit", fn := fun _ => fun
  | [d] => { results := [.lit (.bool true)], args := [d] }
  | _ => none }
def fnExactFloorUnitRow : OpenClaim := { program := "ytibmdlnhchgjcaa", sum := "f6739a2a03cd1f99184d36cdb0ceb248ee529726adee61009689ae6f95193c10", func := "loop.example/vectorraster/laws.FnExactFloorUnit", spec := "fnExactFloorUnit", apart := false }
def FnExactFloorUnitSaid : Prop := fnExactFloorUnitRow.holds Try.pinned (OpenSpec.ofChange fnExactFloorUnitSpec)

/-- ITS FALSE NEIGHBOUR: 'it returns false'. Refute it at one input. -/
def fnExactFloorUnitWrong : ChangeSpec := { name := "fnExactFloorUnit", fn := fun _ => fun
  | [d] => { results := [.lit (.bool false)], args := [d] }
  | _ => none }
def FnExactFloorUnitWrongFalsely : Prop := fnExactFloorUnitRow.holds Try.pinned (OpenSpec.ofChange fnExactFloorUnitWrong)

/-- 'laws.FnExactRootOf': WHATEVER THE INPUT: true; the input reads as it did. -/
def fnExactRootOfSpec : ChangeSpec := { name := "fnExactRootOf", fn := fun _ => fun
  | [d] => { results := [.lit (.bool true)], args := [d] }
  | _ => none }
def fnExactRootOfRow : OpenClaim := { program := "ytibmdlnhchgjcaa", sum := "f6739a2a03cd1f99184d36cdb0ceb248ee529726adee61009689ae6f95193c10", func := "loop.example/vectorraster/laws.FnExactRootOf", spec := "fnExactRootOf", apart := false }
def FnExactRootOfSaid : Prop := fnExactRootOfRow.holds Try.pinned (OpenSpec.ofChange fnExactRootOfSpec)

/-- ITS FALSE NEIGHBOUR: 'it returns false'. Refute it at one input. -/
def fnExactRootOfWrong : ChangeSpec := { name := "fnExactRootOf", fn := fun _ => fun
  | [d] => { results := [.lit (.bool false)], args := [d] }
  | _ => none }
def FnExactRootOfWrongFalsely : Prop := fnExactRootOfRow.holds Try.pinned (OpenSpec.ofChange fnExactRootOfWrong)

/-- 'laws.FnExactMulFixed': WHATEVER THE INPUT: true; the input reads as it did. -/
def fnExactMulFixedSpec : ChangeSpec := { name := "fnExactMulFixed", fn := fun _ => fun
  | [d1, d2] => { results := [.lit (.bool true)], args := [d1, d2] }
  | _ => none }
def fnExactMulFixedRow : OpenClaim := { program := "ytibmdlnhchgjcaa", sum := "f6739a2a03cd1f99184d36cdb0ceb248ee529726adee61009689ae6f95193c10", func := "loop.example/vectorraster/laws.FnExactMulFixed", spec := "fnExactMulFixed", apart := false }
def FnExactMulFixedSaid : Prop := fnExactMulFixedRow.holds Try.pinned (OpenSpec.ofChange fnExactMulFixedSpec)

/-- ITS FALSE NEIGHBOUR: 'it returns false'. Refute it at one input. -/
def fnExactMulFixedWrong : ChangeSpec := { name := "fnExactMulFixed", fn := fun _ => fun
  | [d1, d2] => { results := [.lit (.bool false)], args := [d1, d2] }
  | _ => none }
def FnExactMulFixedWrongFalsely : Prop := fnExactMulFixedRow.holds Try.pinned (OpenSpec.ofChange fnExactMulFixedWrong)

/-- 'laws.FnExactRoundUnit': WHATEVER THE INPUT: true; the input reads as it did. -/
def fnExactRoundUnitSpec : ChangeSpec := { name := "fnExactRoundUnit", fn := fun _ => fun
  | [d] => { results := [.lit (.bool true)], args := [d] }
  | _ => none }
def fnExactRoundUnitRow : OpenClaim := { program := "ytibmdlnhchgjcaa", sum := "f6739a2a03cd1f99184d36cdb0ceb248ee529726adee61009689ae6f95193c10", func := "loop.example/vectorraster/laws.FnExactRoundUnit", spec := "fnExactRoundUnit", apart := false }
def FnExactRoundUnitSaid : Prop := fnExactRoundUnitRow.holds Try.pinned (OpenSpec.ofChange fnExactRoundUnitSpec)

/-- ITS FALSE NEIGHBOUR: 'it returns false'. Refute it at one input. -/
def fnExactRoundUnitWrong : ChangeSpec := { name := "fnExactRoundUnit", fn := fun _ => fun
  | [d] => { results := [.lit (.bool false)], args := [d] }
  | _ => none }
def FnExactRoundUnitWrongFalsely : Prop := fnExactRoundUnitRow.holds Try.pinned (OpenSpec.ofChange fnExactRoundUnitWrong)

/-- 'laws.FnExactLineLength': WHATEVER THE INPUT: true; the input reads as it did. -/
def fnExactLineLengthSpec : ChangeSpec := { name := "fnExactLineLength", fn := fun _ => fun
  | [d1, d2] => { results := [.lit (.bool true)], args := [d1, d2] }
  | _ => none }
def fnExactLineLengthRow : OpenClaim := { program := "ytibmdlnhchgjcaa", sum := "f6739a2a03cd1f99184d36cdb0ceb248ee529726adee61009689ae6f95193c10", func := "loop.example/vectorraster/laws.FnExactLineLength", spec := "fnExactLineLength", apart := false }
def FnExactLineLengthSaid : Prop := fnExactLineLengthRow.holds Try.pinned (OpenSpec.ofChange fnExactLineLengthSpec)

/-- ITS FALSE NEIGHBOUR: 'it returns false'. Refute it at one input. -/
def fnExactLineLengthWrong : ChangeSpec := { name := "fnExactLineLength", fn := fun _ => fun
  | [d1, d2] => { results := [.lit (.bool false)], args := [d1, d2] }
  | _ => none }
def FnExactLineLengthWrongFalsely : Prop := fnExactLineLengthRow.holds Try.pinned (OpenSpec.ofChange fnExactLineLengthWrong)

/-- 'laws.FnExactTurnMatrix': WHATEVER THE INPUT: true; the input reads as it did. -/
def fnExactTurnMatrixSpec : ChangeSpec := { name := "fnExactTurnMatrix", fn := fun _ => fun
  | [d] => { results := [.lit (.bool true)], args := [d] }
  | _ => none }
def fnExactTurnMatrixRow : OpenClaim := { program := "ytibmdlnhchgjcaa", sum := "f6739a2a03cd1f99184d36cdb0ceb248ee529726adee61009689ae6f95193c10", func := "loop.example/vectorraster/laws.FnExactTurnMatrix", spec := "fnExactTurnMatrix", apart := false }
def FnExactTurnMatrixSaid : Prop := fnExactTurnMatrixRow.holds Try.pinned (OpenSpec.ofChange fnExactTurnMatrixSpec)

/-- ITS FALSE NEIGHBOUR: 'it returns false'. Refute it at one input. -/
def fnExactTurnMatrixWrong : ChangeSpec := { name := "fnExactTurnMatrix", fn := fun _ => fun
  | [d] => { results := [.lit (.bool false)], args := [d] }
  | _ => none }
def FnExactTurnMatrixWrongFalsely : Prop := fnExactTurnMatrixRow.holds Try.pinned (OpenSpec.ofChange fnExactTurnMatrixWrong)

/-- 'laws.FnExactTileBox': WHATEVER THE INPUT: true; the input reads as it did. -/
def fnExactTileBoxSpec : ChangeSpec := { name := "fnExactTileBox", fn := fun _ => fun
  | [d1, d2, d3] => { results := [.lit (.bool true)], args := [d1, d2, d3] }
  | _ => none }
def fnExactTileBoxRow : OpenClaim := { program := "ytibmdlnhchgjcaa", sum := "f6739a2a03cd1f99184d36cdb0ceb248ee529726adee61009689ae6f95193c10", func := "loop.example/vectorraster/laws.FnExactTileBox", spec := "fnExactTileBox", apart := false }
def FnExactTileBoxSaid : Prop := fnExactTileBoxRow.holds Try.pinned (OpenSpec.ofChange fnExactTileBoxSpec)

/-- ITS FALSE NEIGHBOUR: 'it returns false'. Refute it at one input. -/
def fnExactTileBoxWrong : ChangeSpec := { name := "fnExactTileBox", fn := fun _ => fun
  | [d1, d2, d3] => { results := [.lit (.bool false)], args := [d1, d2, d3] }
  | _ => none }
def FnExactTileBoxWrongFalsely : Prop := fnExactTileBoxRow.holds Try.pinned (OpenSpec.ofChange fnExactTileBoxWrong)

/-- 'laws.FnExactAlongOf': WHATEVER THE INPUT: true; the input reads as it did. -/
def fnExactAlongOfSpec : ChangeSpec := { name := "fnExactAlongOf", fn := fun _ => fun
  | [d1, d2, d3] => { results := [.lit (.bool true)], args := [d1, d2, d3] }
  | _ => none }
def fnExactAlongOfRow : OpenClaim := { program := "ytibmdlnhchgjcaa", sum := "f6739a2a03cd1f99184d36cdb0ceb248ee529726adee61009689ae6f95193c10", func := "loop.example/vectorraster/laws.FnExactAlongOf", spec := "fnExactAlongOf", apart := false }
def FnExactAlongOfSaid : Prop := fnExactAlongOfRow.holds Try.pinned (OpenSpec.ofChange fnExactAlongOfSpec)

/-- ITS FALSE NEIGHBOUR: 'it returns false'. Refute it at one input. -/
def fnExactAlongOfWrong : ChangeSpec := { name := "fnExactAlongOf", fn := fun _ => fun
  | [d1, d2, d3] => { results := [.lit (.bool false)], args := [d1, d2, d3] }
  | _ => none }
def FnExactAlongOfWrongFalsely : Prop := fnExactAlongOfRow.holds Try.pinned (OpenSpec.ofChange fnExactAlongOfWrong)

/-- 'laws.FnExactCutBox': WHATEVER THE INPUT: true; the input reads as it did. -/
def fnExactCutBoxSpec : ChangeSpec := { name := "fnExactCutBox", fn := fun _ => fun
  | [d1, d2] => { results := [.lit (.bool true)], args := [d1, d2] }
  | _ => none }
def fnExactCutBoxRow : OpenClaim := { program := "ytibmdlnhchgjcaa", sum := "f6739a2a03cd1f99184d36cdb0ceb248ee529726adee61009689ae6f95193c10", func := "loop.example/vectorraster/laws.FnExactCutBox", spec := "fnExactCutBox", apart := false }
def FnExactCutBoxSaid : Prop := fnExactCutBoxRow.holds Try.pinned (OpenSpec.ofChange fnExactCutBoxSpec)

/-- ITS FALSE NEIGHBOUR: 'it returns false'. Refute it at one input. -/
def fnExactCutBoxWrong : ChangeSpec := { name := "fnExactCutBox", fn := fun _ => fun
  | [d1, d2] => { results := [.lit (.bool false)], args := [d1, d2] }
  | _ => none }
def FnExactCutBoxWrongFalsely : Prop := fnExactCutBoxRow.holds Try.pinned (OpenSpec.ofChange fnExactCutBoxWrong)

/- THE SECOND FORM. 'bulk': how many values and letters a reading holds, each counted each time it is reached (what is shared counts as often as it is met; a slice's spare places count too). A statement '..UptoSaid' is the law's where the arguments, and the package variables that the reading takes, are together of bulk at most 1048576: NARROWER than '..Said'. Prove '..Said' where nothing that the law and all that it calls make is longer than what came in: it says more and counts as full. Else prove '..UptoSaid'. A law counts once. -/
mutual
def uptoBulk {H : Type} : DataW H → Nat
  | .lit (.string bytes) => bytes.length + 1
  | .lit _ => 1
  | .nil => 1
  | .ptr d => uptoBulk d + 1
  | .slice elems spare => uptoBulkAll elems + uptoBulkAll spare + 1
  | .agg parts => uptoBulkAll parts + 1
  | .iface _ d => uptoBulk d + 1
  | .map entries => uptoBulkEntries entries + 1
  | .held _ => 1
def uptoBulkAll {H : Type} : List (DataW H) → Nat
  | [] => 0
  | d :: r => uptoBulk d + uptoBulkAll r
def uptoBulkEntries {H : Type} : List (Lit × DataW H) → Nat
  | [] => 0
  | x :: r => uptoBulkEntry x + uptoBulkEntries r
def uptoBulkEntry {H : Type} : Lit × DataW H → Nat
  | (.string bytes, d) => bytes.length + uptoBulk d + 1
  | (_, d) => uptoBulk d + 1
 end
def uptoSmall : (H : Type) → List (DataW H) → Bool := fun _ ds => decide (uptoBulkAll ds ≤ 1048576)
def OpenSpec.upto (s : _root_.Go.ChangeSpec) : _root_.Go.OpenSpec := { _root_.Go.OpenSpec.ofChange s with cond := some uptoSmall }

/-- 'laws.FnExactConstants', WHERE WHAT IT READS IS OF BULK AT MOST 1048576: true; the input reads as it did. -/
def fnExactConstantsUptoRow : OpenClaim := { program := "ytibmdlnhchgjcaa", sum := "f6739a2a03cd1f99184d36cdb0ceb248ee529726adee61009689ae6f95193c10", func := "loop.example/vectorraster/laws.FnExactConstants", spec := "fnExactConstants", apart := false, narrowed := true }
def FnExactConstantsUptoSaid : Prop := fnExactConstantsUptoRow.holds Try.pinned (OpenSpec.upto fnExactConstantsSpec)

/-- 'laws.FnExactTileCount', WHERE WHAT IT READS IS OF BULK AT MOST 1048576: true; the input reads as it did. -/
def fnExactTileCountUptoRow : OpenClaim := { program := "ytibmdlnhchgjcaa", sum := "f6739a2a03cd1f99184d36cdb0ceb248ee529726adee61009689ae6f95193c10", func := "loop.example/vectorraster/laws.FnExactTileCount", spec := "fnExactTileCount", apart := false, narrowed := true }
def FnExactTileCountUptoSaid : Prop := fnExactTileCountUptoRow.holds Try.pinned (OpenSpec.upto fnExactTileCountSpec)

/-- 'laws.FnExactBoxHas', WHERE WHAT IT READS IS OF BULK AT MOST 1048576: true; the input reads as it did. -/
def fnExactBoxHasUptoRow : OpenClaim := { program := "ytibmdlnhchgjcaa", sum := "f6739a2a03cd1f99184d36cdb0ceb248ee529726adee61009689ae6f95193c10", func := "loop.example/vectorraster/laws.FnExactBoxHas", spec := "fnExactBoxHas", apart := false, narrowed := true }
def FnExactBoxHasUptoSaid : Prop := fnExactBoxHasUptoRow.holds Try.pinned (OpenSpec.upto fnExactBoxHasSpec)

/-- 'laws.FnExactFloorUnit', WHERE WHAT IT READS IS OF BULK AT MOST 1048576: true; the input reads as it did. -/
def fnExactFloorUnitUptoRow : OpenClaim := { program := "ytibmdlnhchgjcaa", sum := "f6739a2a03cd1f99184d36cdb0ceb248ee529726adee61009689ae6f95193c10", func := "loop.example/vectorraster/laws.FnExactFloorUnit", spec := "fnExactFloorUnit", apart := false, narrowed := true }
def FnExactFloorUnitUptoSaid : Prop := fnExactFloorUnitUptoRow.holds Try.pinned (OpenSpec.upto fnExactFloorUnitSpec)

/-- 'laws.FnExactRootOf', WHERE WHAT IT READS IS OF BULK AT MOST 1048576: true; the input reads as it did. -/
def fnExactRootOfUptoRow : OpenClaim := { program := "ytibmdlnhchgjcaa", sum := "f6739a2a03cd1f99184d36cdb0ceb248ee529726adee61009689ae6f95193c10", func := "loop.example/vectorraster/laws.FnExactRootOf", spec := "fnExactRootOf", apart := false, narrowed := true }
def FnExactRootOfUptoSaid : Prop := fnExactRootOfUptoRow.holds Try.pinned (OpenSpec.upto fnExactRootOfSpec)

/-- 'laws.FnExactMulFixed', WHERE WHAT IT READS IS OF BULK AT MOST 1048576: true; the input reads as it did. -/
def fnExactMulFixedUptoRow : OpenClaim := { program := "ytibmdlnhchgjcaa", sum := "f6739a2a03cd1f99184d36cdb0ceb248ee529726adee61009689ae6f95193c10", func := "loop.example/vectorraster/laws.FnExactMulFixed", spec := "fnExactMulFixed", apart := false, narrowed := true }
def FnExactMulFixedUptoSaid : Prop := fnExactMulFixedUptoRow.holds Try.pinned (OpenSpec.upto fnExactMulFixedSpec)

/-- 'laws.FnExactRoundUnit', WHERE WHAT IT READS IS OF BULK AT MOST 1048576: true; the input reads as it did. -/
def fnExactRoundUnitUptoRow : OpenClaim := { program := "ytibmdlnhchgjcaa", sum := "f6739a2a03cd1f99184d36cdb0ceb248ee529726adee61009689ae6f95193c10", func := "loop.example/vectorraster/laws.FnExactRoundUnit", spec := "fnExactRoundUnit", apart := false, narrowed := true }
def FnExactRoundUnitUptoSaid : Prop := fnExactRoundUnitUptoRow.holds Try.pinned (OpenSpec.upto fnExactRoundUnitSpec)

/-- 'laws.FnExactLineLength', WHERE WHAT IT READS IS OF BULK AT MOST 1048576: true; the input reads as it did. -/
def fnExactLineLengthUptoRow : OpenClaim := { program := "ytibmdlnhchgjcaa", sum := "f6739a2a03cd1f99184d36cdb0ceb248ee529726adee61009689ae6f95193c10", func := "loop.example/vectorraster/laws.FnExactLineLength", spec := "fnExactLineLength", apart := false, narrowed := true }
def FnExactLineLengthUptoSaid : Prop := fnExactLineLengthUptoRow.holds Try.pinned (OpenSpec.upto fnExactLineLengthSpec)

/-- 'laws.FnExactTurnMatrix', WHERE WHAT IT READS IS OF BULK AT MOST 1048576: true; the input reads as it did. -/
def fnExactTurnMatrixUptoRow : OpenClaim := { program := "ytibmdlnhchgjcaa", sum := "f6739a2a03cd1f99184d36cdb0ceb248ee529726adee61009689ae6f95193c10", func := "loop.example/vectorraster/laws.FnExactTurnMatrix", spec := "fnExactTurnMatrix", apart := false, narrowed := true }
def FnExactTurnMatrixUptoSaid : Prop := fnExactTurnMatrixUptoRow.holds Try.pinned (OpenSpec.upto fnExactTurnMatrixSpec)

/-- 'laws.FnExactTileBox', WHERE WHAT IT READS IS OF BULK AT MOST 1048576: true; the input reads as it did. -/
def fnExactTileBoxUptoRow : OpenClaim := { program := "ytibmdlnhchgjcaa", sum := "f6739a2a03cd1f99184d36cdb0ceb248ee529726adee61009689ae6f95193c10", func := "loop.example/vectorraster/laws.FnExactTileBox", spec := "fnExactTileBox", apart := false, narrowed := true }
def FnExactTileBoxUptoSaid : Prop := fnExactTileBoxUptoRow.holds Try.pinned (OpenSpec.upto fnExactTileBoxSpec)

/-- 'laws.FnExactAlongOf', WHERE WHAT IT READS IS OF BULK AT MOST 1048576: true; the input reads as it did. -/
def fnExactAlongOfUptoRow : OpenClaim := { program := "ytibmdlnhchgjcaa", sum := "f6739a2a03cd1f99184d36cdb0ceb248ee529726adee61009689ae6f95193c10", func := "loop.example/vectorraster/laws.FnExactAlongOf", spec := "fnExactAlongOf", apart := false, narrowed := true }
def FnExactAlongOfUptoSaid : Prop := fnExactAlongOfUptoRow.holds Try.pinned (OpenSpec.upto fnExactAlongOfSpec)

/-- 'laws.FnExactCutBox', WHERE WHAT IT READS IS OF BULK AT MOST 1048576: true; the input reads as it did. -/
def fnExactCutBoxUptoRow : OpenClaim := { program := "ytibmdlnhchgjcaa", sum := "f6739a2a03cd1f99184d36cdb0ceb248ee529726adee61009689ae6f95193c10", func := "loop.example/vectorraster/laws.FnExactCutBox", spec := "fnExactCutBox", apart := false, narrowed := true }
def FnExactCutBoxUptoSaid : Prop := fnExactCutBoxUptoRow.holds Try.pinned (OpenSpec.upto fnExactCutBoxSpec)

end Rows
end Go.Proofs.Ytibmdlnhchgjcaa
