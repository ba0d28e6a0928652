/-
  No cell of these rows narrows 'for every input' (looked for: loops, veiled, ifaces, maps, wideKeys, modest, calm, conditions, laid).
  DERIVED. THE GIVEN ROWS OF THIS SEAT. 11 by the template 'for every input the law returns true; each argument reads behind the call as it read before'; 0 by the template 'total and deterministic' (their statements: YtkcmjpbnjdedlaaTotals.lean).
  GIVEN WITH THE SEED: the statements are not yours to turn. If you find one false, say at which input.
  Laid BY PROGRAM, IN A SANDBOX (cutbox-rows.mjs): the forced cells as the released guide's own fill.sh prints them over the translation 58a8822f7e9a0f6c… (all of the seat's roots in one cut). By AI agents, Wed Nov 11 2026. No macro, syntax, notation, axiom, sorry.
-/
import Derived.Test.YtkcmjpbnjdedlaaChecked
import GoSem.Claim
import GoSem.ClaimJoined
import GoSem.ClaimMapViews
import Derived.JoinedTies
import Derived.KernelRfl
namespace Go.Proofs.Ytkcmjpbnjdedlaa
/- THE CELL 'sum', in the pinned program and in every row, IS THE sha256 OF THE DUMP (.gsa) THAT YtkcmjpbnjdedlaaProg.lean LOADS. Nothing in Lean hashes anything: it is a label: what it is worth is what the hold of that sum in a sandbox is worth. -/
noncomputable def Try.pinned : Pinned := { name := "ytkcmjpbnjdedlaa", sum := "58a8822f7e9a0f6c8da9e537917782ba05be2c8018aa83b8f6a2db871fc20614", checked := Try.checked }
namespace Rows
def none {H : Type} : Left H := { results := [], args := [] }

/-- 'laws.FnExactPixelBox': WHATEVER THE INPUT: true; the input reads as it did. -/
def fnExactPixelBoxSpec : ChangeSpec := { name := "fnExactPixelBox", fn := fun _ => fun
  | [d] => { results := [.lit (.bool true)], args := [d] }
  | _ => none }
def fnExactPixelBoxRow : OpenClaim := { program := "ytkcmjpbnjdedlaa", sum := "58a8822f7e9a0f6c8da9e537917782ba05be2c8018aa83b8f6a2db871fc20614", func := "loop.example/vectorraster/laws.FnExactPixelBox", spec := "fnExactPixelBox", apart := false }
def FnExactPixelBoxSaid : Prop := fnExactPixelBoxRow.holds Try.pinned (OpenSpec.ofChange fnExactPixelBoxSpec)

/-- ITS FALSE NEIGHBOUR: 'it returns false'. Refute it at one input. -/
def fnExactPixelBoxWrong : ChangeSpec := { name := "fnExactPixelBox", fn := fun _ => fun
  | [d] => { results := [.lit (.bool false)], args := [d] }
  | _ => none }
def FnExactPixelBoxWrongFalsely : Prop := fnExactPixelBoxRow.holds Try.pinned (OpenSpec.ofChange fnExactPixelBoxWrong)

/-- 'laws.FnRootOf': WHATEVER THE INPUT: true; the input reads as it did. -/
def fnRootOfSpec : ChangeSpec := { name := "fnRootOf", fn := fun _ => fun
  | [d] => { results := [.lit (.bool true)], args := [d] }
  | _ => none }
def fnRootOfRow : OpenClaim := { program := "ytkcmjpbnjdedlaa", sum := "58a8822f7e9a0f6c8da9e537917782ba05be2c8018aa83b8f6a2db871fc20614", func := "loop.example/vectorraster/laws.FnRootOf", spec := "fnRootOf", apart := false }
def FnRootOfSaid : Prop := fnRootOfRow.holds Try.pinned (OpenSpec.ofChange fnRootOfSpec)

/-- ITS FALSE NEIGHBOUR: 'it returns false'. Refute it at one input. -/
def fnRootOfWrong : ChangeSpec := { name := "fnRootOf", fn := fun _ => fun
  | [d] => { results := [.lit (.bool false)], args := [d] }
  | _ => none }
def FnRootOfWrongFalsely : Prop := fnRootOfRow.holds Try.pinned (OpenSpec.ofChange fnRootOfWrong)

/-- 'laws.FnRootOfSquare': WHATEVER THE INPUT: true; the input reads as it did. -/
def fnRootOfSquareSpec : ChangeSpec := { name := "fnRootOfSquare", fn := fun _ => fun
  | [d] => { results := [.lit (.bool true)], args := [d] }
  | _ => none }
def fnRootOfSquareRow : OpenClaim := { program := "ytkcmjpbnjdedlaa", sum := "58a8822f7e9a0f6c8da9e537917782ba05be2c8018aa83b8f6a2db871fc20614", func := "loop.example/vectorraster/laws.FnRootOfSquare", spec := "fnRootOfSquare", apart := false }
def FnRootOfSquareSaid : Prop := fnRootOfSquareRow.holds Try.pinned (OpenSpec.ofChange fnRootOfSquareSpec)

/-- ITS FALSE NEIGHBOUR: 'it returns false'. Refute it at one input. -/
def fnRootOfSquareWrong : ChangeSpec := { name := "fnRootOfSquare", fn := fun _ => fun
  | [d] => { results := [.lit (.bool false)], args := [d] }
  | _ => none }
def FnRootOfSquareWrongFalsely : Prop := fnRootOfSquareRow.holds Try.pinned (OpenSpec.ofChange fnRootOfSquareWrong)

/-- 'laws.FnFloorUnit': WHATEVER THE INPUT: true; the input reads as it did. -/
def fnFloorUnitSpec : ChangeSpec := { name := "fnFloorUnit", fn := fun _ => fun
  | [d] => { results := [.lit (.bool true)], args := [d] }
  | _ => none }
def fnFloorUnitRow : OpenClaim := { program := "ytkcmjpbnjdedlaa", sum := "58a8822f7e9a0f6c8da9e537917782ba05be2c8018aa83b8f6a2db871fc20614", func := "loop.example/vectorraster/laws.FnFloorUnit", spec := "fnFloorUnit", apart := false }
def FnFloorUnitSaid : Prop := fnFloorUnitRow.holds Try.pinned (OpenSpec.ofChange fnFloorUnitSpec)

/-- ITS FALSE NEIGHBOUR: 'it returns false'. Refute it at one input. -/
def fnFloorUnitWrong : ChangeSpec := { name := "fnFloorUnit", fn := fun _ => fun
  | [d] => { results := [.lit (.bool false)], args := [d] }
  | _ => none }
def FnFloorUnitWrongFalsely : Prop := fnFloorUnitRow.holds Try.pinned (OpenSpec.ofChange fnFloorUnitWrong)

/-- 'laws.FnMulFixedSign': WHATEVER THE INPUT: true; the input reads as it did. -/
def fnMulFixedSignSpec : ChangeSpec := { name := "fnMulFixedSign", fn := fun _ => fun
  | [d] => { results := [.lit (.bool true)], args := [d] }
  | _ => none }
def fnMulFixedSignRow : OpenClaim := { program := "ytkcmjpbnjdedlaa", sum := "58a8822f7e9a0f6c8da9e537917782ba05be2c8018aa83b8f6a2db871fc20614", func := "loop.example/vectorraster/laws.FnMulFixedSign", spec := "fnMulFixedSign", apart := false }
def FnMulFixedSignSaid : Prop := fnMulFixedSignRow.holds Try.pinned (OpenSpec.ofChange fnMulFixedSignSpec)

/-- ITS FALSE NEIGHBOUR: 'it returns false'. Refute it at one input. -/
def fnMulFixedSignWrong : ChangeSpec := { name := "fnMulFixedSign", fn := fun _ => fun
  | [d] => { results := [.lit (.bool false)], args := [d] }
  | _ => none }
def FnMulFixedSignWrongFalsely : Prop := fnMulFixedSignRow.holds Try.pinned (OpenSpec.ofChange fnMulFixedSignWrong)

/-- 'laws.FnTileCount': WHATEVER THE INPUT: true; the input reads as it did. -/
def fnTileCountSpec : ChangeSpec := { name := "fnTileCount", fn := fun _ => fun
  | [d] => { results := [.lit (.bool true)], args := [d] }
  | _ => none }
def fnTileCountRow : OpenClaim := { program := "ytkcmjpbnjdedlaa", sum := "58a8822f7e9a0f6c8da9e537917782ba05be2c8018aa83b8f6a2db871fc20614", func := "loop.example/vectorraster/laws.FnTileCount", spec := "fnTileCount", apart := false }
def FnTileCountSaid : Prop := fnTileCountRow.holds Try.pinned (OpenSpec.ofChange fnTileCountSpec)

/-- ITS FALSE NEIGHBOUR: 'it returns false'. Refute it at one input. -/
def fnTileCountWrong : ChangeSpec := { name := "fnTileCount", fn := fun _ => fun
  | [d] => { results := [.lit (.bool false)], args := [d] }
  | _ => none }
def FnTileCountWrongFalsely : Prop := fnTileCountRow.holds Try.pinned (OpenSpec.ofChange fnTileCountWrong)

/-- 'laws.FnMulFixed': WHATEVER THE INPUT: true; the input reads as it did. -/
def fnMulFixedSpec : ChangeSpec := { name := "fnMulFixed", fn := fun _ => fun
  | [d] => { results := [.lit (.bool true)], args := [d] }
  | _ => none }
def fnMulFixedRow : OpenClaim := { program := "ytkcmjpbnjdedlaa", sum := "58a8822f7e9a0f6c8da9e537917782ba05be2c8018aa83b8f6a2db871fc20614", func := "loop.example/vectorraster/laws.FnMulFixed", spec := "fnMulFixed", apart := false }
def FnMulFixedSaid : Prop := fnMulFixedRow.holds Try.pinned (OpenSpec.ofChange fnMulFixedSpec)

/-- ITS FALSE NEIGHBOUR: 'it returns false'. Refute it at one input. -/
def fnMulFixedWrong : ChangeSpec := { name := "fnMulFixed", fn := fun _ => fun
  | [d] => { results := [.lit (.bool false)], args := [d] }
  | _ => none }
def FnMulFixedWrongFalsely : Prop := fnMulFixedRow.holds Try.pinned (OpenSpec.ofChange fnMulFixedWrong)

/-- 'laws.FnFloorUnitShift': WHATEVER THE INPUT: true; the input reads as it did. -/
def fnFloorUnitShiftSpec : ChangeSpec := { name := "fnFloorUnitShift", fn := fun _ => fun
  | [d] => { results := [.lit (.bool true)], args := [d] }
  | _ => none }
def fnFloorUnitShiftRow : OpenClaim := { program := "ytkcmjpbnjdedlaa", sum := "58a8822f7e9a0f6c8da9e537917782ba05be2c8018aa83b8f6a2db871fc20614", func := "loop.example/vectorraster/laws.FnFloorUnitShift", spec := "fnFloorUnitShift", apart := false }
def FnFloorUnitShiftSaid : Prop := fnFloorUnitShiftRow.holds Try.pinned (OpenSpec.ofChange fnFloorUnitShiftSpec)

/-- ITS FALSE NEIGHBOUR: 'it returns false'. Refute it at one input. -/
def fnFloorUnitShiftWrong : ChangeSpec := { name := "fnFloorUnitShift", fn := fun _ => fun
  | [d] => { results := [.lit (.bool false)], args := [d] }
  | _ => none }
def FnFloorUnitShiftWrongFalsely : Prop := fnFloorUnitShiftRow.holds Try.pinned (OpenSpec.ofChange fnFloorUnitShiftWrong)

/-- 'laws.FnRoundUnit': WHATEVER THE INPUT: true; the input reads as it did. -/
def fnRoundUnitSpec : ChangeSpec := { name := "fnRoundUnit", fn := fun _ => fun
  | [d] => { results := [.lit (.bool true)], args := [d] }
  | _ => none }
def fnRoundUnitRow : OpenClaim := { program := "ytkcmjpbnjdedlaa", sum := "58a8822f7e9a0f6c8da9e537917782ba05be2c8018aa83b8f6a2db871fc20614", func := "loop.example/vectorraster/laws.FnRoundUnit", spec := "fnRoundUnit", apart := false }
def FnRoundUnitSaid : Prop := fnRoundUnitRow.holds Try.pinned (OpenSpec.ofChange fnRoundUnitSpec)

/-- ITS FALSE NEIGHBOUR: 'it returns false'. Refute it at one input. -/
def fnRoundUnitWrong : ChangeSpec := { name := "fnRoundUnit", fn := fun _ => fun
  | [d] => { results := [.lit (.bool false)], args := [d] }
  | _ => none }
def FnRoundUnitWrongFalsely : Prop := fnRoundUnitRow.holds Try.pinned (OpenSpec.ofChange fnRoundUnitWrong)

/-- 'laws.FnExactColorOf': WHATEVER THE INPUT: true; the input reads as it did. -/
def fnExactColorOfSpec : ChangeSpec := { name := "fnExactColorOf", fn := fun _ => fun
  | [d1, d2, d3, d4] => { results := [.lit (.bool true)], args := [d1, d2, d3, d4] }
  | _ => none }
def fnExactColorOfRow : OpenClaim := { program := "ytkcmjpbnjdedlaa", sum := "58a8822f7e9a0f6c8da9e537917782ba05be2c8018aa83b8f6a2db871fc20614", func := "loop.example/vectorraster/laws.FnExactColorOf", spec := "fnExactColorOf", apart := false }
def FnExactColorOfSaid : Prop := fnExactColorOfRow.holds Try.pinned (OpenSpec.ofChange fnExactColorOfSpec)

/-- ITS FALSE NEIGHBOUR: 'it returns false'. Refute it at one input. -/
def fnExactColorOfWrong : ChangeSpec := { name := "fnExactColorOf", fn := fun _ => fun
  | [d1, d2, d3, d4] => { results := [.lit (.bool false)], args := [d1, d2, d3, d4] }
  | _ => none }
def FnExactColorOfWrongFalsely : Prop := fnExactColorOfRow.holds Try.pinned (OpenSpec.ofChange fnExactColorOfWrong)

/-- 'laws.FnColorOf': WHATEVER THE INPUT: true; the input reads as it did. -/
def fnColorOfSpec : ChangeSpec := { name := "fnColorOf", fn := fun _ => fun
  | [d] => { results := [.lit (.bool true)], args := [d] }
  | _ => none }
def fnColorOfRow : OpenClaim := { program := "ytkcmjpbnjdedlaa", sum := "58a8822f7e9a0f6c8da9e537917782ba05be2c8018aa83b8f6a2db871fc20614", func := "loop.example/vectorraster/laws.FnColorOf", spec := "fnColorOf", apart := false }
def FnColorOfSaid : Prop := fnColorOfRow.holds Try.pinned (OpenSpec.ofChange fnColorOfSpec)

/-- ITS FALSE NEIGHBOUR: 'it returns false'. Refute it at one input. -/
def fnColorOfWrong : ChangeSpec := { name := "fnColorOf", fn := fun _ => fun
  | [d] => { results := [.lit (.bool false)], args := [d] }
  | _ => none }
def FnColorOfWrongFalsely : Prop := fnColorOfRow.holds Try.pinned (OpenSpec.ofChange fnColorOfWrong)

/- THE SECOND FORM. 'bulk': how many values and letters a reading holds, each counted each time it is reached (what is shared counts as often as it is met; a slice's spare places count too). A statement '..UptoSaid' is the law's where the arguments, and the package variables that the reading takes, are together of bulk at most 1048576: NARROWER than '..Said'. Prove '..Said' where nothing that the law and all that it calls make is longer than what came in: it says more and counts as full. Else prove '..UptoSaid'. A law counts once. -/
mutual
def uptoBulk {H : Type} : DataW H → Nat
  | .lit (.string bytes) => bytes.length + 1
  | .lit _ => 1
  | .nil => 1
  | .ptr d => uptoBulk d + 1
  | .slice elems spare => uptoBulkAll elems + uptoBulkAll spare + 1
  | .agg parts => uptoBulkAll parts + 1
  | .iface _ d => uptoBulk d + 1
  | .map entries => uptoBulkEntries entries + 1
  | .held _ => 1
def uptoBulkAll {H : Type} : List (DataW H) → Nat
  | [] => 0
  | d :: r => uptoBulk d + uptoBulkAll r
def uptoBulkEntries {H : Type} : List (Lit × DataW H) → Nat
  | [] => 0
  | x :: r => uptoBulkEntry x + uptoBulkEntries r
def uptoBulkEntry {H : Type} : Lit × DataW H → Nat
  | (.string bytes, d) => bytes.length + uptoBulk d + 1
  | (_, d) => uptoBulk d + 1
 end
def uptoSmall : (H : Type) → List (DataW H) → Bool := fun _ ds => decide (uptoBulkAll ds ≤ 1048576)
def OpenSpec.upto (s : _root_.Go.ChangeSpec) : _root_.Go.OpenSpec := { _root_.Go.OpenSpec.ofChange s with cond := some uptoSmall }

/-- 'laws.FnExactPixelBox', WHERE WHAT IT READS IS OF BULK AT MOST 1048576: true; the input reads as it did. -/
def fnExactPixelBoxUptoRow : OpenClaim := { program := "ytkcmjpbnjdedlaa", sum := "58a8822f7e9a0f6c8da9e537917782ba05be2c8018aa83b8f6a2db871fc20614", func := "loop.example/vectorraster/laws.FnExactPixelBox", spec := "fnExactPixelBox", apart := false, narrowed := true }
def FnExactPixelBoxUptoSaid : Prop := fnExactPixelBoxUptoRow.holds Try.pinned (OpenSpec.upto fnExactPixelBoxSpec)

/-- 'laws.FnRootOf', WHERE WHAT IT READS IS OF BULK AT MOST 1048576: true; the input reads as it did. -/
def fnRootOfUptoRow : OpenClaim := { program := "ytkcmjpbnjdedlaa", sum := "58a8822f7e9a0f6c8da9e537917782ba05be2c8018aa83b8f6a2db871fc20614", func := "loop.example/vectorraster/laws.FnRootOf", spec := "fnRootOf", apart := false, narrowed := true }
def FnRootOfUptoSaid : Prop := fnRootOfUptoRow.holds Try.pinned (OpenSpec.upto fnRootOfSpec)

/-- 'laws.FnRootOfSquare', WHERE WHAT IT READS IS OF BULK AT MOST 1048576: true; the input reads as it did. -/
def fnRootOfSquareUptoRow : OpenClaim := { program := "ytkcmjpbnjdedlaa", sum := "58a8822f7e9a0f6c8da9e537917782ba05be2c8018aa83b8f6a2db871fc20614", func := "loop.example/vectorraster/laws.FnRootOfSquare", spec := "fnRootOfSquare", apart := false, narrowed := true }
def FnRootOfSquareUptoSaid : Prop := fnRootOfSquareUptoRow.holds Try.pinned (OpenSpec.upto fnRootOfSquareSpec)

/-- 'laws.FnFloorUnit', WHERE WHAT IT READS IS OF BULK AT MOST 1048576: true; the input reads as it did. -/
def fnFloorUnitUptoRow : OpenClaim := { program := "ytkcmjpbnjdedlaa", sum := "58a8822f7e9a0f6c8da9e537917782ba05be2c8018aa83b8f6a2db871fc20614", func := "loop.example/vectorraster/laws.FnFloorUnit", spec := "fnFloorUnit", apart := false, narrowed := true }
def FnFloorUnitUptoSaid : Prop := fnFloorUnitUptoRow.holds Try.pinned (OpenSpec.upto fnFloorUnitSpec)

/-- 'laws.FnMulFixedSign', WHERE WHAT IT READS IS OF BULK AT MOST 1048576: true; the input reads as it did. -/
def fnMulFixedSignUptoRow : OpenClaim := { program := "ytkcmjpbnjdedlaa", sum := "58a8822f7e9a0f6c8da9e537917782ba05be2c8018aa83b8f6a2db871fc20614", func := "loop.example/vectorraster/laws.FnMulFixedSign", spec := "fnMulFixedSign", apart := false, narrowed := true }
def FnMulFixedSignUptoSaid : Prop := fnMulFixedSignUptoRow.holds Try.pinned (OpenSpec.upto fnMulFixedSignSpec)

/-- 'laws.FnTileCount', WHERE WHAT IT READS IS OF BULK AT MOST 1048576: true; the input reads as it did. -/
def fnTileCountUptoRow : OpenClaim := { program := "ytkcmjpbnjdedlaa", sum := "58a8822f7e9a0f6c8da9e537917782ba05be2c8018aa83b8f6a2db871fc20614", func := "loop.example/vectorraster/laws.FnTileCount", spec := "fnTileCount", apart := false, narrowed := true }
def FnTileCountUptoSaid : Prop := fnTileCountUptoRow.holds Try.pinned (OpenSpec.upto fnTileCountSpec)

/-- 'laws.FnMulFixed', WHERE WHAT IT READS IS OF BULK AT MOST 1048576: true; the input reads as it did. -/
def fnMulFixedUptoRow : OpenClaim := { program := "ytkcmjpbnjdedlaa", sum := "58a8822f7e9a0f6c8da9e537917782ba05be2c8018aa83b8f6a2db871fc20614", func := "loop.example/vectorraster/laws.FnMulFixed", spec := "fnMulFixed", apart := false, narrowed := true }
def FnMulFixedUptoSaid : Prop := fnMulFixedUptoRow.holds Try.pinned (OpenSpec.upto fnMulFixedSpec)

/-- 'laws.FnFloorUnitShift', WHERE WHAT IT READS IS OF BULK AT MOST 1048576: true; the input reads as it did. -/
def fnFloorUnitShiftUptoRow : OpenClaim := { program := "ytkcmjpbnjdedlaa", sum := "58a8822f7e9a0f6c8da9e537917782ba05be2c8018aa83b8f6a2db871fc20614", func := "loop.example/vectorraster/laws.FnFloorUnitShift", spec := "fnFloorUnitShift", apart := false, narrowed := true }
def FnFloorUnitShiftUptoSaid : Prop := fnFloorUnitShiftUptoRow.holds Try.pinned (OpenSpec.upto fnFloorUnitShiftSpec)

/-- 'laws.FnRoundUnit', WHERE WHAT IT READS IS OF BULK AT MOST 1048576: true; the input reads as it did. -/
def fnRoundUnitUptoRow : OpenClaim := { program := "ytkcmjpbnjdedlaa", sum := "58a8822f7e9a0f6c8da9e537917782ba05be2c8018aa83b8f6a2db871fc20614", func := "loop.example/vectorraster/laws.FnRoundUnit", spec := "fnRoundUnit", apart := false, narrowed := true }
def FnRoundUnitUptoSaid : Prop := fnRoundUnitUptoRow.holds Try.pinned (OpenSpec.upto fnRoundUnitSpec)

/-- 'laws.FnExactColorOf', WHERE WHAT IT READS IS OF BULK AT MOST 1048576: true; the input reads as it did. -/
def fnExactColorOfUptoRow : OpenClaim := { program := "ytkcmjpbnjdedlaa", sum := "58a8822f7e9a0f6c8da9e537917782ba05be2c8018aa83b8f6a2db871fc20614", func := "loop.example/vectorraster/laws.FnExactColorOf", spec := "fnExactColorOf", apart := false, narrowed := true }
def FnExactColorOfUptoSaid : Prop := fnExactColorOfUptoRow.holds Try.pinned (OpenSpec.upto fnExactColorOfSpec)

/-- 'laws.FnColorOf', WHERE WHAT IT READS IS OF BULK AT MOST 1048576: true; the input reads as it did. -/
def fnColorOfUptoRow : OpenClaim := { program := "ytkcmjpbnjdedlaa", sum := "58a8822f7e9a0f6c8da9e537917782ba05be2c8018aa83b8f6a2db871fc20614", func := "loop.example/vectorraster/laws.FnColorOf", spec := "fnColorOf", apart := false, narrowed := true }
def FnColorOfUptoSaid : Prop := fnColorOfUptoRow.holds Try.pinned (OpenSpec.upto fnColorOfSpec)

end Rows
end Go.Proofs.Ytkcmjpbnjdedlaa
