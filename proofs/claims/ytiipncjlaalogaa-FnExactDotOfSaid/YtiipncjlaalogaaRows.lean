/-
  No cell of these rows narrows 'for every input' (looked for: loops, veiled, ifaces, maps, wideKeys, modest, calm, conditions, laid).
  DERIVED. THE GIVEN ROWS OF THIS SEAT. 12 by the template 'for every input the law returns true; each argument reads behind the call as it read before'; 0 by the template 'total and deterministic' (their statements: YtiipncjlaalogaaTotals.lean).
  GIVEN WITH THE SEED: the statements are not yours to turn. If you find one false, say at which input.
  Laid BY PROGRAM, IN A SANDBOX (cutbox-rows.mjs): the forced cells as the released guide's own fill.sh prints them over the translation 230e133bab264df1… (all of the seat's roots in one cut). By AI agents, Wed Nov 11 2026. No macro, syntax, notation, axiom, sorry.
-/
import Derived.Test.YtiipncjlaalogaaChecked
import GoSem.Claim
import GoSem.ClaimJoined
import GoSem.ClaimMapViews
import Derived.JoinedTies
import Derived.KernelRfl
namespace Go.Proofs.Ytiipncjlaalogaa
/- THE CELL 'sum', in the pinned program and in every row, IS THE sha256 OF THE DUMP (.gsa) THAT YtiipncjlaalogaaProg.lean LOADS. Nothing in Lean hashes anything: it is a label: what it is worth is what the hold of that sum in a sandbox is worth. -/
noncomputable def Try.pinned : Pinned := { name := "ytiipncjlaalogaa", sum := "230e133bab264df126ad2d8ad14741e38d1e93435adabb65cc2e7624d417214b", checked := Try.checked }
namespace Rows
def none {H : Type} : Left H := { results := [], args := [] }

/-- 'laws.FnExactIsName': WHATEVER THE INPUT: true; the input reads as it did. -/
def fnExactIsNameSpec : ChangeSpec := { name := "fnExactIsName", fn := fun _ => fun
  | [d] => { results := [.lit (.bool true)], args := [d] }
  | _ => none }
def fnExactIsNameRow : OpenClaim := { program := "ytiipncjlaalogaa", sum := "230e133bab264df126ad2d8ad14741e38d1e93435adabb65cc2e7624d417214b", func := "loop.example/g00955/laws.FnExactIsName", spec := "fnExactIsName", apart := false }
def FnExactIsNameSaid : Prop := fnExactIsNameRow.holds Try.pinned (OpenSpec.ofChange fnExactIsNameSpec)

/-- ITS FALSE NEIGHBOUR: 'it returns false'. Refute it at one input. -/
def fnExactIsNameWrong : ChangeSpec := { name := "fnExactIsName", fn := fun _ => fun
  | [d] => { results := [.lit (.bool false)], args := [d] }
  | _ => none }
def FnExactIsNameWrongFalsely : Prop := fnExactIsNameRow.holds Try.pinned (OpenSpec.ofChange fnExactIsNameWrong)

/-- 'laws.FnExactCrc16': WHATEVER THE INPUT: true; the input reads as it did. -/
def fnExactCrc16Spec : ChangeSpec := { name := "fnExactCrc16", fn := fun _ => fun
  | [d1, d2] => { results := [.lit (.bool true)], args := [d1, d2] }
  | _ => none }
def fnExactCrc16Row : OpenClaim := { program := "ytiipncjlaalogaa", sum := "230e133bab264df126ad2d8ad14741e38d1e93435adabb65cc2e7624d417214b", func := "loop.example/g00955/laws.FnExactCrc16", spec := "fnExactCrc16", apart := false }
def FnExactCrc16Said : Prop := fnExactCrc16Row.holds Try.pinned (OpenSpec.ofChange fnExactCrc16Spec)

/-- ITS FALSE NEIGHBOUR: 'it returns false'. Refute it at one input. -/
def fnExactCrc16Wrong : ChangeSpec := { name := "fnExactCrc16", fn := fun _ => fun
  | [d1, d2] => { results := [.lit (.bool false)], args := [d1, d2] }
  | _ => none }
def FnExactCrc16WrongFalsely : Prop := fnExactCrc16Row.holds Try.pinned (OpenSpec.ofChange fnExactCrc16Wrong)

/-- 'laws.FnExactDivRound': WHATEVER THE INPUT: true; the input reads as it did. -/
def fnExactDivRoundSpec : ChangeSpec := { name := "fnExactDivRound", fn := fun _ => fun
  | [d1, d2] => { results := [.lit (.bool true)], args := [d1, d2] }
  | _ => none }
def fnExactDivRoundRow : OpenClaim := { program := "ytiipncjlaalogaa", sum := "230e133bab264df126ad2d8ad14741e38d1e93435adabb65cc2e7624d417214b", func := "loop.example/g00955/laws.FnExactDivRound", spec := "fnExactDivRound", apart := false }
def FnExactDivRoundSaid : Prop := fnExactDivRoundRow.holds Try.pinned (OpenSpec.ofChange fnExactDivRoundSpec)

/-- ITS FALSE NEIGHBOUR: 'it returns false'. Refute it at one input. -/
def fnExactDivRoundWrong : ChangeSpec := { name := "fnExactDivRound", fn := fun _ => fun
  | [d1, d2] => { results := [.lit (.bool false)], args := [d1, d2] }
  | _ => none }
def FnExactDivRoundWrongFalsely : Prop := fnExactDivRoundRow.holds Try.pinned (OpenSpec.ofChange fnExactDivRoundWrong)

/-- 'laws.FnExactDaysIn': WHATEVER THE INPUT: true; the input reads as it did. -/
def fnExactDaysInSpec : ChangeSpec := { name := "fnExactDaysIn", fn := fun _ => fun
  | [d1, d2] => { results := [.lit (.bool true)], args := [d1, d2] }
  | _ => none }
def fnExactDaysInRow : OpenClaim := { program := "ytiipncjlaalogaa", sum := "230e133bab264df126ad2d8ad14741e38d1e93435adabb65cc2e7624d417214b", func := "loop.example/g00955/laws.FnExactDaysIn", spec := "fnExactDaysIn", apart := false }
def FnExactDaysInSaid : Prop := fnExactDaysInRow.holds Try.pinned (OpenSpec.ofChange fnExactDaysInSpec)

/-- ITS FALSE NEIGHBOUR: 'it returns false'. Refute it at one input. -/
def fnExactDaysInWrong : ChangeSpec := { name := "fnExactDaysIn", fn := fun _ => fun
  | [d1, d2] => { results := [.lit (.bool false)], args := [d1, d2] }
  | _ => none }
def FnExactDaysInWrongFalsely : Prop := fnExactDaysInRow.holds Try.pinned (OpenSpec.ofChange fnExactDaysInWrong)

/-- 'laws.FnExactTurnTowards': WHATEVER THE INPUT: true; the input reads as it did. -/
def fnExactTurnTowardsSpec : ChangeSpec := { name := "fnExactTurnTowards", fn := fun _ => fun
  | [d1, d2, d3] => { results := [.lit (.bool true)], args := [d1, d2, d3] }
  | _ => none }
def fnExactTurnTowardsRow : OpenClaim := { program := "ytiipncjlaalogaa", sum := "230e133bab264df126ad2d8ad14741e38d1e93435adabb65cc2e7624d417214b", func := "loop.example/g00955/laws.FnExactTurnTowards", spec := "fnExactTurnTowards", apart := false }
def FnExactTurnTowardsSaid : Prop := fnExactTurnTowardsRow.holds Try.pinned (OpenSpec.ofChange fnExactTurnTowardsSpec)

/-- ITS FALSE NEIGHBOUR: 'it returns false'. Refute it at one input. -/
def fnExactTurnTowardsWrong : ChangeSpec := { name := "fnExactTurnTowards", fn := fun _ => fun
  | [d1, d2, d3] => { results := [.lit (.bool false)], args := [d1, d2, d3] }
  | _ => none }
def FnExactTurnTowardsWrongFalsely : Prop := fnExactTurnTowardsRow.holds Try.pinned (OpenSpec.ofChange fnExactTurnTowardsWrong)

/-- 'laws.FnExactMomentAfter': WHATEVER THE INPUT: true; the input reads as it did. -/
def fnExactMomentAfterSpec : ChangeSpec := { name := "fnExactMomentAfter", fn := fun _ => fun
  | [d1, d2] => { results := [.lit (.bool true)], args := [d1, d2] }
  | _ => none }
def fnExactMomentAfterRow : OpenClaim := { program := "ytiipncjlaalogaa", sum := "230e133bab264df126ad2d8ad14741e38d1e93435adabb65cc2e7624d417214b", func := "loop.example/g00955/laws.FnExactMomentAfter", spec := "fnExactMomentAfter", apart := false }
def FnExactMomentAfterSaid : Prop := fnExactMomentAfterRow.holds Try.pinned (OpenSpec.ofChange fnExactMomentAfterSpec)

/-- ITS FALSE NEIGHBOUR: 'it returns false'. Refute it at one input. -/
def fnExactMomentAfterWrong : ChangeSpec := { name := "fnExactMomentAfter", fn := fun _ => fun
  | [d1, d2] => { results := [.lit (.bool false)], args := [d1, d2] }
  | _ => none }
def FnExactMomentAfterWrongFalsely : Prop := fnExactMomentAfterRow.holds Try.pinned (OpenSpec.ofChange fnExactMomentAfterWrong)

/-- 'laws.FnExactDotOf': WHATEVER THE INPUT: true; the input reads as it did. -/
def fnExactDotOfSpec : ChangeSpec := { name := "fnExactDotOf", fn := fun _ => fun
  | [d1, d2] => { results := [.lit (.bool true)], args := [d1, d2] }
  | _ => none }
def fnExactDotOfRow : OpenClaim := { program := "ytiipncjlaalogaa", sum := "230e133bab264df126ad2d8ad14741e38d1e93435adabb65cc2e7624d417214b", func := "loop.example/g00955/laws.FnExactDotOf", spec := "fnExactDotOf", apart := false }
def FnExactDotOfSaid : Prop := fnExactDotOfRow.holds Try.pinned (OpenSpec.ofChange fnExactDotOfSpec)

/-- ITS FALSE NEIGHBOUR: 'it returns false'. Refute it at one input. -/
def fnExactDotOfWrong : ChangeSpec := { name := "fnExactDotOf", fn := fun _ => fun
  | [d1, d2] => { results := [.lit (.bool false)], args := [d1, d2] }
  | _ => none }
def FnExactDotOfWrongFalsely : Prop := fnExactDotOfRow.holds Try.pinned (OpenSpec.ofChange fnExactDotOfWrong)

/-- 'laws.FnExactBlend': WHATEVER THE INPUT: true; the input reads as it did. -/
def fnExactBlendSpec : ChangeSpec := { name := "fnExactBlend", fn := fun _ => fun
  | [d1, d2, d3, d4, d5] => { results := [.lit (.bool true)], args := [d1, d2, d3, d4, d5] }
  | _ => none }
def fnExactBlendRow : OpenClaim := { program := "ytiipncjlaalogaa", sum := "230e133bab264df126ad2d8ad14741e38d1e93435adabb65cc2e7624d417214b", func := "loop.example/g00955/laws.FnExactBlend", spec := "fnExactBlend", apart := false }
def FnExactBlendSaid : Prop := fnExactBlendRow.holds Try.pinned (OpenSpec.ofChange fnExactBlendSpec)

/-- ITS FALSE NEIGHBOUR: 'it returns false'. Refute it at one input. -/
def fnExactBlendWrong : ChangeSpec := { name := "fnExactBlend", fn := fun _ => fun
  | [d1, d2, d3, d4, d5] => { results := [.lit (.bool false)], args := [d1, d2, d3, d4, d5] }
  | _ => none }
def FnExactBlendWrongFalsely : Prop := fnExactBlendRow.holds Try.pinned (OpenSpec.ofChange fnExactBlendWrong)

/-- 'laws.FnExactDateOf': WHATEVER THE INPUT: true; the input reads as it did. -/
def fnExactDateOfSpec : ChangeSpec := { name := "fnExactDateOf", fn := fun _ => fun
  | [d] => { results := [.lit (.bool true)], args := [d] }
  | _ => none }
def fnExactDateOfRow : OpenClaim := { program := "ytiipncjlaalogaa", sum := "230e133bab264df126ad2d8ad14741e38d1e93435adabb65cc2e7624d417214b", func := "loop.example/g00955/laws.FnExactDateOf", spec := "fnExactDateOf", apart := false }
def FnExactDateOfSaid : Prop := fnExactDateOfRow.holds Try.pinned (OpenSpec.ofChange fnExactDateOfSpec)

/-- ITS FALSE NEIGHBOUR: 'it returns false'. Refute it at one input. -/
def fnExactDateOfWrong : ChangeSpec := { name := "fnExactDateOf", fn := fun _ => fun
  | [d] => { results := [.lit (.bool false)], args := [d] }
  | _ => none }
def FnExactDateOfWrongFalsely : Prop := fnExactDateOfRow.holds Try.pinned (OpenSpec.ofChange fnExactDateOfWrong)

/-- 'laws.FnExactDayOf': WHATEVER THE INPUT: true; the input reads as it did. -/
def fnExactDayOfSpec : ChangeSpec := { name := "fnExactDayOf", fn := fun _ => fun
  | [d1, d2, d3] => { results := [.lit (.bool true)], args := [d1, d2, d3] }
  | _ => none }
def fnExactDayOfRow : OpenClaim := { program := "ytiipncjlaalogaa", sum := "230e133bab264df126ad2d8ad14741e38d1e93435adabb65cc2e7624d417214b", func := "loop.example/g00955/laws.FnExactDayOf", spec := "fnExactDayOf", apart := false }
def FnExactDayOfSaid : Prop := fnExactDayOfRow.holds Try.pinned (OpenSpec.ofChange fnExactDayOfSpec)

/-- ITS FALSE NEIGHBOUR: 'it returns false'. Refute it at one input. -/
def fnExactDayOfWrong : ChangeSpec := { name := "fnExactDayOf", fn := fun _ => fun
  | [d1, d2, d3] => { results := [.lit (.bool false)], args := [d1, d2, d3] }
  | _ => none }
def FnExactDayOfWrongFalsely : Prop := fnExactDayOfRow.holds Try.pinned (OpenSpec.ofChange fnExactDayOfWrong)

/-- 'laws.FnExactCrossOf': WHATEVER THE INPUT: true; the input reads as it did. -/
def fnExactCrossOfSpec : ChangeSpec := { name := "fnExactCrossOf", fn := fun _ => fun
  | [d1, d2] => { results := [.lit (.bool true)], args := [d1, d2] }
  | _ => none }
def fnExactCrossOfRow : OpenClaim := { program := "ytiipncjlaalogaa", sum := "230e133bab264df126ad2d8ad14741e38d1e93435adabb65cc2e7624d417214b", func := "loop.example/g00955/laws.FnExactCrossOf", spec := "fnExactCrossOf", apart := false }
def FnExactCrossOfSaid : Prop := fnExactCrossOfRow.holds Try.pinned (OpenSpec.ofChange fnExactCrossOfSpec)

/-- ITS FALSE NEIGHBOUR: 'it returns false'. Refute it at one input. -/
def fnExactCrossOfWrong : ChangeSpec := { name := "fnExactCrossOf", fn := fun _ => fun
  | [d1, d2] => { results := [.lit (.bool false)], args := [d1, d2] }
  | _ => none }
def FnExactCrossOfWrongFalsely : Prop := fnExactCrossOfRow.holds Try.pinned (OpenSpec.ofChange fnExactCrossOfWrong)

/-- 'laws.FnExactSiderealAngle': WHATEVER THE INPUT: true; the input reads as it did. -/
def fnExactSiderealAngleSpec : ChangeSpec := { name := "fnExactSiderealAngle", fn := fun _ => fun
  | [d1, d2] => { results := [.lit (.bool true)], args := [d1, d2] }
  | _ => none }
def fnExactSiderealAngleRow : OpenClaim := { program := "ytiipncjlaalogaa", sum := "230e133bab264df126ad2d8ad14741e38d1e93435adabb65cc2e7624d417214b", func := "loop.example/g00955/laws.FnExactSiderealAngle", spec := "fnExactSiderealAngle", apart := false }
def FnExactSiderealAngleSaid : Prop := fnExactSiderealAngleRow.holds Try.pinned (OpenSpec.ofChange fnExactSiderealAngleSpec)

/-- ITS FALSE NEIGHBOUR: 'it returns false'. Refute it at one input. -/
def fnExactSiderealAngleWrong : ChangeSpec := { name := "fnExactSiderealAngle", fn := fun _ => fun
  | [d1, d2] => { results := [.lit (.bool false)], args := [d1, d2] }
  | _ => none }
def FnExactSiderealAngleWrongFalsely : Prop := fnExactSiderealAngleRow.holds Try.pinned (OpenSpec.ofChange fnExactSiderealAngleWrong)

/- THE SECOND FORM. 'bulk': how many values and letters a reading holds, each counted each time it is reached (what is shared counts as often as it is met; a slice's spare places count too). A statement '..UptoSaid' is the law's where the arguments, and the package variables that the reading takes, are together of bulk at most 1048576: NARROWER than '..Said'. Prove '..Said' where nothing that the law and all that it calls make is longer than what came in: it says more and counts as full. Else prove '..UptoSaid'. A law counts once. -/
mutual
def uptoBulk {H : Type} : DataW H → Nat
  | .lit (.string bytes) => bytes.length + 1
  | .lit _ => 1
  | .nil => 1
  | .ptr d => uptoBulk d + 1
  | .slice elems spare => uptoBulkAll elems + uptoBulkAll spare + 1
  | .agg parts => uptoBulkAll parts + 1
  | .iface _ d => uptoBulk d + 1
  | .map entries => uptoBulkEntries entries + 1
  | .held _ => 1
def uptoBulkAll {H : Type} : List (DataW H) → Nat
  | [] => 0
  | d :: r => uptoBulk d + uptoBulkAll r
def uptoBulkEntries {H : Type} : List (Lit × DataW H) → Nat
  | [] => 0
  | x :: r => uptoBulkEntry x + uptoBulkEntries r
def uptoBulkEntry {H : Type} : Lit × DataW H → Nat
  | (.string bytes, d) => bytes.length + uptoBulk d + 1
  | (_, d) => uptoBulk d + 1
 end
def uptoSmall : (H : Type) → List (DataW H) → Bool := fun _ ds => decide (uptoBulkAll ds ≤ 1048576)
def OpenSpec.upto (s : _root_.Go.ChangeSpec) : _root_.Go.OpenSpec := { _root_.Go.OpenSpec.ofChange s with cond := some uptoSmall }

/-- 'laws.FnExactIsName', WHERE WHAT IT READS IS OF BULK AT MOST 1048576: true; the input reads as it did. -/
def fnExactIsNameUptoRow : OpenClaim := { program := "ytiipncjlaalogaa", sum := "230e133bab264df126ad2d8ad14741e38d1e93435adabb65cc2e7624d417214b", func := "loop.example/g00955/laws.FnExactIsName", spec := "fnExactIsName", apart := false, narrowed := true }
def FnExactIsNameUptoSaid : Prop := fnExactIsNameUptoRow.holds Try.pinned (OpenSpec.upto fnExactIsNameSpec)

/-- 'laws.FnExactCrc16', WHERE WHAT IT READS IS OF BULK AT MOST 1048576: true; the input reads as it did. -/
def fnExactCrc16UptoRow : OpenClaim := { program := "ytiipncjlaalogaa", sum := "230e133bab264df126ad2d8ad14741e38d1e93435adabb65cc2e7624d417214b", func := "loop.example/g00955/laws.FnExactCrc16", spec := "fnExactCrc16", apart := false, narrowed := true }
def FnExactCrc16UptoSaid : Prop := fnExactCrc16UptoRow.holds Try.pinned (OpenSpec.upto fnExactCrc16Spec)

/-- 'laws.FnExactDivRound', WHERE WHAT IT READS IS OF BULK AT MOST 1048576: true; the input reads as it did. -/
def fnExactDivRoundUptoRow : OpenClaim := { program := "ytiipncjlaalogaa", sum := "230e133bab264df126ad2d8ad14741e38d1e93435adabb65cc2e7624d417214b", func := "loop.example/g00955/laws.FnExactDivRound", spec := "fnExactDivRound", apart := false, narrowed := true }
def FnExactDivRoundUptoSaid : Prop := fnExactDivRoundUptoRow.holds Try.pinned (OpenSpec.upto fnExactDivRoundSpec)

/-- 'laws.FnExactDaysIn', WHERE WHAT IT READS IS OF BULK AT MOST 1048576: true; the input reads as it did. -/
def fnExactDaysInUptoRow : OpenClaim := { program := "ytiipncjlaalogaa", sum := "230e133bab264df126ad2d8ad14741e38d1e93435adabb65cc2e7624d417214b", func := "loop.example/g00955/laws.FnExactDaysIn", spec := "fnExactDaysIn", apart := false, narrowed := true }
def FnExactDaysInUptoSaid : Prop := fnExactDaysInUptoRow.holds Try.pinned (OpenSpec.upto fnExactDaysInSpec)

/-- 'laws.FnExactTurnTowards', WHERE WHAT IT READS IS OF BULK AT MOST 1048576: true; the input reads as it did. -/
def fnExactTurnTowardsUptoRow : OpenClaim := { program := "ytiipncjlaalogaa", sum := "230e133bab264df126ad2d8ad14741e38d1e93435adabb65cc2e7624d417214b", func := "loop.example/g00955/laws.FnExactTurnTowards", spec := "fnExactTurnTowards", apart := false, narrowed := true }
def FnExactTurnTowardsUptoSaid : Prop := fnExactTurnTowardsUptoRow.holds Try.pinned (OpenSpec.upto fnExactTurnTowardsSpec)

/-- 'laws.FnExactMomentAfter', WHERE WHAT IT READS IS OF BULK AT MOST 1048576: true; the input reads as it did. -/
def fnExactMomentAfterUptoRow : OpenClaim := { program := "ytiipncjlaalogaa", sum := "230e133bab264df126ad2d8ad14741e38d1e93435adabb65cc2e7624d417214b", func := "loop.example/g00955/laws.FnExactMomentAfter", spec := "fnExactMomentAfter", apart := false, narrowed := true }
def FnExactMomentAfterUptoSaid : Prop := fnExactMomentAfterUptoRow.holds Try.pinned (OpenSpec.upto fnExactMomentAfterSpec)

/-- 'laws.FnExactDotOf', WHERE WHAT IT READS IS OF BULK AT MOST 1048576: true; the input reads as it did. -/
def fnExactDotOfUptoRow : OpenClaim := { program := "ytiipncjlaalogaa", sum := "230e133bab264df126ad2d8ad14741e38d1e93435adabb65cc2e7624d417214b", func := "loop.example/g00955/laws.FnExactDotOf", spec := "fnExactDotOf", apart := false, narrowed := true }
def FnExactDotOfUptoSaid : Prop := fnExactDotOfUptoRow.holds Try.pinned (OpenSpec.upto fnExactDotOfSpec)

/-- 'laws.FnExactBlend', WHERE WHAT IT READS IS OF BULK AT MOST 1048576: true; the input reads as it did. -/
def fnExactBlendUptoRow : OpenClaim := { program := "ytiipncjlaalogaa", sum := "230e133bab264df126ad2d8ad14741e38d1e93435adabb65cc2e7624d417214b", func := "loop.example/g00955/laws.FnExactBlend", spec := "fnExactBlend", apart := false, narrowed := true }
def FnExactBlendUptoSaid : Prop := fnExactBlendUptoRow.holds Try.pinned (OpenSpec.upto fnExactBlendSpec)

/-- 'laws.FnExactDateOf', WHERE WHAT IT READS IS OF BULK AT MOST 1048576: true; the input reads as it did. -/
def fnExactDateOfUptoRow : OpenClaim := { program := "ytiipncjlaalogaa", sum := "230e133bab264df126ad2d8ad14741e38d1e93435adabb65cc2e7624d417214b", func := "loop.example/g00955/laws.FnExactDateOf", spec := "fnExactDateOf", apart := false, narrowed := true }
def FnExactDateOfUptoSaid : Prop := fnExactDateOfUptoRow.holds Try.pinned (OpenSpec.upto fnExactDateOfSpec)

/-- 'laws.FnExactDayOf', WHERE WHAT IT READS IS OF BULK AT MOST 1048576: true; the input reads as it did. -/
def fnExactDayOfUptoRow : OpenClaim := { program := "ytiipncjlaalogaa", sum := "230e133bab264df126ad2d8ad14741e38d1e93435adabb65cc2e7624d417214b", func := "loop.example/g00955/laws.FnExactDayOf", spec := "fnExactDayOf", apart := false, narrowed := true }
def FnExactDayOfUptoSaid : Prop := fnExactDayOfUptoRow.holds Try.pinned (OpenSpec.upto fnExactDayOfSpec)

/-- 'laws.FnExactCrossOf', WHERE WHAT IT READS IS OF BULK AT MOST 1048576: true; the input reads as it did. -/
def fnExactCrossOfUptoRow : OpenClaim := { program := "ytiipncjlaalogaa", sum := "230e133bab264df126ad2d8ad14741e38d1e93435adabb65cc2e7624d417214b", func := "loop.example/g00955/laws.FnExactCrossOf", spec := "fnExactCrossOf", apart := false, narrowed := true }
def FnExactCrossOfUptoSaid : Prop := fnExactCrossOfUptoRow.holds Try.pinned (OpenSpec.upto fnExactCrossOfSpec)

/-- 'laws.FnExactSiderealAngle', WHERE WHAT IT READS IS OF BULK AT MOST 1048576: true; the input reads as it did. -/
def fnExactSiderealAngleUptoRow : OpenClaim := { program := "ytiipncjlaalogaa", sum := "230e133bab264df126ad2d8ad14741e38d1e93435adabb65cc2e7624d417214b", func := "loop.example/g00955/laws.FnExactSiderealAngle", spec := "fnExactSiderealAngle", apart := false, narrowed := true }
def FnExactSiderealAngleUptoSaid : Prop := fnExactSiderealAngleUptoRow.holds Try.pinned (OpenSpec.upto fnExactSiderealAngleSpec)

end Rows
end Go.Proofs.Ytiipncjlaalogaa
