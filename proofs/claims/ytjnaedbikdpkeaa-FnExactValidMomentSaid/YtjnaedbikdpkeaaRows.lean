/-
  No cell of these rows narrows 'for every input' (looked for: loops, veiled, ifaces, maps, wideKeys, modest, calm, conditions, laid).
  DERIVED. THE GIVEN ROWS OF THIS SEAT. 5 by the template 'for every input the law returns true; each argument reads behind the call as it read before'; 0 by the template 'total and deterministic' (their statements: YtjnaedbikdpkeaaTotals.lean).
  GIVEN WITH THE SEED: the statements are not yours to turn. If you find one false, say at which input.
  Laid BY PROGRAM, IN A SANDBOX (cutbox-rows.mjs): the forced cells as the released guide's own fill.sh prints them over the translation f97b2f364a7c69a1… (all of the seat's roots in one cut). By AI agents, Wed Nov 11 2026. No macro, syntax, notation, axiom, sorry.
-/
import Derived.Test.YtjnaedbikdpkeaaChecked
import GoSem.Claim
import GoSem.ClaimJoined
import GoSem.ClaimMapViews
import Derived.JoinedTies
import Derived.KernelRfl
namespace Go.Proofs.Ytjnaedbikdpkeaa
/- THE CELL 'sum', in the pinned program and in every row, IS THE sha256 OF THE DUMP (.gsa) THAT YtjnaedbikdpkeaaProg.lean LOADS. Nothing in Lean hashes anything: it is a label: what it is worth is what the hold of that sum in a sandbox is worth. -/
noncomputable def Try.pinned : Pinned := { name := "ytjnaedbikdpkeaa", sum := "f97b2f364a7c69a1a8e0f376a3b5da5366ebf5e0174be1452df88940968b2a66", checked := Try.checked }
namespace Rows
def none {H : Type} : Left H := { results := [], args := [] }

/-- 'laws.FnExactConstants': WHATEVER THE INPUT: true; the input reads as it did. -/
def fnExactConstantsSpec : ChangeSpec := { name := "fnExactConstants", fn := fun _ => fun
  | [] => { results := [.lit (.bool true)], args := [] }
  | _ => none }
def fnExactConstantsRow : OpenClaim := { program := "ytjnaedbikdpkeaa", sum := "f97b2f364a7c69a1a8e0f376a3b5da5366ebf5e0174be1452df88940968b2a66", func := "loop.example/g00955/laws.FnExactConstants", spec := "fnExactConstants", apart := false }
def FnExactConstantsSaid : Prop := fnExactConstantsRow.holds Try.pinned (OpenSpec.ofChange fnExactConstantsSpec)

/-- ITS FALSE NEIGHBOUR: 'it returns false'. Refute it at one input. -/
def fnExactConstantsWrong : ChangeSpec := { name := "fnExactConstants", fn := fun _ => fun
  | [] => { results := [.lit (.bool false)], args := [] }
  | _ => none }
def FnExactConstantsWrongFalsely : Prop := fnExactConstantsRow.holds Try.pinned (OpenSpec.ofChange fnExactConstantsWrong)

/-- 'laws.FnExactNormalAngle': WHATEVER THE INPUT: true; the input reads as it did. -/
def fnExactNormalAngleSpec : ChangeSpec := { name := "fnExactNormalAngle", fn := fun _ => fun
  | [d] => { results := [.lit (.bool true)], args := [d] }
  | _ => none }
def fnExactNormalAngleRow : OpenClaim := { program := "ytjnaedbikdpkeaa", sum := "f97b2f364a7c69a1a8e0f376a3b5da5366ebf5e0174be1452df88940968b2a66", func := "loop.example/g00955/laws.FnExactNormalAngle", spec := "fnExactNormalAngle", apart := false }
def FnExactNormalAngleSaid : Prop := fnExactNormalAngleRow.holds Try.pinned (OpenSpec.ofChange fnExactNormalAngleSpec)

/-- ITS FALSE NEIGHBOUR: 'it returns false'. Refute it at one input. -/
def fnExactNormalAngleWrong : ChangeSpec := { name := "fnExactNormalAngle", fn := fun _ => fun
  | [d] => { results := [.lit (.bool false)], args := [d] }
  | _ => none }
def FnExactNormalAngleWrongFalsely : Prop := fnExactNormalAngleRow.holds Try.pinned (OpenSpec.ofChange fnExactNormalAngleWrong)

/-- 'laws.FnExactAngleOfHours': WHATEVER THE INPUT: true; the input reads as it did. -/
def fnExactAngleOfHoursSpec : ChangeSpec := { name := "fnExactAngleOfHours", fn := fun _ => fun
  | [d1, d2] => { results := [.lit (.bool true)], args := [d1, d2] }
  | _ => none }
def fnExactAngleOfHoursRow : OpenClaim := { program := "ytjnaedbikdpkeaa", sum := "f97b2f364a7c69a1a8e0f376a3b5da5366ebf5e0174be1452df88940968b2a66", func := "loop.example/g00955/laws.FnExactAngleOfHours", spec := "fnExactAngleOfHours", apart := false }
def FnExactAngleOfHoursSaid : Prop := fnExactAngleOfHoursRow.holds Try.pinned (OpenSpec.ofChange fnExactAngleOfHoursSpec)

/-- ITS FALSE NEIGHBOUR: 'it returns false'. Refute it at one input. -/
def fnExactAngleOfHoursWrong : ChangeSpec := { name := "fnExactAngleOfHours", fn := fun _ => fun
  | [d1, d2] => { results := [.lit (.bool false)], args := [d1, d2] }
  | _ => none }
def FnExactAngleOfHoursWrongFalsely : Prop := fnExactAngleOfHoursRow.holds Try.pinned (OpenSpec.ofChange fnExactAngleOfHoursWrong)

/-- 'laws.FnExactHoursOf': WHATEVER THE INPUT: true; the input reads as it did. -/
def fnExactHoursOfSpec : ChangeSpec := { name := "fnExactHoursOf", fn := fun _ => fun
  | [d] => { results := [.lit (.bool true)], args := [d] }
  | _ => none }
def fnExactHoursOfRow : OpenClaim := { program := "ytjnaedbikdpkeaa", sum := "f97b2f364a7c69a1a8e0f376a3b5da5366ebf5e0174be1452df88940968b2a66", func := "loop.example/g00955/laws.FnExactHoursOf", spec := "fnExactHoursOf", apart := false }
def FnExactHoursOfSaid : Prop := fnExactHoursOfRow.holds Try.pinned (OpenSpec.ofChange fnExactHoursOfSpec)

/-- ITS FALSE NEIGHBOUR: 'it returns false'. Refute it at one input. -/
def fnExactHoursOfWrong : ChangeSpec := { name := "fnExactHoursOf", fn := fun _ => fun
  | [d] => { results := [.lit (.bool false)], args := [d] }
  | _ => none }
def FnExactHoursOfWrongFalsely : Prop := fnExactHoursOfRow.holds Try.pinned (OpenSpec.ofChange fnExactHoursOfWrong)

/-- 'laws.FnExactValidMoment': WHATEVER THE INPUT: true; the input reads as it did. -/
def fnExactValidMomentSpec : ChangeSpec := { name := "fnExactValidMoment", fn := fun _ => fun
  | [d] => { results := [.lit (.bool true)], args := [d] }
  | _ => none }
def fnExactValidMomentRow : OpenClaim := { program := "ytjnaedbikdpkeaa", sum := "f97b2f364a7c69a1a8e0f376a3b5da5366ebf5e0174be1452df88940968b2a66", func := "loop.example/g00955/laws.FnExactValidMoment", spec := "fnExactValidMoment", apart := false }
def FnExactValidMomentSaid : Prop := fnExactValidMomentRow.holds Try.pinned (OpenSpec.ofChange fnExactValidMomentSpec)

/-- ITS FALSE NEIGHBOUR: 'it returns false'. Refute it at one input. -/
def fnExactValidMomentWrong : ChangeSpec := { name := "fnExactValidMoment", fn := fun _ => fun
  | [d] => { results := [.lit (.bool false)], args := [d] }
  | _ => none }
def FnExactValidMomentWrongFalsely : Prop := fnExactValidMomentRow.holds Try.pinned (OpenSpec.ofChange fnExactValidMomentWrong)

/- THE SECOND FORM. 'bulk': how many values and letters a reading holds, each counted each time it is reached (what is shared counts as often as it is met; a slice's spare places count too). A statement '..UptoSaid' is the law's where the arguments, and the package variables that the reading takes, are together of bulk at most 1048576: NARROWER than '..Said'. Prove '..Said' where nothing that the law and all that it calls make is longer than what came in: it says more and counts as full. Else prove '..UptoSaid'. A law counts once. -/
mutual
def uptoBulk {H : Type} : DataW H → Nat
  | .lit (.string bytes) => bytes.length + 1
  | .lit _ => 1
  | .nil => 1
  | .ptr d => uptoBulk d + 1
  | .slice elems spare => uptoBulkAll elems + uptoBulkAll spare + 1
  | .agg parts => uptoBulkAll parts + 1
  | .iface _ d => uptoBulk d + 1
  | .map entries => uptoBulkEntries entries + 1
  | .held _ => 1
def uptoBulkAll {H : Type} : List (DataW H) → Nat
  | [] => 0
  | d :: r => uptoBulk d + uptoBulkAll r
def uptoBulkEntries {H : Type} : List (Lit × DataW H) → Nat
  | [] => 0
  | x :: r => uptoBulkEntry x + uptoBulkEntries r
def uptoBulkEntry {H : Type} : Lit × DataW H → Nat
  | (.string bytes, d) => bytes.length + uptoBulk d + 1
  | (_, d) => uptoBulk d + 1
 end
def uptoSmall : (H : Type) → List (DataW H) → Bool := fun _ ds => decide (uptoBulkAll ds ≤ 1048576)
def OpenSpec.upto (s : _root_.Go.ChangeSpec) : _root_.Go.OpenSpec := { _root_.Go.OpenSpec.ofChange s with cond := some uptoSmall }

/-- 'laws.FnExactConstants', WHERE WHAT IT READS IS OF BULK AT MOST 1048576: true; the input reads as it did. -/
def fnExactConstantsUptoRow : OpenClaim := { program := "ytjnaedbikdpkeaa", sum := "f97b2f364a7c69a1a8e0f376a3b5da5366ebf5e0174be1452df88940968b2a66", func := "loop.example/g00955/laws.FnExactConstants", spec := "fnExactConstants", apart := false, narrowed := true }
def FnExactConstantsUptoSaid : Prop := fnExactConstantsUptoRow.holds Try.pinned (OpenSpec.upto fnExactConstantsSpec)

/-- 'laws.FnExactNormalAngle', WHERE WHAT IT READS IS OF BULK AT MOST 1048576: true; the input reads as it did. -/
def fnExactNormalAngleUptoRow : OpenClaim := { program := "ytjnaedbikdpkeaa", sum := "f97b2f364a7c69a1a8e0f376a3b5da5366ebf5e0174be1452df88940968b2a66", func := "loop.example/g00955/laws.FnExactNormalAngle", spec := "fnExactNormalAngle", apart := false, narrowed := true }
def FnExactNormalAngleUptoSaid : Prop := fnExactNormalAngleUptoRow.holds Try.pinned (OpenSpec.upto fnExactNormalAngleSpec)

/-- 'laws.FnExactAngleOfHours', WHERE WHAT IT READS IS OF BULK AT MOST 1048576: true; the input reads as it did. -/
def fnExactAngleOfHoursUptoRow : OpenClaim := { program := "ytjnaedbikdpkeaa", sum := "f97b2f364a7c69a1a8e0f376a3b5da5366ebf5e0174be1452df88940968b2a66", func := "loop.example/g00955/laws.FnExactAngleOfHours", spec := "fnExactAngleOfHours", apart := false, narrowed := true }
def FnExactAngleOfHoursUptoSaid : Prop := fnExactAngleOfHoursUptoRow.holds Try.pinned (OpenSpec.upto fnExactAngleOfHoursSpec)

/-- 'laws.FnExactHoursOf', WHERE WHAT IT READS IS OF BULK AT MOST 1048576: true; the input reads as it did. -/
def fnExactHoursOfUptoRow : OpenClaim := { program := "ytjnaedbikdpkeaa", sum := "f97b2f364a7c69a1a8e0f376a3b5da5366ebf5e0174be1452df88940968b2a66", func := "loop.example/g00955/laws.FnExactHoursOf", spec := "fnExactHoursOf", apart := false, narrowed := true }
def FnExactHoursOfUptoSaid : Prop := fnExactHoursOfUptoRow.holds Try.pinned (OpenSpec.upto fnExactHoursOfSpec)

/-- 'laws.FnExactValidMoment', WHERE WHAT IT READS IS OF BULK AT MOST 1048576: true; the input reads as it did. -/
def fnExactValidMomentUptoRow : OpenClaim := { program := "ytjnaedbikdpkeaa", sum := "f97b2f364a7c69a1a8e0f376a3b5da5366ebf5e0174be1452df88940968b2a66", func := "loop.example/g00955/laws.FnExactValidMoment", spec := "fnExactValidMoment", apart := false, narrowed := true }
def FnExactValidMomentUptoSaid : Prop := fnExactValidMomentUptoRow.holds Try.pinned (OpenSpec.upto fnExactValidMomentSpec)

end Rows
end Go.Proofs.Ytjnaedbikdpkeaa
