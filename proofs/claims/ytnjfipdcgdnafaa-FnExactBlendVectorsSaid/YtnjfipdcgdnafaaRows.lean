/-
  No cell of these rows narrows 'for every input' (looked for: loops, veiled, ifaces, maps, wideKeys, modest, calm, conditions, laid).
  DERIVED. THE GIVEN ROWS OF THIS SEAT. 10 by the template 'for every input the law returns true; each argument reads behind the call as it read before'; 0 by the template 'total and deterministic' (their statements: YtnjfipdcgdnafaaTotals.lean).
  GIVEN WITH THE SEED: the statements are not yours to turn. If you find one false, say at which input.
  Laid BY PROGRAM, IN A SANDBOX (cutbox-rows.mjs): the forced cells as the released guide's own fill.sh prints them over the translation a7d4c58255b9e3a2… (all of the seat's roots in one cut). By AI agents, Wed Nov 11 2026. No macro, syntax, notation, axiom, sorry.
-/
import Derived.Test.YtnjfipdcgdnafaaChecked
import GoSem.Claim
import GoSem.ClaimJoined
import GoSem.ClaimMapViews
import Derived.JoinedTies
import Derived.KernelRfl
namespace Go.Proofs.Ytnjfipdcgdnafaa
/- THE CELL 'sum', in the pinned program and in every row, IS THE sha256 OF THE DUMP (.gsa) THAT YtnjfipdcgdnafaaProg.lean LOADS. Nothing in Lean hashes anything: it is a label: what it is worth is what the hold of that sum in a sandbox is worth. -/
noncomputable def Try.pinned : Pinned := { name := "ytnjfipdcgdnafaa", sum := "a7d4c58255b9e3a2b299074c2809b16a2855d805acd049ea26dc94775c75867f", checked := Try.checked }
namespace Rows
def none {H : Type} : Left H := { results := [], args := [] }

/-- 'laws.FnExactValidVector': WHATEVER THE INPUT: true; the input reads as it did. -/
def fnExactValidVectorSpec : ChangeSpec := { name := "fnExactValidVector", fn := fun _ => fun
  | [d] => { results := [.lit (.bool true)], args := [d] }
  | _ => none }
def fnExactValidVectorRow : OpenClaim := { program := "ytnjfipdcgdnafaa", sum := "a7d4c58255b9e3a2b299074c2809b16a2855d805acd049ea26dc94775c75867f", func := "loop.example/g00955/laws.FnExactValidVector", spec := "fnExactValidVector", apart := false }
def FnExactValidVectorSaid : Prop := fnExactValidVectorRow.holds Try.pinned (OpenSpec.ofChange fnExactValidVectorSpec)

/-- ITS FALSE NEIGHBOUR: 'it returns false'. Refute it at one input. -/
def fnExactValidVectorWrong : ChangeSpec := { name := "fnExactValidVector", fn := fun _ => fun
  | [d] => { results := [.lit (.bool false)], args := [d] }
  | _ => none }
def FnExactValidVectorWrongFalsely : Prop := fnExactValidVectorRow.holds Try.pinned (OpenSpec.ofChange fnExactValidVectorWrong)

/-- 'laws.FnExactSignedBetween': WHATEVER THE INPUT: true; the input reads as it did. -/
def fnExactSignedBetweenSpec : ChangeSpec := { name := "fnExactSignedBetween", fn := fun _ => fun
  | [d1, d2] => { results := [.lit (.bool true)], args := [d1, d2] }
  | _ => none }
def fnExactSignedBetweenRow : OpenClaim := { program := "ytnjfipdcgdnafaa", sum := "a7d4c58255b9e3a2b299074c2809b16a2855d805acd049ea26dc94775c75867f", func := "loop.example/g00955/laws.FnExactSignedBetween", spec := "fnExactSignedBetween", apart := false }
def FnExactSignedBetweenSaid : Prop := fnExactSignedBetweenRow.holds Try.pinned (OpenSpec.ofChange fnExactSignedBetweenSpec)

/-- ITS FALSE NEIGHBOUR: 'it returns false'. Refute it at one input. -/
def fnExactSignedBetweenWrong : ChangeSpec := { name := "fnExactSignedBetween", fn := fun _ => fun
  | [d1, d2] => { results := [.lit (.bool false)], args := [d1, d2] }
  | _ => none }
def FnExactSignedBetweenWrongFalsely : Prop := fnExactSignedBetweenRow.holds Try.pinned (OpenSpec.ofChange fnExactSignedBetweenWrong)

/-- 'laws.FnExactAngleBetween': WHATEVER THE INPUT: true; the input reads as it did. -/
def fnExactAngleBetweenSpec : ChangeSpec := { name := "fnExactAngleBetween", fn := fun _ => fun
  | [d1, d2] => { results := [.lit (.bool true)], args := [d1, d2] }
  | _ => none }
def fnExactAngleBetweenRow : OpenClaim := { program := "ytnjfipdcgdnafaa", sum := "a7d4c58255b9e3a2b299074c2809b16a2855d805acd049ea26dc94775c75867f", func := "loop.example/g00955/laws.FnExactAngleBetween", spec := "fnExactAngleBetween", apart := false }
def FnExactAngleBetweenSaid : Prop := fnExactAngleBetweenRow.holds Try.pinned (OpenSpec.ofChange fnExactAngleBetweenSpec)

/-- ITS FALSE NEIGHBOUR: 'it returns false'. Refute it at one input. -/
def fnExactAngleBetweenWrong : ChangeSpec := { name := "fnExactAngleBetween", fn := fun _ => fun
  | [d1, d2] => { results := [.lit (.bool false)], args := [d1, d2] }
  | _ => none }
def FnExactAngleBetweenWrongFalsely : Prop := fnExactAngleBetweenRow.holds Try.pinned (OpenSpec.ofChange fnExactAngleBetweenWrong)

/-- 'laws.FnExactMilliBetween': WHATEVER THE INPUT: true; the input reads as it did. -/
def fnExactMilliBetweenSpec : ChangeSpec := { name := "fnExactMilliBetween", fn := fun _ => fun
  | [d1, d2] => { results := [.lit (.bool true)], args := [d1, d2] }
  | _ => none }
def fnExactMilliBetweenRow : OpenClaim := { program := "ytnjfipdcgdnafaa", sum := "a7d4c58255b9e3a2b299074c2809b16a2855d805acd049ea26dc94775c75867f", func := "loop.example/g00955/laws.FnExactMilliBetween", spec := "fnExactMilliBetween", apart := false }
def FnExactMilliBetweenSaid : Prop := fnExactMilliBetweenRow.holds Try.pinned (OpenSpec.ofChange fnExactMilliBetweenSpec)

/-- ITS FALSE NEIGHBOUR: 'it returns false'. Refute it at one input. -/
def fnExactMilliBetweenWrong : ChangeSpec := { name := "fnExactMilliBetween", fn := fun _ => fun
  | [d1, d2] => { results := [.lit (.bool false)], args := [d1, d2] }
  | _ => none }
def FnExactMilliBetweenWrongFalsely : Prop := fnExactMilliBetweenRow.holds Try.pinned (OpenSpec.ofChange fnExactMilliBetweenWrong)

/-- 'laws.FnExactColourName': WHATEVER THE INPUT: true; the input reads as it did. -/
def fnExactColourNameSpec : ChangeSpec := { name := "fnExactColourName", fn := fun _ => fun
  | [d] => { results := [.lit (.bool true)], args := [d] }
  | _ => none }
def fnExactColourNameRow : OpenClaim := { program := "ytnjfipdcgdnafaa", sum := "a7d4c58255b9e3a2b299074c2809b16a2855d805acd049ea26dc94775c75867f", func := "loop.example/g00955/laws.FnExactColourName", spec := "fnExactColourName", apart := false }
def FnExactColourNameSaid : Prop := fnExactColourNameRow.holds Try.pinned (OpenSpec.ofChange fnExactColourNameSpec)

/-- ITS FALSE NEIGHBOUR: 'it returns false'. Refute it at one input. -/
def fnExactColourNameWrong : ChangeSpec := { name := "fnExactColourName", fn := fun _ => fun
  | [d] => { results := [.lit (.bool false)], args := [d] }
  | _ => none }
def FnExactColourNameWrongFalsely : Prop := fnExactColourNameRow.holds Try.pinned (OpenSpec.ofChange fnExactColourNameWrong)

/-- 'laws.FnExactNextSidereal': WHATEVER THE INPUT: true; the input reads as it did. -/
def fnExactNextSiderealSpec : ChangeSpec := { name := "fnExactNextSidereal", fn := fun _ => fun
  | [d1, d2, d3] => { results := [.lit (.bool true)], args := [d1, d2, d3] }
  | _ => none }
def fnExactNextSiderealRow : OpenClaim := { program := "ytnjfipdcgdnafaa", sum := "a7d4c58255b9e3a2b299074c2809b16a2855d805acd049ea26dc94775c75867f", func := "loop.example/g00955/laws.FnExactNextSidereal", spec := "fnExactNextSidereal", apart := false }
def FnExactNextSiderealSaid : Prop := fnExactNextSiderealRow.holds Try.pinned (OpenSpec.ofChange fnExactNextSiderealSpec)

/-- ITS FALSE NEIGHBOUR: 'it returns false'. Refute it at one input. -/
def fnExactNextSiderealWrong : ChangeSpec := { name := "fnExactNextSidereal", fn := fun _ => fun
  | [d1, d2, d3] => { results := [.lit (.bool false)], args := [d1, d2, d3] }
  | _ => none }
def FnExactNextSiderealWrongFalsely : Prop := fnExactNextSiderealRow.holds Try.pinned (OpenSpec.ofChange fnExactNextSiderealWrong)

/-- 'laws.FnExactRootOf': WHATEVER THE INPUT: true; the input reads as it did. -/
def fnExactRootOfSpec : ChangeSpec := { name := "fnExactRootOf", fn := fun _ => fun
  | [d] => { results := [.lit (.bool true)], args := [d] }
  | _ => none }
def fnExactRootOfRow : OpenClaim := { program := "ytnjfipdcgdnafaa", sum := "a7d4c58255b9e3a2b299074c2809b16a2855d805acd049ea26dc94775c75867f", func := "loop.example/g00955/laws.FnExactRootOf", spec := "fnExactRootOf", inPlace := ["math.sqrt"], apart := false }
def FnExactRootOfSaid : Prop := fnExactRootOfRow.holds Try.pinned (OpenSpec.ofChange fnExactRootOfSpec)

/-- ITS FALSE NEIGHBOUR: 'it returns false'. Refute it at one input. -/
def fnExactRootOfWrong : ChangeSpec := { name := "fnExactRootOf", fn := fun _ => fun
  | [d] => { results := [.lit (.bool false)], args := [d] }
  | _ => none }
def FnExactRootOfWrongFalsely : Prop := fnExactRootOfRow.holds Try.pinned (OpenSpec.ofChange fnExactRootOfWrong)

/-- 'laws.FnExactLengthOf': WHATEVER THE INPUT: true; the input reads as it did. -/
def fnExactLengthOfSpec : ChangeSpec := { name := "fnExactLengthOf", fn := fun _ => fun
  | [d] => { results := [.lit (.bool true)], args := [d] }
  | _ => none }
def fnExactLengthOfRow : OpenClaim := { program := "ytnjfipdcgdnafaa", sum := "a7d4c58255b9e3a2b299074c2809b16a2855d805acd049ea26dc94775c75867f", func := "loop.example/g00955/laws.FnExactLengthOf", spec := "fnExactLengthOf", inPlace := ["math.sqrt"], apart := false }
def FnExactLengthOfSaid : Prop := fnExactLengthOfRow.holds Try.pinned (OpenSpec.ofChange fnExactLengthOfSpec)

/-- ITS FALSE NEIGHBOUR: 'it returns false'. Refute it at one input. -/
def fnExactLengthOfWrong : ChangeSpec := { name := "fnExactLengthOf", fn := fun _ => fun
  | [d] => { results := [.lit (.bool false)], args := [d] }
  | _ => none }
def FnExactLengthOfWrongFalsely : Prop := fnExactLengthOfRow.holds Try.pinned (OpenSpec.ofChange fnExactLengthOfWrong)

/-- 'laws.FnExactNormalVector': WHATEVER THE INPUT: true; the input reads as it did. -/
def fnExactNormalVectorSpec : ChangeSpec := { name := "fnExactNormalVector", fn := fun _ => fun
  | [d] => { results := [.lit (.bool true)], args := [d] }
  | _ => none }
def fnExactNormalVectorRow : OpenClaim := { program := "ytnjfipdcgdnafaa", sum := "a7d4c58255b9e3a2b299074c2809b16a2855d805acd049ea26dc94775c75867f", func := "loop.example/g00955/laws.FnExactNormalVector", spec := "fnExactNormalVector", inPlace := ["math.sqrt"], apart := false }
def FnExactNormalVectorSaid : Prop := fnExactNormalVectorRow.holds Try.pinned (OpenSpec.ofChange fnExactNormalVectorSpec)

/-- ITS FALSE NEIGHBOUR: 'it returns false'. Refute it at one input. -/
def fnExactNormalVectorWrong : ChangeSpec := { name := "fnExactNormalVector", fn := fun _ => fun
  | [d] => { results := [.lit (.bool false)], args := [d] }
  | _ => none }
def FnExactNormalVectorWrongFalsely : Prop := fnExactNormalVectorRow.holds Try.pinned (OpenSpec.ofChange fnExactNormalVectorWrong)

/-- 'laws.FnExactBlendVectors': WHATEVER THE INPUT: true; the input reads as it did. -/
def fnExactBlendVectorsSpec : ChangeSpec := { name := "fnExactBlendVectors", fn := fun _ => fun
  | [d1, d2, d3] => { results := [.lit (.bool true)], args := [d1, d2, d3] }
  | _ => none }
def fnExactBlendVectorsRow : OpenClaim := { program := "ytnjfipdcgdnafaa", sum := "a7d4c58255b9e3a2b299074c2809b16a2855d805acd049ea26dc94775c75867f", func := "loop.example/g00955/laws.FnExactBlendVectors", spec := "fnExactBlendVectors", inPlace := ["math.sqrt"], apart := false }
def FnExactBlendVectorsSaid : Prop := fnExactBlendVectorsRow.holds Try.pinned (OpenSpec.ofChange fnExactBlendVectorsSpec)

/-- ITS FALSE NEIGHBOUR: 'it returns false'. Refute it at one input. -/
def fnExactBlendVectorsWrong : ChangeSpec := { name := "fnExactBlendVectors", fn := fun _ => fun
  | [d1, d2, d3] => { results := [.lit (.bool false)], args := [d1, d2, d3] }
  | _ => none }
def FnExactBlendVectorsWrongFalsely : Prop := fnExactBlendVectorsRow.holds Try.pinned (OpenSpec.ofChange fnExactBlendVectorsWrong)

/- THE SECOND FORM. 'bulk': how many values and letters a reading holds, each counted each time it is reached (what is shared counts as often as it is met; a slice's spare places count too). A statement '..UptoSaid' is the law's where the arguments, and the package variables that the reading takes, are together of bulk at most 1048576: NARROWER than '..Said'. Prove '..Said' where nothing that the law and all that it calls make is longer than what came in: it says more and counts as full. Else prove '..UptoSaid'. A law counts once. -/
mutual
def uptoBulk {H : Type} : DataW H → Nat
  | .lit (.string bytes) => bytes.length + 1
  | .lit _ => 1
  | .nil => 1
  | .ptr d => uptoBulk d + 1
  | .slice elems spare => uptoBulkAll elems + uptoBulkAll spare + 1
  | .agg parts => uptoBulkAll parts + 1
  | .iface _ d => uptoBulk d + 1
  | .map entries => uptoBulkEntries entries + 1
  | .held _ => 1
def uptoBulkAll {H : Type} : List (DataW H) → Nat
  | [] => 0
  | d :: r => uptoBulk d + uptoBulkAll r
def uptoBulkEntries {H : Type} : List (Lit × DataW H) → Nat
  | [] => 0
  | x :: r => uptoBulkEntry x + uptoBulkEntries r
def uptoBulkEntry {H : Type} : Lit × DataW H → Nat
  | (.string bytes, d) => bytes.length + uptoBulk d + 1
  | (_, d) => uptoBulk d + 1
 end
def uptoSmall : (H : Type) → List (DataW H) → Bool := fun _ ds => decide (uptoBulkAll ds ≤ 1048576)
def OpenSpec.upto (s : _root_.Go.ChangeSpec) : _root_.Go.OpenSpec := { _root_.Go.OpenSpec.ofChange s with cond := some uptoSmall }

/-- 'laws.FnExactValidVector', WHERE WHAT IT READS IS OF BULK AT MOST 1048576: true; the input reads as it did. -/
def fnExactValidVectorUptoRow : OpenClaim := { program := "ytnjfipdcgdnafaa", sum := "a7d4c58255b9e3a2b299074c2809b16a2855d805acd049ea26dc94775c75867f", func := "loop.example/g00955/laws.FnExactValidVector", spec := "fnExactValidVector", apart := false, narrowed := true }
def FnExactValidVectorUptoSaid : Prop := fnExactValidVectorUptoRow.holds Try.pinned (OpenSpec.upto fnExactValidVectorSpec)

/-- 'laws.FnExactSignedBetween', WHERE WHAT IT READS IS OF BULK AT MOST 1048576: true; the input reads as it did. -/
def fnExactSignedBetweenUptoRow : OpenClaim := { program := "ytnjfipdcgdnafaa", sum := "a7d4c58255b9e3a2b299074c2809b16a2855d805acd049ea26dc94775c75867f", func := "loop.example/g00955/laws.FnExactSignedBetween", spec := "fnExactSignedBetween", apart := false, narrowed := true }
def FnExactSignedBetweenUptoSaid : Prop := fnExactSignedBetweenUptoRow.holds Try.pinned (OpenSpec.upto fnExactSignedBetweenSpec)

/-- 'laws.FnExactAngleBetween', WHERE WHAT IT READS IS OF BULK AT MOST 1048576: true; the input reads as it did. -/
def fnExactAngleBetweenUptoRow : OpenClaim := { program := "ytnjfipdcgdnafaa", sum := "a7d4c58255b9e3a2b299074c2809b16a2855d805acd049ea26dc94775c75867f", func := "loop.example/g00955/laws.FnExactAngleBetween", spec := "fnExactAngleBetween", apart := false, narrowed := true }
def FnExactAngleBetweenUptoSaid : Prop := fnExactAngleBetweenUptoRow.holds Try.pinned (OpenSpec.upto fnExactAngleBetweenSpec)

/-- 'laws.FnExactMilliBetween', WHERE WHAT IT READS IS OF BULK AT MOST 1048576: true; the input reads as it did. -/
def fnExactMilliBetweenUptoRow : OpenClaim := { program := "ytnjfipdcgdnafaa", sum := "a7d4c58255b9e3a2b299074c2809b16a2855d805acd049ea26dc94775c75867f", func := "loop.example/g00955/laws.FnExactMilliBetween", spec := "fnExactMilliBetween", apart := false, narrowed := true }
def FnExactMilliBetweenUptoSaid : Prop := fnExactMilliBetweenUptoRow.holds Try.pinned (OpenSpec.upto fnExactMilliBetweenSpec)

/-- 'laws.FnExactColourName', WHERE WHAT IT READS IS OF BULK AT MOST 1048576: true; the input reads as it did. -/
def fnExactColourNameUptoRow : OpenClaim := { program := "ytnjfipdcgdnafaa", sum := "a7d4c58255b9e3a2b299074c2809b16a2855d805acd049ea26dc94775c75867f", func := "loop.example/g00955/laws.FnExactColourName", spec := "fnExactColourName", apart := false, narrowed := true }
def FnExactColourNameUptoSaid : Prop := fnExactColourNameUptoRow.holds Try.pinned (OpenSpec.upto fnExactColourNameSpec)

/-- 'laws.FnExactNextSidereal', WHERE WHAT IT READS IS OF BULK AT MOST 1048576: true; the input reads as it did. -/
def fnExactNextSiderealUptoRow : OpenClaim := { program := "ytnjfipdcgdnafaa", sum := "a7d4c58255b9e3a2b299074c2809b16a2855d805acd049ea26dc94775c75867f", func := "loop.example/g00955/laws.FnExactNextSidereal", spec := "fnExactNextSidereal", apart := false, narrowed := true }
def FnExactNextSiderealUptoSaid : Prop := fnExactNextSiderealUptoRow.holds Try.pinned (OpenSpec.upto fnExactNextSiderealSpec)

/-- 'laws.FnExactRootOf', WHERE WHAT IT READS IS OF BULK AT MOST 1048576: true; the input reads as it did. -/
def fnExactRootOfUptoRow : OpenClaim := { program := "ytnjfipdcgdnafaa", sum := "a7d4c58255b9e3a2b299074c2809b16a2855d805acd049ea26dc94775c75867f", func := "loop.example/g00955/laws.FnExactRootOf", spec := "fnExactRootOf", inPlace := ["math.sqrt"], apart := false, narrowed := true }
def FnExactRootOfUptoSaid : Prop := fnExactRootOfUptoRow.holds Try.pinned (OpenSpec.upto fnExactRootOfSpec)

/-- 'laws.FnExactLengthOf', WHERE WHAT IT READS IS OF BULK AT MOST 1048576: true; the input reads as it did. -/
def fnExactLengthOfUptoRow : OpenClaim := { program := "ytnjfipdcgdnafaa", sum := "a7d4c58255b9e3a2b299074c2809b16a2855d805acd049ea26dc94775c75867f", func := "loop.example/g00955/laws.FnExactLengthOf", spec := "fnExactLengthOf", inPlace := ["math.sqrt"], apart := false, narrowed := true }
def FnExactLengthOfUptoSaid : Prop := fnExactLengthOfUptoRow.holds Try.pinned (OpenSpec.upto fnExactLengthOfSpec)

/-- 'laws.FnExactNormalVector', WHERE WHAT IT READS IS OF BULK AT MOST 1048576: true; the input reads as it did. -/
def fnExactNormalVectorUptoRow : OpenClaim := { program := "ytnjfipdcgdnafaa", sum := "a7d4c58255b9e3a2b299074c2809b16a2855d805acd049ea26dc94775c75867f", func := "loop.example/g00955/laws.FnExactNormalVector", spec := "fnExactNormalVector", inPlace := ["math.sqrt"], apart := false, narrowed := true }
def FnExactNormalVectorUptoSaid : Prop := fnExactNormalVectorUptoRow.holds Try.pinned (OpenSpec.upto fnExactNormalVectorSpec)

/-- 'laws.FnExactBlendVectors', WHERE WHAT IT READS IS OF BULK AT MOST 1048576: true; the input reads as it did. -/
def fnExactBlendVectorsUptoRow : OpenClaim := { program := "ytnjfipdcgdnafaa", sum := "a7d4c58255b9e3a2b299074c2809b16a2855d805acd049ea26dc94775c75867f", func := "loop.example/g00955/laws.FnExactBlendVectors", spec := "fnExactBlendVectors", inPlace := ["math.sqrt"], apart := false, narrowed := true }
def FnExactBlendVectorsUptoSaid : Prop := fnExactBlendVectorsUptoRow.holds Try.pinned (OpenSpec.upto fnExactBlendVectorsSpec)

end Rows
end Go.Proofs.Ytnjfipdcgdnafaa
