/-
  DERIVED. GIVEN WITH THE SEED: THE CARDS: each row of YtghagmjpcebmjaaDoorRows.lean that lists a variable, with what it lists TIED to the program's text (the seventh form; the later family's looks); each row that meets fmt, with fmt's text TOLD by the authors' own Lean function (tested against real Go, not proved from fmt's source: count such statements apart). THE CARD IS WHAT COUNTS. Prove the row's statement (the work); the ties are given (YtghagmjpcebmjaaDoorTie.lean); close each card by the builder's one call (the guide's Derived/Test/ToyasCard.lean, 'card_holds'). Laid BY PROGRAM, IN A SANDBOX (cutbox-door.mjs). By AI agents, Wed Nov 11 2026. No macro, syntax, notation, axiom, sorry.
-/
import Derived.Test.YtghagmjpcebmjaaDoorRows
import GoSem.ClaimSeven
namespace Go.Proofs.YtghagmjpcebmjaaDoor
namespace Rows

/-- THE TIED CARD OF 'laws.FnExactDecimal'. -/
def fnExactDecimalCard : Claim7 := { stood := { row := fnExactDecimalRow, standIns := [], harness := (true, "0208c9499da1e6a4f21bc62f30b1815beb821140d4051f80b8383066d77dbe34"), looks := true }, kinds := [], alts := [], laidByText := true, laidKinds := [.data, .data, .data], laidTests := true, laidLooks := .later }
def FnExactDecimalCardSaid : Prop := Claim7.holds Tryd.pinned (.plain (OpenSpec.ofChange fnExactDecimalSpec)) fnExactDecimalCard

/-- THE TIED CARD OF 'laws.FnExactAngleText'. -/
def fnExactAngleTextCard : Claim7 := { stood := { row := fnExactAngleTextRow, standIns := [], harness := (true, "0208c9499da1e6a4f21bc62f30b1815beb821140d4051f80b8383066d77dbe34"), looks := true }, kinds := [], alts := [], laidByText := true, laidKinds := [.data, .data, .data], laidTests := true, laidLooks := .later }
def FnExactAngleTextCardSaid : Prop := Claim7.holds Tryd.pinned (.plain (OpenSpec.ofChange fnExactAngleTextSpec)) fnExactAngleTextCard

/-- THE TIED CARD OF 'laws.FnExactSplitWords'. -/
def fnExactSplitWordsCard : Claim7 := { stood := { row := fnExactSplitWordsRow, standIns := [], harness := (true, "0208c9499da1e6a4f21bc62f30b1815beb821140d4051f80b8383066d77dbe34"), looks := true }, kinds := [], alts := [], laidByText := true, laidKinds := [.data, .pinned], laidTests := true, laidLooks := .later }
def FnExactSplitWordsCardSaid : Prop := Claim7.holds Tryd.pinned (.plain (OpenSpec.ofChange fnExactSplitWordsSpec)) fnExactSplitWordsCard

/-- THE TIED CARD OF 'laws.FnExactMomentText'. -/
def fnExactMomentTextCard : Claim7 := { stood := { row := fnExactMomentTextRow, standIns := [], harness := (true, "0208c9499da1e6a4f21bc62f30b1815beb821140d4051f80b8383066d77dbe34"), looks := true }, kinds := [], alts := [], laidByText := true, laidKinds := [.data, .data, .data], laidTests := true, laidLooks := .later }
def FnExactMomentTextCardSaid : Prop := Claim7.holds Tryd.pinned (.plain (OpenSpec.ofChange fnExactMomentTextSpec)) fnExactMomentTextCard

/-- THE TIED CARD OF 'laws.FnExactVectorText'. -/
def fnExactVectorTextCard : Claim7 := { stood := { row := fnExactVectorTextRow, standIns := [], harness := (true, "0208c9499da1e6a4f21bc62f30b1815beb821140d4051f80b8383066d77dbe34"), looks := true }, kinds := [], alts := [], laidByText := true, laidKinds := [.data, .data, .data], laidTests := true, laidLooks := .later }
def FnExactVectorTextCardSaid : Prop := Claim7.holds Tryd.pinned (.plain (OpenSpec.ofChange fnExactVectorTextSpec)) fnExactVectorTextCard

/-- THE TIED CARD OF 'laws.FnExactListText'. -/
def fnExactListTextCard : Claim7 := { stood := { row := fnExactListTextRow, standIns := [], harness := (true, "0208c9499da1e6a4f21bc62f30b1815beb821140d4051f80b8383066d77dbe34"), looks := true }, kinds := [], alts := [], laidByText := true, laidKinds := [.data, .data, .data], laidTests := true, laidLooks := .later }
def FnExactListTextCardSaid : Prop := Claim7.holds Tryd.pinned (.plain (OpenSpec.ofChange fnExactListTextSpec)) fnExactListTextCard

/-- THE TIED CARD OF 'laws.FnExactReadDecimal'. -/
def fnExactReadDecimalCard : Claim7 := { stood := { row := fnExactReadDecimalRow, standIns := [], harness := (true, "0208c9499da1e6a4f21bc62f30b1815beb821140d4051f80b8383066d77dbe34"), looks := true }, kinds := [], alts := [], laidByText := true, laidKinds := [.data, .data, .data, .sentinel, .sentinel], laidTests := true, laidLooks := .later }
def FnExactReadDecimalCardSaid : Prop := Claim7.holds Tryd.pinned (.plain (OpenSpec.ofChange fnExactReadDecimalSpec)) fnExactReadDecimalCard

/-- THE TIED CARD OF 'laws.FnExactReadAngle'. -/
def fnExactReadAngleCard : Claim7 := { stood := { row := fnExactReadAngleRow, standIns := [], harness := (true, "0208c9499da1e6a4f21bc62f30b1815beb821140d4051f80b8383066d77dbe34"), looks := true }, kinds := [], alts := [], laidByText := true, laidKinds := [.data, .data, .data, .sentinel, .sentinel], laidTests := true, laidLooks := .later }
def FnExactReadAngleCardSaid : Prop := Claim7.holds Tryd.pinned (.plain (OpenSpec.ofChange fnExactReadAngleSpec)) fnExactReadAngleCard

/-- THE TIED CARD OF 'laws.FnExactReadMoment'. -/
def fnExactReadMomentCard : Claim7 := { stood := { row := fnExactReadMomentRow, standIns := [], harness := (true, "0208c9499da1e6a4f21bc62f30b1815beb821140d4051f80b8383066d77dbe34"), looks := true }, kinds := [], alts := [], laidByText := true, laidKinds := [.data, .data, .data, .sentinel, .sentinel], laidTests := true, laidLooks := .later }
def FnExactReadMomentCardSaid : Prop := Claim7.holds Tryd.pinned (.plain (OpenSpec.ofChange fnExactReadMomentSpec)) fnExactReadMomentCard

/-- THE TIED CARD OF 'laws.FnExactReadList'. -/
def fnExactReadListCard : Claim7 := { stood := { row := fnExactReadListRow, standIns := [], harness := (true, "0208c9499da1e6a4f21bc62f30b1815beb821140d4051f80b8383066d77dbe34"), looks := true }, kinds := [], alts := [], laidByText := true, laidKinds := [.data, .data, .data, .data, .sentinel, .sentinel, .pinned], laidTests := true, laidLooks := .later }
def FnExactReadListCardSaid : Prop := Claim7.holds Tryd.pinned (.plain (OpenSpec.ofChange fnExactReadListSpec)) fnExactReadListCard

/-- THE TIED CARD OF 'laws.FnExactReadVector'. -/
def fnExactReadVectorCard : Claim7 := { stood := { row := fnExactReadVectorRow, standIns := [], harness := (true, "0208c9499da1e6a4f21bc62f30b1815beb821140d4051f80b8383066d77dbe34"), looks := true }, kinds := [], alts := [], laidByText := true, laidKinds := [.data, .data, .data, .data, .sentinel, .sentinel, .pinned], laidTests := true, laidLooks := .later }
def FnExactReadVectorCardSaid : Prop := Claim7.holds Tryd.pinned (.plain (OpenSpec.ofChange fnExactReadVectorSpec)) fnExactReadVectorCard

/-- THE TIED CARD OF 'laws.FnAngles'. -/
def fnAnglesCard : Claim7 := { stood := { row := fnAnglesRow, standIns := [], harness := (true, "0208c9499da1e6a4f21bc62f30b1815beb821140d4051f80b8383066d77dbe34"), looks := true }, kinds := [], alts := [], laidByText := true, laidKinds := [.data, .data, .data, .sentinel, .sentinel], laidTests := true, laidLooks := .later }
def FnAnglesCardSaid : Prop := Claim7.holds Tryd.pinned (.plain (OpenSpec.ofChange fnAnglesSpec)) fnAnglesCard

/-- THE SECOND FORM's CARD OF 'laws.FnExactDecimal'. -/
def fnExactDecimalUptoCard : Claim7 := { stood := { row := fnExactDecimalUptoRow, standIns := [], harness := (true, "0208c9499da1e6a4f21bc62f30b1815beb821140d4051f80b8383066d77dbe34"), looks := true }, kinds := [], alts := [], laidByText := true, laidKinds := [.data, .data, .data], laidTests := true, laidLooks := .later }
def FnExactDecimalUptoCardSaid : Prop := Claim7.holds Tryd.pinned (.plain (OpenSpec.upto fnExactDecimalSpec)) fnExactDecimalUptoCard

/-- THE SECOND FORM's CARD OF 'laws.FnExactAngleText'. -/
def fnExactAngleTextUptoCard : Claim7 := { stood := { row := fnExactAngleTextUptoRow, standIns := [], harness := (true, "0208c9499da1e6a4f21bc62f30b1815beb821140d4051f80b8383066d77dbe34"), looks := true }, kinds := [], alts := [], laidByText := true, laidKinds := [.data, .data, .data], laidTests := true, laidLooks := .later }
def FnExactAngleTextUptoCardSaid : Prop := Claim7.holds Tryd.pinned (.plain (OpenSpec.upto fnExactAngleTextSpec)) fnExactAngleTextUptoCard

/-- THE SECOND FORM's CARD OF 'laws.FnExactSplitWords'. -/
def fnExactSplitWordsUptoCard : Claim7 := { stood := { row := fnExactSplitWordsUptoRow, standIns := [], harness := (true, "0208c9499da1e6a4f21bc62f30b1815beb821140d4051f80b8383066d77dbe34"), looks := true }, kinds := [], alts := [], laidByText := true, laidKinds := [.data, .pinned], laidTests := true, laidLooks := .later }
def FnExactSplitWordsUptoCardSaid : Prop := Claim7.holds Tryd.pinned (.plain (OpenSpec.upto fnExactSplitWordsSpec)) fnExactSplitWordsUptoCard

/-- THE SECOND FORM's CARD OF 'laws.FnExactMomentText'. -/
def fnExactMomentTextUptoCard : Claim7 := { stood := { row := fnExactMomentTextUptoRow, standIns := [], harness := (true, "0208c9499da1e6a4f21bc62f30b1815beb821140d4051f80b8383066d77dbe34"), looks := true }, kinds := [], alts := [], laidByText := true, laidKinds := [.data, .data, .data], laidTests := true, laidLooks := .later }
def FnExactMomentTextUptoCardSaid : Prop := Claim7.holds Tryd.pinned (.plain (OpenSpec.upto fnExactMomentTextSpec)) fnExactMomentTextUptoCard

/-- THE SECOND FORM's CARD OF 'laws.FnExactVectorText'. -/
def fnExactVectorTextUptoCard : Claim7 := { stood := { row := fnExactVectorTextUptoRow, standIns := [], harness := (true, "0208c9499da1e6a4f21bc62f30b1815beb821140d4051f80b8383066d77dbe34"), looks := true }, kinds := [], alts := [], laidByText := true, laidKinds := [.data, .data, .data], laidTests := true, laidLooks := .later }
def FnExactVectorTextUptoCardSaid : Prop := Claim7.holds Tryd.pinned (.plain (OpenSpec.upto fnExactVectorTextSpec)) fnExactVectorTextUptoCard

/-- THE SECOND FORM's CARD OF 'laws.FnExactListText'. -/
def fnExactListTextUptoCard : Claim7 := { stood := { row := fnExactListTextUptoRow, standIns := [], harness := (true, "0208c9499da1e6a4f21bc62f30b1815beb821140d4051f80b8383066d77dbe34"), looks := true }, kinds := [], alts := [], laidByText := true, laidKinds := [.data, .data, .data], laidTests := true, laidLooks := .later }
def FnExactListTextUptoCardSaid : Prop := Claim7.holds Tryd.pinned (.plain (OpenSpec.upto fnExactListTextSpec)) fnExactListTextUptoCard

/-- THE SECOND FORM's CARD OF 'laws.FnExactReadDecimal'. -/
def fnExactReadDecimalUptoCard : Claim7 := { stood := { row := fnExactReadDecimalUptoRow, standIns := [], harness := (true, "0208c9499da1e6a4f21bc62f30b1815beb821140d4051f80b8383066d77dbe34"), looks := true }, kinds := [], alts := [], laidByText := true, laidKinds := [.data, .data, .data, .sentinel, .sentinel], laidTests := true, laidLooks := .later }
def FnExactReadDecimalUptoCardSaid : Prop := Claim7.holds Tryd.pinned (.plain (OpenSpec.upto fnExactReadDecimalSpec)) fnExactReadDecimalUptoCard

/-- THE SECOND FORM's CARD OF 'laws.FnExactReadAngle'. -/
def fnExactReadAngleUptoCard : Claim7 := { stood := { row := fnExactReadAngleUptoRow, standIns := [], harness := (true, "0208c9499da1e6a4f21bc62f30b1815beb821140d4051f80b8383066d77dbe34"), looks := true }, kinds := [], alts := [], laidByText := true, laidKinds := [.data, .data, .data, .sentinel, .sentinel], laidTests := true, laidLooks := .later }
def FnExactReadAngleUptoCardSaid : Prop := Claim7.holds Tryd.pinned (.plain (OpenSpec.upto fnExactReadAngleSpec)) fnExactReadAngleUptoCard

/-- THE SECOND FORM's CARD OF 'laws.FnExactReadMoment'. -/
def fnExactReadMomentUptoCard : Claim7 := { stood := { row := fnExactReadMomentUptoRow, standIns := [], harness := (true, "0208c9499da1e6a4f21bc62f30b1815beb821140d4051f80b8383066d77dbe34"), looks := true }, kinds := [], alts := [], laidByText := true, laidKinds := [.data, .data, .data, .sentinel, .sentinel], laidTests := true, laidLooks := .later }
def FnExactReadMomentUptoCardSaid : Prop := Claim7.holds Tryd.pinned (.plain (OpenSpec.upto fnExactReadMomentSpec)) fnExactReadMomentUptoCard

/-- THE SECOND FORM's CARD OF 'laws.FnExactReadList'. -/
def fnExactReadListUptoCard : Claim7 := { stood := { row := fnExactReadListUptoRow, standIns := [], harness := (true, "0208c9499da1e6a4f21bc62f30b1815beb821140d4051f80b8383066d77dbe34"), looks := true }, kinds := [], alts := [], laidByText := true, laidKinds := [.data, .data, .data, .data, .sentinel, .sentinel, .pinned], laidTests := true, laidLooks := .later }
def FnExactReadListUptoCardSaid : Prop := Claim7.holds Tryd.pinned (.plain (OpenSpec.upto fnExactReadListSpec)) fnExactReadListUptoCard

/-- THE SECOND FORM's CARD OF 'laws.FnExactReadVector'. -/
def fnExactReadVectorUptoCard : Claim7 := { stood := { row := fnExactReadVectorUptoRow, standIns := [], harness := (true, "0208c9499da1e6a4f21bc62f30b1815beb821140d4051f80b8383066d77dbe34"), looks := true }, kinds := [], alts := [], laidByText := true, laidKinds := [.data, .data, .data, .data, .sentinel, .sentinel, .pinned], laidTests := true, laidLooks := .later }
def FnExactReadVectorUptoCardSaid : Prop := Claim7.holds Tryd.pinned (.plain (OpenSpec.upto fnExactReadVectorSpec)) fnExactReadVectorUptoCard

/-- THE SECOND FORM's CARD OF 'laws.FnAngles'. -/
def fnAnglesUptoCard : Claim7 := { stood := { row := fnAnglesUptoRow, standIns := [], harness := (true, "0208c9499da1e6a4f21bc62f30b1815beb821140d4051f80b8383066d77dbe34"), looks := true }, kinds := [], alts := [], laidByText := true, laidKinds := [.data, .data, .data, .sentinel, .sentinel], laidTests := true, laidLooks := .later }
def FnAnglesUptoCardSaid : Prop := Claim7.holds Tryd.pinned (.plain (OpenSpec.upto fnAnglesSpec)) fnAnglesUptoCard
end Rows
end Go.Proofs.YtghagmjpcebmjaaDoor
