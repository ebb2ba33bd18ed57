/-
  DERIVED. GIVEN WITH THE SEED: THE CARDS: each row of YtgeipijifcebmaaDoorRows.lean that lists a variable, with what it lists TIED to the program's text (the seventh form; the later family's looks); each row that meets fmt, with fmt's text TOLD by the authors' own Lean function (tested against real Go, not proved from fmt's source: count such statements apart). THE CARD IS WHAT COUNTS. Prove the row's statement (the work); the ties are given (YtgeipijifcebmaaDoorTie.lean); close each card by the builder's one call (the guide's Derived/Test/ToyasCard.lean, 'card_holds'). Laid BY PROGRAM, IN A SANDBOX (cutbox-door.mjs). By AI agents, Wed Nov 11 2026. No macro, syntax, notation, axiom, sorry.
-/
import Derived.Test.YtgeipijifcebmaaDoorRows
import GoSem.ClaimSeven
namespace Go.Proofs.YtgeipijifcebmaaDoor
namespace Rows

/-- THE TIED CARD OF 'laws.FnExactSineOf'. -/
def fnExactSineOfCard : Claim7 := { stood := { row := fnExactSineOfRow, standIns := [], harness := (true, "9a6a69dbaf5816adfa0c97c6aca526c98542da60c298e34448028336d70daff5"), looks := false }, kinds := [], alts := [], laidByText := true, laidKinds := [.data], laidTests := true, laidLooks := .later }
def FnExactSineOfCardSaid : Prop := Claim7.holds Tryd.pinned (.plain (OpenSpec.ofChange fnExactSineOfSpec)) fnExactSineOfCard

/-- THE TIED CARD OF 'laws.FnExactCosineOf'. -/
def fnExactCosineOfCard : Claim7 := { stood := { row := fnExactCosineOfRow, standIns := [], harness := (true, "9a6a69dbaf5816adfa0c97c6aca526c98542da60c298e34448028336d70daff5"), looks := false }, kinds := [], alts := [], laidByText := true, laidKinds := [.data], laidTests := true, laidLooks := .later }
def FnExactCosineOfCardSaid : Prop := Claim7.holds Tryd.pinned (.plain (OpenSpec.ofChange fnExactCosineOfSpec)) fnExactCosineOfCard

/-- THE TIED CARD OF 'laws.FnExactArcCosine'. -/
def fnExactArcCosineCard : Claim7 := { stood := { row := fnExactArcCosineRow, standIns := [], harness := (true, "9a6a69dbaf5816adfa0c97c6aca526c98542da60c298e34448028336d70daff5"), looks := false }, kinds := [], alts := [], laidByText := true, laidKinds := [.data], laidTests := true, laidLooks := .later }
def FnExactArcCosineCardSaid : Prop := Claim7.holds Tryd.pinned (.plain (OpenSpec.ofChange fnExactArcCosineSpec)) fnExactArcCosineCard

/-- THE TIED CARD OF 'laws.FnExactDirectionOf'. -/
def fnExactDirectionOfCard : Claim7 := { stood := { row := fnExactDirectionOfRow, standIns := [], harness := (true, "9a6a69dbaf5816adfa0c97c6aca526c98542da60c298e34448028336d70daff5"), looks := false }, kinds := [], alts := [], laidByText := true, laidKinds := [.data], laidTests := true, laidLooks := .later }
def FnExactDirectionOfCardSaid : Prop := Claim7.holds Tryd.pinned (.plain (OpenSpec.ofChange fnExactDirectionOfSpec)) fnExactDirectionOfCard

/-- THE TIED CARD OF 'laws.FnExactSunLongitude'. -/
def fnExactSunLongitudeCard : Claim7 := { stood := { row := fnExactSunLongitudeRow, standIns := [], harness := (true, "9a6a69dbaf5816adfa0c97c6aca526c98542da60c298e34448028336d70daff5"), looks := false }, kinds := [], alts := [], laidByText := true, laidKinds := [.data], laidTests := true, laidLooks := .later }
def FnExactSunLongitudeCardSaid : Prop := Claim7.holds Tryd.pinned (.plain (OpenSpec.ofChange fnExactSunLongitudeSpec)) fnExactSunLongitudeCard

/-- THE TIED CARD OF 'laws.FnExactArcSine'. -/
def fnExactArcSineCard : Claim7 := { stood := { row := fnExactArcSineRow, standIns := [], harness := (true, "9a6a69dbaf5816adfa0c97c6aca526c98542da60c298e34448028336d70daff5"), looks := false }, kinds := [], alts := [], laidByText := true, laidKinds := [.data], laidTests := true, laidLooks := .later }
def FnExactArcSineCardSaid : Prop := Claim7.holds Tryd.pinned (.plain (OpenSpec.ofChange fnExactArcSineSpec)) fnExactArcSineCard

/-- THE TIED CARD OF 'laws.FnExactSeasonOf'. -/
def fnExactSeasonOfCard : Claim7 := { stood := { row := fnExactSeasonOfRow, standIns := [], harness := (true, "9a6a69dbaf5816adfa0c97c6aca526c98542da60c298e34448028336d70daff5"), looks := false }, kinds := [], alts := [], laidByText := true, laidKinds := [.data], laidTests := true, laidLooks := .later }
def FnExactSeasonOfCardSaid : Prop := Claim7.holds Tryd.pinned (.plain (OpenSpec.ofChange fnExactSeasonOfSpec)) fnExactSeasonOfCard

/-- THE TIED CARD OF 'laws.FnExactRotateAround'. -/
def fnExactRotateAroundCard : Claim7 := { stood := { row := fnExactRotateAroundRow, standIns := [], harness := (true, "9a6a69dbaf5816adfa0c97c6aca526c98542da60c298e34448028336d70daff5"), looks := false }, kinds := [], alts := [], laidByText := true, laidKinds := [.data], laidTests := true, laidLooks := .later }
def FnExactRotateAroundCardSaid : Prop := Claim7.holds Tryd.pinned (.plain (OpenSpec.ofChange fnExactRotateAroundSpec)) fnExactRotateAroundCard

/-- THE TIED CARD OF 'laws.FnExactArcTangent'. -/
def fnExactArcTangentCard : Claim7 := { stood := { row := fnExactArcTangentRow, standIns := [], harness := (true, "9a6a69dbaf5816adfa0c97c6aca526c98542da60c298e34448028336d70daff5"), looks := false }, kinds := [], alts := [], laidByText := true, laidKinds := [.data], laidTests := true, laidLooks := .later }
def FnExactArcTangentCardSaid : Prop := Claim7.holds Tryd.pinned (.plain (OpenSpec.ofChange fnExactArcTangentSpec)) fnExactArcTangentCard

/-- THE TIED CARD OF 'laws.FnExactMeanAngle'. -/
def fnExactMeanAngleCard : Claim7 := { stood := { row := fnExactMeanAngleRow, standIns := [], harness := (true, "9a6a69dbaf5816adfa0c97c6aca526c98542da60c298e34448028336d70daff5"), looks := false }, kinds := [], alts := [], laidByText := true, laidKinds := [.data], laidTests := true, laidLooks := .later }
def FnExactMeanAngleCardSaid : Prop := Claim7.holds Tryd.pinned (.plain (OpenSpec.ofChange fnExactMeanAngleSpec)) fnExactMeanAngleCard

/-- THE TIED CARD OF 'laws.FnSidereal'. -/
def fnSiderealCard : Claim7 := { stood := { row := fnSiderealRow, standIns := [], harness := (true, "9a6a69dbaf5816adfa0c97c6aca526c98542da60c298e34448028336d70daff5"), looks := false }, kinds := [], alts := [], laidByText := true, laidKinds := [.data], laidTests := true, laidLooks := .later }
def FnSiderealCardSaid : Prop := Claim7.holds Tryd.pinned (.plain (OpenSpec.ofChange fnSiderealSpec)) fnSiderealCard

/-- THE TIED CARD OF 'laws.FnSines'. -/
def fnSinesCard : Claim7 := { stood := { row := fnSinesRow, standIns := [], harness := (true, "9a6a69dbaf5816adfa0c97c6aca526c98542da60c298e34448028336d70daff5"), looks := false }, kinds := [], alts := [], laidByText := true, laidKinds := [.data], laidTests := true, laidLooks := .later }
def FnSinesCardSaid : Prop := Claim7.holds Tryd.pinned (.plain (OpenSpec.ofChange fnSinesSpec)) fnSinesCard

/-- THE SECOND FORM's CARD OF 'laws.FnExactSineOf'. -/
def fnExactSineOfUptoCard : Claim7 := { stood := { row := fnExactSineOfUptoRow, standIns := [], harness := (true, "9a6a69dbaf5816adfa0c97c6aca526c98542da60c298e34448028336d70daff5"), looks := false }, kinds := [], alts := [], laidByText := true, laidKinds := [.data], laidTests := true, laidLooks := .later }
def FnExactSineOfUptoCardSaid : Prop := Claim7.holds Tryd.pinned (.plain (OpenSpec.upto fnExactSineOfSpec)) fnExactSineOfUptoCard

/-- THE SECOND FORM's CARD OF 'laws.FnExactCosineOf'. -/
def fnExactCosineOfUptoCard : Claim7 := { stood := { row := fnExactCosineOfUptoRow, standIns := [], harness := (true, "9a6a69dbaf5816adfa0c97c6aca526c98542da60c298e34448028336d70daff5"), looks := false }, kinds := [], alts := [], laidByText := true, laidKinds := [.data], laidTests := true, laidLooks := .later }
def FnExactCosineOfUptoCardSaid : Prop := Claim7.holds Tryd.pinned (.plain (OpenSpec.upto fnExactCosineOfSpec)) fnExactCosineOfUptoCard

/-- THE SECOND FORM's CARD OF 'laws.FnExactArcCosine'. -/
def fnExactArcCosineUptoCard : Claim7 := { stood := { row := fnExactArcCosineUptoRow, standIns := [], harness := (true, "9a6a69dbaf5816adfa0c97c6aca526c98542da60c298e34448028336d70daff5"), looks := false }, kinds := [], alts := [], laidByText := true, laidKinds := [.data], laidTests := true, laidLooks := .later }
def FnExactArcCosineUptoCardSaid : Prop := Claim7.holds Tryd.pinned (.plain (OpenSpec.upto fnExactArcCosineSpec)) fnExactArcCosineUptoCard

/-- THE SECOND FORM's CARD OF 'laws.FnExactDirectionOf'. -/
def fnExactDirectionOfUptoCard : Claim7 := { stood := { row := fnExactDirectionOfUptoRow, standIns := [], harness := (true, "9a6a69dbaf5816adfa0c97c6aca526c98542da60c298e34448028336d70daff5"), looks := false }, kinds := [], alts := [], laidByText := true, laidKinds := [.data], laidTests := true, laidLooks := .later }
def FnExactDirectionOfUptoCardSaid : Prop := Claim7.holds Tryd.pinned (.plain (OpenSpec.upto fnExactDirectionOfSpec)) fnExactDirectionOfUptoCard

/-- THE SECOND FORM's CARD OF 'laws.FnExactSunLongitude'. -/
def fnExactSunLongitudeUptoCard : Claim7 := { stood := { row := fnExactSunLongitudeUptoRow, standIns := [], harness := (true, "9a6a69dbaf5816adfa0c97c6aca526c98542da60c298e34448028336d70daff5"), looks := false }, kinds := [], alts := [], laidByText := true, laidKinds := [.data], laidTests := true, laidLooks := .later }
def FnExactSunLongitudeUptoCardSaid : Prop := Claim7.holds Tryd.pinned (.plain (OpenSpec.upto fnExactSunLongitudeSpec)) fnExactSunLongitudeUptoCard

/-- THE SECOND FORM's CARD OF 'laws.FnExactArcSine'. -/
def fnExactArcSineUptoCard : Claim7 := { stood := { row := fnExactArcSineUptoRow, standIns := [], harness := (true, "9a6a69dbaf5816adfa0c97c6aca526c98542da60c298e34448028336d70daff5"), looks := false }, kinds := [], alts := [], laidByText := true, laidKinds := [.data], laidTests := true, laidLooks := .later }
def FnExactArcSineUptoCardSaid : Prop := Claim7.holds Tryd.pinned (.plain (OpenSpec.upto fnExactArcSineSpec)) fnExactArcSineUptoCard

/-- THE SECOND FORM's CARD OF 'laws.FnExactSeasonOf'. -/
def fnExactSeasonOfUptoCard : Claim7 := { stood := { row := fnExactSeasonOfUptoRow, standIns := [], harness := (true, "9a6a69dbaf5816adfa0c97c6aca526c98542da60c298e34448028336d70daff5"), looks := false }, kinds := [], alts := [], laidByText := true, laidKinds := [.data], laidTests := true, laidLooks := .later }
def FnExactSeasonOfUptoCardSaid : Prop := Claim7.holds Tryd.pinned (.plain (OpenSpec.upto fnExactSeasonOfSpec)) fnExactSeasonOfUptoCard

/-- THE SECOND FORM's CARD OF 'laws.FnExactRotateAround'. -/
def fnExactRotateAroundUptoCard : Claim7 := { stood := { row := fnExactRotateAroundUptoRow, standIns := [], harness := (true, "9a6a69dbaf5816adfa0c97c6aca526c98542da60c298e34448028336d70daff5"), looks := false }, kinds := [], alts := [], laidByText := true, laidKinds := [.data], laidTests := true, laidLooks := .later }
def FnExactRotateAroundUptoCardSaid : Prop := Claim7.holds Tryd.pinned (.plain (OpenSpec.upto fnExactRotateAroundSpec)) fnExactRotateAroundUptoCard

/-- THE SECOND FORM's CARD OF 'laws.FnExactArcTangent'. -/
def fnExactArcTangentUptoCard : Claim7 := { stood := { row := fnExactArcTangentUptoRow, standIns := [], harness := (true, "9a6a69dbaf5816adfa0c97c6aca526c98542da60c298e34448028336d70daff5"), looks := false }, kinds := [], alts := [], laidByText := true, laidKinds := [.data], laidTests := true, laidLooks := .later }
def FnExactArcTangentUptoCardSaid : Prop := Claim7.holds Tryd.pinned (.plain (OpenSpec.upto fnExactArcTangentSpec)) fnExactArcTangentUptoCard

/-- THE SECOND FORM's CARD OF 'laws.FnExactMeanAngle'. -/
def fnExactMeanAngleUptoCard : Claim7 := { stood := { row := fnExactMeanAngleUptoRow, standIns := [], harness := (true, "9a6a69dbaf5816adfa0c97c6aca526c98542da60c298e34448028336d70daff5"), looks := false }, kinds := [], alts := [], laidByText := true, laidKinds := [.data], laidTests := true, laidLooks := .later }
def FnExactMeanAngleUptoCardSaid : Prop := Claim7.holds Tryd.pinned (.plain (OpenSpec.upto fnExactMeanAngleSpec)) fnExactMeanAngleUptoCard

/-- THE SECOND FORM's CARD OF 'laws.FnSidereal'. -/
def fnSiderealUptoCard : Claim7 := { stood := { row := fnSiderealUptoRow, standIns := [], harness := (true, "9a6a69dbaf5816adfa0c97c6aca526c98542da60c298e34448028336d70daff5"), looks := false }, kinds := [], alts := [], laidByText := true, laidKinds := [.data], laidTests := true, laidLooks := .later }
def FnSiderealUptoCardSaid : Prop := Claim7.holds Tryd.pinned (.plain (OpenSpec.upto fnSiderealSpec)) fnSiderealUptoCard

/-- THE SECOND FORM's CARD OF 'laws.FnSines'. -/
def fnSinesUptoCard : Claim7 := { stood := { row := fnSinesUptoRow, standIns := [], harness := (true, "9a6a69dbaf5816adfa0c97c6aca526c98542da60c298e34448028336d70daff5"), looks := false }, kinds := [], alts := [], laidByText := true, laidKinds := [.data], laidTests := true, laidLooks := .later }
def FnSinesUptoCardSaid : Prop := Claim7.holds Tryd.pinned (.plain (OpenSpec.upto fnSinesSpec)) fnSinesUptoCard
end Rows
end Go.Proofs.YtgeipijifcebmaaDoor
