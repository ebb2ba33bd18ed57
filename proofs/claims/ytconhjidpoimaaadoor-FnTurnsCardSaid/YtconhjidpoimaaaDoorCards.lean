/-
  DERIVED. GIVEN WITH THE SEED: THE CARDS: each row of YtconhjidpoimaaaDoorRows.lean that lists a variable, with what it lists TIED to the program's text (the seventh form; the later family's looks); each row that meets fmt, with fmt's text TOLD by the authors' own Lean function (tested against real Go, not proved from fmt's source: count such statements apart). THE CARD IS WHAT COUNTS. Prove the row's statement (the work); the ties are given (YtconhjidpoimaaaDoorTie.lean); close each card by the builder's one call (the guide's Derived/Test/ToyasCard.lean, 'card_holds'). Laid BY PROGRAM, IN A SANDBOX (cutbox-door.mjs). By AI agents, Wed Nov 11 2026. No macro, syntax, notation, axiom, sorry.
-/
import Derived.Test.YtconhjidpoimaaaDoorRows
import GoSem.ClaimSeven
namespace Go.Proofs.YtconhjidpoimaaaDoor
namespace Rows

/-- THE TIED CARD OF 'laws.FnExactAnglesOf'. -/
def fnExactAnglesOfCard : Claim7 := { stood := { row := fnExactAnglesOfRow, standIns := [], harness := (true, "9c3b325241d115d5446a5ff298245557e6a67c4350242892064775646dae9bd8"), looks := false }, kinds := [], alts := [], laidByText := true, laidKinds := [.data], laidTests := true, laidLooks := .later }
def FnExactAnglesOfCardSaid : Prop := Claim7.holds Tryd.pinned (.plain (OpenSpec.ofChange fnExactAnglesOfSpec)) fnExactAnglesOfCard

/-- THE TIED CARD OF 'laws.FnExactSeparation'. -/
def fnExactSeparationCard : Claim7 := { stood := { row := fnExactSeparationRow, standIns := [], harness := (true, "9c3b325241d115d5446a5ff298245557e6a67c4350242892064775646dae9bd8"), looks := false }, kinds := [], alts := [], laidByText := true, laidKinds := [.data], laidTests := true, laidLooks := .later }
def FnExactSeparationCardSaid : Prop := Claim7.holds Tryd.pinned (.plain (OpenSpec.ofChange fnExactSeparationSpec)) fnExactSeparationCard

/-- THE TIED CARD OF 'laws.FnTurns'. -/
def fnTurnsCard : Claim7 := { stood := { row := fnTurnsRow, standIns := [], harness := (true, "9c3b325241d115d5446a5ff298245557e6a67c4350242892064775646dae9bd8"), looks := false }, kinds := [], alts := [], laidByText := true, laidKinds := [.data], laidTests := true, laidLooks := .later }
def FnTurnsCardSaid : Prop := Claim7.holds Tryd.pinned (.plain (OpenSpec.ofChange fnTurnsSpec)) fnTurnsCard

/-- THE SECOND FORM's CARD OF 'laws.FnExactAnglesOf'. -/
def fnExactAnglesOfUptoCard : Claim7 := { stood := { row := fnExactAnglesOfUptoRow, standIns := [], harness := (true, "9c3b325241d115d5446a5ff298245557e6a67c4350242892064775646dae9bd8"), looks := false }, kinds := [], alts := [], laidByText := true, laidKinds := [.data], laidTests := true, laidLooks := .later }
def FnExactAnglesOfUptoCardSaid : Prop := Claim7.holds Tryd.pinned (.plain (OpenSpec.upto fnExactAnglesOfSpec)) fnExactAnglesOfUptoCard

/-- THE SECOND FORM's CARD OF 'laws.FnExactSeparation'. -/
def fnExactSeparationUptoCard : Claim7 := { stood := { row := fnExactSeparationUptoRow, standIns := [], harness := (true, "9c3b325241d115d5446a5ff298245557e6a67c4350242892064775646dae9bd8"), looks := false }, kinds := [], alts := [], laidByText := true, laidKinds := [.data], laidTests := true, laidLooks := .later }
def FnExactSeparationUptoCardSaid : Prop := Claim7.holds Tryd.pinned (.plain (OpenSpec.upto fnExactSeparationSpec)) fnExactSeparationUptoCard

/-- THE SECOND FORM's CARD OF 'laws.FnTurns'. -/
def fnTurnsUptoCard : Claim7 := { stood := { row := fnTurnsUptoRow, standIns := [], harness := (true, "9c3b325241d115d5446a5ff298245557e6a67c4350242892064775646dae9bd8"), looks := false }, kinds := [], alts := [], laidByText := true, laidKinds := [.data], laidTests := true, laidLooks := .later }
def FnTurnsUptoCardSaid : Prop := Claim7.holds Tryd.pinned (.plain (OpenSpec.upto fnTurnsSpec)) fnTurnsUptoCard
end Rows
end Go.Proofs.YtconhjidpoimaaaDoor
