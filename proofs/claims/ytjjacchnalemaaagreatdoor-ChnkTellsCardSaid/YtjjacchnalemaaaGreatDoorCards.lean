/-
  DERIVED. GIVEN WITH THE SEED: THE CARDS: each row of YtjjacchnalemaaaGreatDoorRows.lean that lists a variable, with what it lists TIED to the program's text (the seventh form; the later family's looks); each row that meets fmt, with fmt's text TOLD by the authors' own Lean function (tested against real Go, not proved from fmt's source: count such statements apart). THE CARD IS WHAT COUNTS. Prove the row's statement (the work); the ties are given (YtjjacchnalemaaaGreatDoorTie.lean); close each card by the builder's one call (the guide's Derived/Test/ToyasCard.lean, 'card_holds'). Laid BY PROGRAM, IN A SANDBOX (cutbox-door.mjs). By AI agents, Wed Nov 11 2026. No macro, syntax, notation, axiom, sorry.
-/
import Derived.Test.YtjjacchnalemaaaGreatDoorRows
import GoSem.ClaimSeven
namespace Go.Proofs.YtjjacchnalemaaaGreatDoor
namespace Rows

/-- THE TIED CARD OF 'ephemerislaw10.SuitTells'. -/
def suitTellsCard : Claim7 := { stood := { row := suitTellsRow, standIns := [], harness := (true, "98028cc5438c01b895d7891f2b37c06d4726d21443c8f1a11ccd3a43818cbd57"), looks := false }, kinds := [], alts := [], laidByText := true, laidKinds := [.data], laidTests := true, laidLooks := .later }
def SuitTellsCardSaid : Prop := Claim7.holds Tryz.pinned (.plain (OpenSpec.ofChange suitTellsSpec)) suitTellsCard

/-- THE TIED CARD OF 'ephemerislaw11.ChnkTells'. -/
def chnkTellsCard : Claim7 := { stood := { row := chnkTellsRow, standIns := [], harness := (true, "98028cc5438c01b895d7891f2b37c06d4726d21443c8f1a11ccd3a43818cbd57"), looks := false }, kinds := [], alts := [], laidByText := true, laidKinds := [.data], laidTests := true, laidLooks := .later }
def ChnkTellsCardSaid : Prop := Claim7.holds Tryz.pinned (.plain (OpenSpec.ofChange chnkTellsSpec)) chnkTellsCard

/-- THE TIED CARD OF 'ephemerislaw12.WorkOwn'. -/
def workOwnCard : Claim7 := { stood := { row := workOwnRow, standIns := [], harness := (true, "98028cc5438c01b895d7891f2b37c06d4726d21443c8f1a11ccd3a43818cbd57"), looks := false }, kinds := [], alts := [], laidByText := true, laidKinds := [.data], laidTests := true, laidLooks := .later }
def WorkOwnCardSaid : Prop := Claim7.holds Tryz.pinned (.plain (OpenSpec.ofChange workOwnSpec)) workOwnCard

/-- THE SECOND FORM's CARD OF 'ephemerislaw10.SuitTells'. -/
def suitTellsUptoCard : Claim7 := { stood := { row := suitTellsUptoRow, standIns := [], harness := (true, "98028cc5438c01b895d7891f2b37c06d4726d21443c8f1a11ccd3a43818cbd57"), looks := false }, kinds := [], alts := [], laidByText := true, laidKinds := [.data], laidTests := true, laidLooks := .later }
def SuitTellsUptoCardSaid : Prop := Claim7.holds Tryz.pinned (.plain (OpenSpec.upto suitTellsSpec)) suitTellsUptoCard

/-- THE SECOND FORM's CARD OF 'ephemerislaw11.ChnkTells'. -/
def chnkTellsUptoCard : Claim7 := { stood := { row := chnkTellsUptoRow, standIns := [], harness := (true, "98028cc5438c01b895d7891f2b37c06d4726d21443c8f1a11ccd3a43818cbd57"), looks := false }, kinds := [], alts := [], laidByText := true, laidKinds := [.data], laidTests := true, laidLooks := .later }
def ChnkTellsUptoCardSaid : Prop := Claim7.holds Tryz.pinned (.plain (OpenSpec.upto chnkTellsSpec)) chnkTellsUptoCard

/-- THE SECOND FORM's CARD OF 'ephemerislaw12.WorkOwn'. -/
def workOwnUptoCard : Claim7 := { stood := { row := workOwnUptoRow, standIns := [], harness := (true, "98028cc5438c01b895d7891f2b37c06d4726d21443c8f1a11ccd3a43818cbd57"), looks := false }, kinds := [], alts := [], laidByText := true, laidKinds := [.data], laidTests := true, laidLooks := .later }
def WorkOwnUptoCardSaid : Prop := Claim7.holds Tryz.pinned (.plain (OpenSpec.upto workOwnSpec)) workOwnUptoCard
end Rows
end Go.Proofs.YtjjacchnalemaaaGreatDoor
