/-
  DERIVED. GIVEN WITH THE SEED: THE CARDS: each row of YtjjacchnalemaaaDoorRows.lean that lists a variable, with what it lists TIED to the program's text (the seventh form; the later family's looks); each row that meets fmt, with fmt's text TOLD by the authors' own Lean function (tested against real Go, not proved from fmt's source: count such statements apart). THE CARD IS WHAT COUNTS. Prove the row's statement (the work); the ties are given (YtjjacchnalemaaaDoorTie.lean); close each card by the builder's one call (the guide's Derived/Test/ToyasCard.lean, 'card_holds'). Laid BY PROGRAM, IN A SANDBOX (cutbox-door.mjs). By AI agents, Wed Nov 11 2026. No macro, syntax, notation, axiom, sorry.
-/
import Derived.Test.YtjjacchnalemaaaDoorRows
import GoSem.ClaimSeven
namespace Go.Proofs.YtjjacchnalemaaaDoor
namespace Rows

/-- THE TIED CARD OF 'ephemerislaw10.SuitPicks'. -/
def suitPicksCard : Claim7 := { stood := { row := suitPicksRow, standIns := [], harness := (true, "ba45319f0db6de378256f71b164f60a925b1ee04237cdb3ce816b992580ad45e"), looks := false }, kinds := [], alts := [], laidByText := true, laidKinds := [.data], laidTests := true, laidLooks := .later }
def SuitPicksCardSaid : Prop := Claim7.holds Tryd.pinned (.plain (OpenSpec.ofChange suitPicksSpec)) suitPicksCard

/-- THE TIED CARD OF 'ephemerislaw10.SuitRough'. -/
def suitRoughCard : Claim7 := { stood := { row := suitRoughRow, standIns := [], harness := (true, "ba45319f0db6de378256f71b164f60a925b1ee04237cdb3ce816b992580ad45e"), looks := false }, kinds := [], alts := [], laidByText := true, laidKinds := [.data], laidTests := true, laidLooks := .later }
def SuitRoughCardSaid : Prop := Claim7.holds Tryd.pinned (.plain (OpenSpec.ofChange suitRoughSpec)) suitRoughCard

/-- THE TIED CARD OF 'ephemerislaw10.SuitTags'. -/
def suitTagsCard : Claim7 := { stood := { row := suitTagsRow, standIns := [], harness := (true, "ba45319f0db6de378256f71b164f60a925b1ee04237cdb3ce816b992580ad45e"), looks := false }, kinds := [], alts := [], laidByText := true, laidKinds := [.data], laidTests := true, laidLooks := .later }
def SuitTagsCardSaid : Prop := Claim7.holds Tryd.pinned (.plain (OpenSpec.ofChange suitTagsSpec)) suitTagsCard

/-- THE TIED CARD OF 'ephemerislaw10.SuitBack'. -/
def suitBackCard : Claim7 := { stood := { row := suitBackRow, standIns := [], harness := (true, "ba45319f0db6de378256f71b164f60a925b1ee04237cdb3ce816b992580ad45e"), looks := false }, kinds := [], alts := [], laidByText := true, laidKinds := [.data], laidTests := true, laidLooks := .later }
def SuitBackCardSaid : Prop := Claim7.holds Tryd.pinned (.plain (OpenSpec.ofChange suitBackSpec)) suitBackCard

/-- THE TIED CARD OF 'ephemerislaw11.ChnkHeads'. -/
def chnkHeadsCard : Claim7 := { stood := { row := chnkHeadsRow, standIns := [], harness := (true, "ba45319f0db6de378256f71b164f60a925b1ee04237cdb3ce816b992580ad45e"), looks := false }, kinds := [], alts := [], laidByText := true, laidKinds := [.data], laidTests := true, laidLooks := .later }
def ChnkHeadsCardSaid : Prop := Claim7.holds Tryd.pinned (.plain (OpenSpec.ofChange chnkHeadsSpec)) chnkHeadsCard

/-- THE TIED CARD OF 'ephemerislaw11.ChnkEach'. -/
def chnkEachCard : Claim7 := { stood := { row := chnkEachRow, standIns := [], harness := (true, "ba45319f0db6de378256f71b164f60a925b1ee04237cdb3ce816b992580ad45e"), looks := false }, kinds := [], alts := [], laidByText := true, laidKinds := [.data], laidTests := true, laidLooks := .later }
def ChnkEachCardSaid : Prop := Claim7.holds Tryd.pinned (.plain (OpenSpec.ofChange chnkEachSpec)) chnkEachCard

/-- THE TIED CARD OF 'ephemerislaw11.ChnkTurned'. -/
def chnkTurnedCard : Claim7 := { stood := { row := chnkTurnedRow, standIns := [], harness := (true, "ba45319f0db6de378256f71b164f60a925b1ee04237cdb3ce816b992580ad45e"), looks := false }, kinds := [], alts := [], laidByText := true, laidKinds := [.data], laidTests := true, laidLooks := .later }
def ChnkTurnedCardSaid : Prop := Claim7.holds Tryd.pinned (.plain (OpenSpec.ofChange chnkTurnedSpec)) chnkTurnedCard

/-- THE TIED CARD OF 'ephemerislaw12.WorkMixed'. -/
def workMixedCard : Claim7 := { stood := { row := workMixedRow, standIns := [], harness := (true, "ba45319f0db6de378256f71b164f60a925b1ee04237cdb3ce816b992580ad45e"), looks := false }, kinds := [], alts := [], laidByText := true, laidKinds := [.data], laidTests := true, laidLooks := .later }
def WorkMixedCardSaid : Prop := Claim7.holds Tryd.pinned (.plain (OpenSpec.ofChange workMixedSpec)) workMixedCard

/-- THE SECOND FORM's CARD OF 'ephemerislaw10.SuitPicks'. -/
def suitPicksUptoCard : Claim7 := { stood := { row := suitPicksUptoRow, standIns := [], harness := (true, "ba45319f0db6de378256f71b164f60a925b1ee04237cdb3ce816b992580ad45e"), looks := false }, kinds := [], alts := [], laidByText := true, laidKinds := [.data], laidTests := true, laidLooks := .later }
def SuitPicksUptoCardSaid : Prop := Claim7.holds Tryd.pinned (.plain (OpenSpec.upto suitPicksSpec)) suitPicksUptoCard

/-- THE SECOND FORM's CARD OF 'ephemerislaw10.SuitRough'. -/
def suitRoughUptoCard : Claim7 := { stood := { row := suitRoughUptoRow, standIns := [], harness := (true, "ba45319f0db6de378256f71b164f60a925b1ee04237cdb3ce816b992580ad45e"), looks := false }, kinds := [], alts := [], laidByText := true, laidKinds := [.data], laidTests := true, laidLooks := .later }
def SuitRoughUptoCardSaid : Prop := Claim7.holds Tryd.pinned (.plain (OpenSpec.upto suitRoughSpec)) suitRoughUptoCard

/-- THE SECOND FORM's CARD OF 'ephemerislaw10.SuitTags'. -/
def suitTagsUptoCard : Claim7 := { stood := { row := suitTagsUptoRow, standIns := [], harness := (true, "ba45319f0db6de378256f71b164f60a925b1ee04237cdb3ce816b992580ad45e"), looks := false }, kinds := [], alts := [], laidByText := true, laidKinds := [.data], laidTests := true, laidLooks := .later }
def SuitTagsUptoCardSaid : Prop := Claim7.holds Tryd.pinned (.plain (OpenSpec.upto suitTagsSpec)) suitTagsUptoCard

/-- THE SECOND FORM's CARD OF 'ephemerislaw10.SuitBack'. -/
def suitBackUptoCard : Claim7 := { stood := { row := suitBackUptoRow, standIns := [], harness := (true, "ba45319f0db6de378256f71b164f60a925b1ee04237cdb3ce816b992580ad45e"), looks := false }, kinds := [], alts := [], laidByText := true, laidKinds := [.data], laidTests := true, laidLooks := .later }
def SuitBackUptoCardSaid : Prop := Claim7.holds Tryd.pinned (.plain (OpenSpec.upto suitBackSpec)) suitBackUptoCard

/-- THE SECOND FORM's CARD OF 'ephemerislaw11.ChnkHeads'. -/
def chnkHeadsUptoCard : Claim7 := { stood := { row := chnkHeadsUptoRow, standIns := [], harness := (true, "ba45319f0db6de378256f71b164f60a925b1ee04237cdb3ce816b992580ad45e"), looks := false }, kinds := [], alts := [], laidByText := true, laidKinds := [.data], laidTests := true, laidLooks := .later }
def ChnkHeadsUptoCardSaid : Prop := Claim7.holds Tryd.pinned (.plain (OpenSpec.upto chnkHeadsSpec)) chnkHeadsUptoCard

/-- THE SECOND FORM's CARD OF 'ephemerislaw11.ChnkEach'. -/
def chnkEachUptoCard : Claim7 := { stood := { row := chnkEachUptoRow, standIns := [], harness := (true, "ba45319f0db6de378256f71b164f60a925b1ee04237cdb3ce816b992580ad45e"), looks := false }, kinds := [], alts := [], laidByText := true, laidKinds := [.data], laidTests := true, laidLooks := .later }
def ChnkEachUptoCardSaid : Prop := Claim7.holds Tryd.pinned (.plain (OpenSpec.upto chnkEachSpec)) chnkEachUptoCard

/-- THE SECOND FORM's CARD OF 'ephemerislaw11.ChnkTurned'. -/
def chnkTurnedUptoCard : Claim7 := { stood := { row := chnkTurnedUptoRow, standIns := [], harness := (true, "ba45319f0db6de378256f71b164f60a925b1ee04237cdb3ce816b992580ad45e"), looks := false }, kinds := [], alts := [], laidByText := true, laidKinds := [.data], laidTests := true, laidLooks := .later }
def ChnkTurnedUptoCardSaid : Prop := Claim7.holds Tryd.pinned (.plain (OpenSpec.upto chnkTurnedSpec)) chnkTurnedUptoCard

/-- THE SECOND FORM's CARD OF 'ephemerislaw12.WorkMixed'. -/
def workMixedUptoCard : Claim7 := { stood := { row := workMixedUptoRow, standIns := [], harness := (true, "ba45319f0db6de378256f71b164f60a925b1ee04237cdb3ce816b992580ad45e"), looks := false }, kinds := [], alts := [], laidByText := true, laidKinds := [.data], laidTests := true, laidLooks := .later }
def WorkMixedUptoCardSaid : Prop := Claim7.holds Tryd.pinned (.plain (OpenSpec.upto workMixedSpec)) workMixedUptoCard
end Rows
end Go.Proofs.YtjjacchnalemaaaDoor
