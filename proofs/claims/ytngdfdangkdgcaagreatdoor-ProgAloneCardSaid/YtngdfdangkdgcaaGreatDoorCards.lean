/-
  DERIVED. GIVEN WITH THE SEED: THE CARDS: each row of YtngdfdangkdgcaaGreatDoorRows.lean that lists a variable, with what it lists TIED to the program's text (the seventh form; the later family's looks); each row that meets fmt, with fmt's text TOLD by the authors' own Lean function (tested against real Go, not proved from fmt's source: count such statements apart). THE CARD IS WHAT COUNTS. Prove the row's statement (the work); the ties are given (YtngdfdangkdgcaaGreatDoorTie.lean); close each card by the builder's one call (the guide's Derived/Test/ToyasCard.lean, 'card_holds'). Laid BY PROGRAM, IN A SANDBOX (cutbox-door.mjs). By AI agents, Wed Nov 11 2026. No macro, syntax, notation, axiom, sorry.
-/
import Derived.Test.YtngdfdangkdgcaaGreatDoorRows
import GoSem.ClaimSeven
namespace Go.Proofs.YtngdfdangkdgcaaGreatDoor
namespace Rows

/-- THE TIED CARD OF 'ephemerislaw22.ProgHolds'. -/
def progHoldsCard : Claim7 := { stood := { row := progHoldsRow, standIns := [], harness := (true, "3fa42f059d52ad4d272423e5d8649bdf09a7c76bf61fa5c70ca94af27e19badf"), looks := false }, kinds := [], alts := [], laidByText := true, laidKinds := [.data], laidTests := true, laidLooks := .later }
def ProgHoldsCardSaid : Prop := Claim7.holds Tryz.pinned (.plain (OpenSpec.ofChange progHoldsSpec)) progHoldsCard

/-- THE TIED CARD OF 'ephemerislaw22.ProgBusy'. -/
def progBusyCard : Claim7 := { stood := { row := progBusyRow, standIns := [], harness := (true, "3fa42f059d52ad4d272423e5d8649bdf09a7c76bf61fa5c70ca94af27e19badf"), looks := false }, kinds := [], alts := [], laidByText := true, laidKinds := [.data], laidTests := true, laidLooks := .later }
def ProgBusyCardSaid : Prop := Claim7.holds Tryz.pinned (.plain (OpenSpec.ofChange progBusySpec)) progBusyCard

/-- THE TIED CARD OF 'ephemerislaw22.ProgOver'. -/
def progOverCard : Claim7 := { stood := { row := progOverRow, standIns := [], harness := (true, "3fa42f059d52ad4d272423e5d8649bdf09a7c76bf61fa5c70ca94af27e19badf"), looks := false }, kinds := [], alts := [], laidByText := true, laidKinds := [.data], laidTests := true, laidLooks := .later }
def ProgOverCardSaid : Prop := Claim7.holds Tryz.pinned (.plain (OpenSpec.ofChange progOverSpec)) progOverCard

/-- THE TIED CARD OF 'ephemerislaw22.ProgIters'. -/
def progItersCard : Claim7 := { stood := { row := progItersRow, standIns := [], harness := (true, "3fa42f059d52ad4d272423e5d8649bdf09a7c76bf61fa5c70ca94af27e19badf"), looks := false }, kinds := [], alts := [], laidByText := true, laidKinds := [.data], laidTests := true, laidLooks := .later }
def ProgItersCardSaid : Prop := Claim7.holds Tryz.pinned (.plain (OpenSpec.ofChange progItersSpec)) progItersCard

/-- THE TIED CARD OF 'ephemerislaw22.ProgWaits'. -/
def progWaitsCard : Claim7 := { stood := { row := progWaitsRow, standIns := [], harness := (true, "3fa42f059d52ad4d272423e5d8649bdf09a7c76bf61fa5c70ca94af27e19badf"), looks := false }, kinds := [], alts := [], laidByText := true, laidKinds := [.data], laidTests := true, laidLooks := .later }
def ProgWaitsCardSaid : Prop := Claim7.holds Tryz.pinned (.plain (OpenSpec.ofChange progWaitsSpec)) progWaitsCard

/-- THE TIED CARD OF 'ephemerislaw22.ProgSees'. -/
def progSeesCard : Claim7 := { stood := { row := progSeesRow, standIns := [], harness := (true, "3fa42f059d52ad4d272423e5d8649bdf09a7c76bf61fa5c70ca94af27e19badf"), looks := false }, kinds := [], alts := [], laidByText := true, laidKinds := [.data], laidTests := true, laidLooks := .later }
def ProgSeesCardSaid : Prop := Claim7.holds Tryz.pinned (.plain (OpenSpec.ofChange progSeesSpec)) progSeesCard

/-- THE TIED CARD OF 'ephemerislaw22.ProgFull'. -/
def progFullCard : Claim7 := { stood := { row := progFullRow, standIns := [], harness := (true, "3fa42f059d52ad4d272423e5d8649bdf09a7c76bf61fa5c70ca94af27e19badf"), looks := false }, kinds := [], alts := [], laidByText := true, laidKinds := [.data], laidTests := true, laidLooks := .later }
def ProgFullCardSaid : Prop := Claim7.holds Tryz.pinned (.plain (OpenSpec.ofChange progFullSpec)) progFullCard

/-- THE TIED CARD OF 'ephemerislaw22.ProgAlone'. -/
def progAloneCard : Claim7 := { stood := { row := progAloneRow, standIns := [], harness := (true, "3fa42f059d52ad4d272423e5d8649bdf09a7c76bf61fa5c70ca94af27e19badf"), looks := false }, kinds := [], alts := [], laidByText := true, laidKinds := [.data], laidTests := true, laidLooks := .later }
def ProgAloneCardSaid : Prop := Claim7.holds Tryz.pinned (.plain (OpenSpec.ofChange progAloneSpec)) progAloneCard

/-- THE SECOND FORM's CARD OF 'ephemerislaw22.ProgHolds'. -/
def progHoldsUptoCard : Claim7 := { stood := { row := progHoldsUptoRow, standIns := [], harness := (true, "3fa42f059d52ad4d272423e5d8649bdf09a7c76bf61fa5c70ca94af27e19badf"), looks := false }, kinds := [], alts := [], laidByText := true, laidKinds := [.data], laidTests := true, laidLooks := .later }
def ProgHoldsUptoCardSaid : Prop := Claim7.holds Tryz.pinned (.plain (OpenSpec.upto progHoldsSpec)) progHoldsUptoCard

/-- THE SECOND FORM's CARD OF 'ephemerislaw22.ProgBusy'. -/
def progBusyUptoCard : Claim7 := { stood := { row := progBusyUptoRow, standIns := [], harness := (true, "3fa42f059d52ad4d272423e5d8649bdf09a7c76bf61fa5c70ca94af27e19badf"), looks := false }, kinds := [], alts := [], laidByText := true, laidKinds := [.data], laidTests := true, laidLooks := .later }
def ProgBusyUptoCardSaid : Prop := Claim7.holds Tryz.pinned (.plain (OpenSpec.upto progBusySpec)) progBusyUptoCard

/-- THE SECOND FORM's CARD OF 'ephemerislaw22.ProgOver'. -/
def progOverUptoCard : Claim7 := { stood := { row := progOverUptoRow, standIns := [], harness := (true, "3fa42f059d52ad4d272423e5d8649bdf09a7c76bf61fa5c70ca94af27e19badf"), looks := false }, kinds := [], alts := [], laidByText := true, laidKinds := [.data], laidTests := true, laidLooks := .later }
def ProgOverUptoCardSaid : Prop := Claim7.holds Tryz.pinned (.plain (OpenSpec.upto progOverSpec)) progOverUptoCard

/-- THE SECOND FORM's CARD OF 'ephemerislaw22.ProgIters'. -/
def progItersUptoCard : Claim7 := { stood := { row := progItersUptoRow, standIns := [], harness := (true, "3fa42f059d52ad4d272423e5d8649bdf09a7c76bf61fa5c70ca94af27e19badf"), looks := false }, kinds := [], alts := [], laidByText := true, laidKinds := [.data], laidTests := true, laidLooks := .later }
def ProgItersUptoCardSaid : Prop := Claim7.holds Tryz.pinned (.plain (OpenSpec.upto progItersSpec)) progItersUptoCard

/-- THE SECOND FORM's CARD OF 'ephemerislaw22.ProgWaits'. -/
def progWaitsUptoCard : Claim7 := { stood := { row := progWaitsUptoRow, standIns := [], harness := (true, "3fa42f059d52ad4d272423e5d8649bdf09a7c76bf61fa5c70ca94af27e19badf"), looks := false }, kinds := [], alts := [], laidByText := true, laidKinds := [.data], laidTests := true, laidLooks := .later }
def ProgWaitsUptoCardSaid : Prop := Claim7.holds Tryz.pinned (.plain (OpenSpec.upto progWaitsSpec)) progWaitsUptoCard

/-- THE SECOND FORM's CARD OF 'ephemerislaw22.ProgSees'. -/
def progSeesUptoCard : Claim7 := { stood := { row := progSeesUptoRow, standIns := [], harness := (true, "3fa42f059d52ad4d272423e5d8649bdf09a7c76bf61fa5c70ca94af27e19badf"), looks := false }, kinds := [], alts := [], laidByText := true, laidKinds := [.data], laidTests := true, laidLooks := .later }
def ProgSeesUptoCardSaid : Prop := Claim7.holds Tryz.pinned (.plain (OpenSpec.upto progSeesSpec)) progSeesUptoCard

/-- THE SECOND FORM's CARD OF 'ephemerislaw22.ProgFull'. -/
def progFullUptoCard : Claim7 := { stood := { row := progFullUptoRow, standIns := [], harness := (true, "3fa42f059d52ad4d272423e5d8649bdf09a7c76bf61fa5c70ca94af27e19badf"), looks := false }, kinds := [], alts := [], laidByText := true, laidKinds := [.data], laidTests := true, laidLooks := .later }
def ProgFullUptoCardSaid : Prop := Claim7.holds Tryz.pinned (.plain (OpenSpec.upto progFullSpec)) progFullUptoCard

/-- THE SECOND FORM's CARD OF 'ephemerislaw22.ProgAlone'. -/
def progAloneUptoCard : Claim7 := { stood := { row := progAloneUptoRow, standIns := [], harness := (true, "3fa42f059d52ad4d272423e5d8649bdf09a7c76bf61fa5c70ca94af27e19badf"), looks := false }, kinds := [], alts := [], laidByText := true, laidKinds := [.data], laidTests := true, laidLooks := .later }
def ProgAloneUptoCardSaid : Prop := Claim7.holds Tryz.pinned (.plain (OpenSpec.upto progAloneSpec)) progAloneUptoCard
end Rows
end Go.Proofs.YtngdfdangkdgcaaGreatDoor
