/-
  DERIVED. GIVEN WITH THE SEED: THE CARDS: each row of YtnnehiiblfmpnaaGreatDoorRows.lean that lists a variable, with what it lists TIED to the program's text (the seventh form; the later family's looks); each row that meets fmt, with fmt's text TOLD by the authors' own Lean function (tested against real Go, not proved from fmt's source: count such statements apart). THE CARD IS WHAT COUNTS. Prove the row's statement (the work); the ties are given (YtnnehiiblfmpnaaGreatDoorTie.lean); close each card by the builder's one call (the guide's Derived/Test/ToyasCard.lean, 'card_holds'). Laid BY PROGRAM, IN A SANDBOX (cutbox-door.mjs). By AI agents, Wed Nov 11 2026. No macro, syntax, notation, axiom, sorry.
-/
import Derived.Test.YtnnehiiblfmpnaaGreatDoorRows
import GoSem.ClaimSeven
namespace Go.Proofs.YtnnehiiblfmpnaaGreatDoor
namespace Rows

/-- THE TIED CARD OF 'ephemerislaw27.ReptResults'. -/
def reptResultsCard : Claim7 := { stood := { row := reptResultsRow, standIns := [], harness := (true, "c42e7c82a115112411a0ae59125d74da7fda0251f8a6371769ba30d739677d5a"), looks := true }, kinds := [], alts := [], laidByText := true, laidKinds := [.data, .data, .data, .data, .sentinel, .sentinel, .pinned], laidTests := true, laidLooks := .later }
def ReptResultsCardSaid : Prop := Claim7.holds Tryz.pinned (.plain (OpenSpec.ofChange reptResultsSpec)) reptResultsCard

/-- THE TIED CARD OF 'ephemerislaw27.ReptBack'. -/
def reptBackCard : Claim7 := { stood := { row := reptBackRow, standIns := [], harness := (true, "c42e7c82a115112411a0ae59125d74da7fda0251f8a6371769ba30d739677d5a"), looks := true }, kinds := [], alts := [], laidByText := true, laidKinds := [.data, .data, .data, .data, .sentinel, .sentinel, .pinned], laidTests := true, laidLooks := .later }
def ReptBackCardSaid : Prop := Claim7.holds Tryz.pinned (.plain (OpenSpec.ofChange reptBackSpec)) reptBackCard

/-- THE TIED CARD OF 'ephemerislaw27.ReptTells'. -/
def reptTellsCard : Claim7 := { stood := { row := reptTellsRow, standIns := [], harness := (true, "c42e7c82a115112411a0ae59125d74da7fda0251f8a6371769ba30d739677d5a"), looks := true }, kinds := [], alts := [], laidByText := true, laidKinds := [.data, .data, .data, .data, .sentinel, .sentinel, .pinned], laidTests := true, laidLooks := .later }
def ReptTellsCardSaid : Prop := Claim7.holds Tryz.pinned (.plain (OpenSpec.ofChange reptTellsSpec)) reptTellsCard

/-- THE TIED CARD OF 'ephemerislaw27.ReptForms'. -/
def reptFormsCard : Claim7 := { stood := { row := reptFormsRow, standIns := [], harness := (true, "c42e7c82a115112411a0ae59125d74da7fda0251f8a6371769ba30d739677d5a"), looks := true }, kinds := [], alts := [], laidByText := true, laidKinds := [.data, .data, .data, .data, .sentinel, .sentinel, .pinned], laidTests := true, laidLooks := .later }
def ReptFormsCardSaid : Prop := Claim7.holds Tryz.pinned (.plain (OpenSpec.ofChange reptFormsSpec)) reptFormsCard

/-- THE TIED CARD OF 'ephemerislaw20.TakeSpans'. -/
def takeSpansCard : Claim7 := { stood := { row := takeSpansRow, standIns := [], harness := (true, "c42e7c82a115112411a0ae59125d74da7fda0251f8a6371769ba30d739677d5a"), looks := true }, kinds := [], alts := [], laidByText := true, laidKinds := [.data], laidTests := true, laidLooks := .later }
def TakeSpansCardSaid : Prop := Claim7.holds Tryz.pinned (.plain (OpenSpec.ofChange takeSpansSpec)) takeSpansCard

/-- THE TIED CARD OF 'ephemerislaw20.TakeAll'. -/
def takeAllCard : Claim7 := { stood := { row := takeAllRow, standIns := [], harness := (true, "c42e7c82a115112411a0ae59125d74da7fda0251f8a6371769ba30d739677d5a"), looks := true }, kinds := [], alts := [], laidByText := true, laidKinds := [.data], laidTests := true, laidLooks := .later }
def TakeAllCardSaid : Prop := Claim7.holds Tryz.pinned (.plain (OpenSpec.ofChange takeAllSpec)) takeAllCard

/-- THE TIED CARD OF 'ephemerislaw20.TakeLeaves'. -/
def takeLeavesCard : Claim7 := { stood := { row := takeLeavesRow, standIns := [], harness := (true, "c42e7c82a115112411a0ae59125d74da7fda0251f8a6371769ba30d739677d5a"), looks := true }, kinds := [], alts := [], laidByText := true, laidKinds := [.data], laidTests := true, laidLooks := .later }
def TakeLeavesCardSaid : Prop := Claim7.holds Tryz.pinned (.plain (OpenSpec.ofChange takeLeavesSpec)) takeLeavesCard

/-- THE TIED CARD OF 'ephemerislaw20.TakeCached'. -/
def takeCachedCard : Claim7 := { stood := { row := takeCachedRow, standIns := [], harness := (true, "c42e7c82a115112411a0ae59125d74da7fda0251f8a6371769ba30d739677d5a"), looks := true }, kinds := [], alts := [], laidByText := true, laidKinds := [.data], laidTests := true, laidLooks := .later }
def TakeCachedCardSaid : Prop := Claim7.holds Tryz.pinned (.plain (OpenSpec.ofChange takeCachedSpec)) takeCachedCard

/-- THE SECOND FORM's CARD OF 'ephemerislaw27.ReptResults'. -/
def reptResultsUptoCard : Claim7 := { stood := { row := reptResultsUptoRow, standIns := [], harness := (true, "c42e7c82a115112411a0ae59125d74da7fda0251f8a6371769ba30d739677d5a"), looks := true }, kinds := [], alts := [], laidByText := true, laidKinds := [.data, .data, .data, .data, .sentinel, .sentinel, .pinned], laidTests := true, laidLooks := .later }
def ReptResultsUptoCardSaid : Prop := Claim7.holds Tryz.pinned (.plain (OpenSpec.upto reptResultsSpec)) reptResultsUptoCard

/-- THE SECOND FORM's CARD OF 'ephemerislaw27.ReptBack'. -/
def reptBackUptoCard : Claim7 := { stood := { row := reptBackUptoRow, standIns := [], harness := (true, "c42e7c82a115112411a0ae59125d74da7fda0251f8a6371769ba30d739677d5a"), looks := true }, kinds := [], alts := [], laidByText := true, laidKinds := [.data, .data, .data, .data, .sentinel, .sentinel, .pinned], laidTests := true, laidLooks := .later }
def ReptBackUptoCardSaid : Prop := Claim7.holds Tryz.pinned (.plain (OpenSpec.upto reptBackSpec)) reptBackUptoCard

/-- THE SECOND FORM's CARD OF 'ephemerislaw27.ReptTells'. -/
def reptTellsUptoCard : Claim7 := { stood := { row := reptTellsUptoRow, standIns := [], harness := (true, "c42e7c82a115112411a0ae59125d74da7fda0251f8a6371769ba30d739677d5a"), looks := true }, kinds := [], alts := [], laidByText := true, laidKinds := [.data, .data, .data, .data, .sentinel, .sentinel, .pinned], laidTests := true, laidLooks := .later }
def ReptTellsUptoCardSaid : Prop := Claim7.holds Tryz.pinned (.plain (OpenSpec.upto reptTellsSpec)) reptTellsUptoCard

/-- THE SECOND FORM's CARD OF 'ephemerislaw27.ReptForms'. -/
def reptFormsUptoCard : Claim7 := { stood := { row := reptFormsUptoRow, standIns := [], harness := (true, "c42e7c82a115112411a0ae59125d74da7fda0251f8a6371769ba30d739677d5a"), looks := true }, kinds := [], alts := [], laidByText := true, laidKinds := [.data, .data, .data, .data, .sentinel, .sentinel, .pinned], laidTests := true, laidLooks := .later }
def ReptFormsUptoCardSaid : Prop := Claim7.holds Tryz.pinned (.plain (OpenSpec.upto reptFormsSpec)) reptFormsUptoCard

/-- THE SECOND FORM's CARD OF 'ephemerislaw20.TakeSpans'. -/
def takeSpansUptoCard : Claim7 := { stood := { row := takeSpansUptoRow, standIns := [], harness := (true, "c42e7c82a115112411a0ae59125d74da7fda0251f8a6371769ba30d739677d5a"), looks := true }, kinds := [], alts := [], laidByText := true, laidKinds := [.data], laidTests := true, laidLooks := .later }
def TakeSpansUptoCardSaid : Prop := Claim7.holds Tryz.pinned (.plain (OpenSpec.upto takeSpansSpec)) takeSpansUptoCard

/-- THE SECOND FORM's CARD OF 'ephemerislaw20.TakeAll'. -/
def takeAllUptoCard : Claim7 := { stood := { row := takeAllUptoRow, standIns := [], harness := (true, "c42e7c82a115112411a0ae59125d74da7fda0251f8a6371769ba30d739677d5a"), looks := true }, kinds := [], alts := [], laidByText := true, laidKinds := [.data], laidTests := true, laidLooks := .later }
def TakeAllUptoCardSaid : Prop := Claim7.holds Tryz.pinned (.plain (OpenSpec.upto takeAllSpec)) takeAllUptoCard

/-- THE SECOND FORM's CARD OF 'ephemerislaw20.TakeLeaves'. -/
def takeLeavesUptoCard : Claim7 := { stood := { row := takeLeavesUptoRow, standIns := [], harness := (true, "c42e7c82a115112411a0ae59125d74da7fda0251f8a6371769ba30d739677d5a"), looks := true }, kinds := [], alts := [], laidByText := true, laidKinds := [.data], laidTests := true, laidLooks := .later }
def TakeLeavesUptoCardSaid : Prop := Claim7.holds Tryz.pinned (.plain (OpenSpec.upto takeLeavesSpec)) takeLeavesUptoCard

/-- THE SECOND FORM's CARD OF 'ephemerislaw20.TakeCached'. -/
def takeCachedUptoCard : Claim7 := { stood := { row := takeCachedUptoRow, standIns := [], harness := (true, "c42e7c82a115112411a0ae59125d74da7fda0251f8a6371769ba30d739677d5a"), looks := true }, kinds := [], alts := [], laidByText := true, laidKinds := [.data], laidTests := true, laidLooks := .later }
def TakeCachedUptoCardSaid : Prop := Claim7.holds Tryz.pinned (.plain (OpenSpec.upto takeCachedSpec)) takeCachedUptoCard
end Rows
end Go.Proofs.YtnnehiiblfmpnaaGreatDoor
