/-
  DERIVED. GIVEN WITH THE SEED: THE CARDS: each row of YtdeaeboijmeefaaGreatDoorRows.lean that lists a variable, with what it lists TIED to the program's text (the seventh form; the later family's looks); each row that meets fmt, with fmt's text TOLD by the authors' own Lean function (tested against real Go, not proved from fmt's source: count such statements apart). THE CARD IS WHAT COUNTS. Prove the row's statement (the work); the ties are given (YtdeaeboijmeefaaGreatDoorTie.lean); close each card by the builder's one call (the guide's Derived/Test/ToyasCard.lean, 'card_holds'). Laid BY PROGRAM, IN A SANDBOX (cutbox-door.mjs). By AI agents, Wed Nov 11 2026. No macro, syntax, notation, axiom, sorry.
-/
import Derived.Test.YtdeaeboijmeefaaGreatDoorRows
import GoSem.ClaimSeven
namespace Go.Proofs.YtdeaeboijmeefaaGreatDoor
namespace Rows

/-- THE TIED CARD OF 'ephemerislaw27.ReptTells'. -/
def reptTellsCard : Claim7 := { stood := { row := reptTellsRow, standIns := [], harness := (true, "5e3592ed1f0ba1f6fa6054c02fc7b2e585fe113d544a3900adbcde79b717e874"), looks := true }, kinds := [], alts := [], laidByText := true, laidKinds := [.data, .data, .data, .data, .sentinel, .sentinel, .pinned], laidTests := true, laidLooks := .later }
def ReptTellsCardSaid : Prop := Claim7.holds Tryz.pinned (.plain (OpenSpec.ofChange reptTellsSpec)) reptTellsCard

/-- THE TIED CARD OF 'ephemerislaw23.RecmBudget'. -/
def recmBudgetCard : Claim7 := { stood := { row := recmBudgetRow, standIns := [], harness := (true, "5e3592ed1f0ba1f6fa6054c02fc7b2e585fe113d544a3900adbcde79b717e874"), looks := true }, kinds := [], alts := [], laidByText := true, laidKinds := [.data], laidTests := true, laidLooks := .later }
def RecmBudgetCardSaid : Prop := Claim7.holds Tryz.pinned (.plain (OpenSpec.ofChange recmBudgetSpec)) recmBudgetCard

/-- THE TIED CARD OF 'ephemerislaw23.RecmTurns'. -/
def recmTurnsCard : Claim7 := { stood := { row := recmTurnsRow, standIns := [], harness := (true, "5e3592ed1f0ba1f6fa6054c02fc7b2e585fe113d544a3900adbcde79b717e874"), looks := true }, kinds := [], alts := [], laidByText := true, laidKinds := [.data], laidTests := true, laidLooks := .later }
def RecmTurnsCardSaid : Prop := Claim7.holds Tryz.pinned (.plain (OpenSpec.ofChange recmTurnsSpec)) recmTurnsCard

/-- THE TIED CARD OF 'ephemerislaw23.RecmSmaller'. -/
def recmSmallerCard : Claim7 := { stood := { row := recmSmallerRow, standIns := [], harness := (true, "5e3592ed1f0ba1f6fa6054c02fc7b2e585fe113d544a3900adbcde79b717e874"), looks := true }, kinds := [], alts := [], laidByText := true, laidKinds := [.data], laidTests := true, laidLooks := .later }
def RecmSmallerCardSaid : Prop := Claim7.holds Tryz.pinned (.plain (OpenSpec.ofChange recmSmallerSpec)) recmSmallerCard

/-- THE TIED CARD OF 'ephemerislaw23.RecmYields'. -/
def recmYieldsCard : Claim7 := { stood := { row := recmYieldsRow, standIns := [], harness := (true, "5e3592ed1f0ba1f6fa6054c02fc7b2e585fe113d544a3900adbcde79b717e874"), looks := true }, kinds := [], alts := [], laidByText := true, laidKinds := [.data], laidTests := true, laidLooks := .later }
def RecmYieldsCardSaid : Prop := Claim7.holds Tryz.pinned (.plain (OpenSpec.ofChange recmYieldsSpec)) recmYieldsCard

/-- THE TIED CARD OF 'ephemerislaw23.RecmKeeps'. -/
def recmKeepsCard : Claim7 := { stood := { row := recmKeepsRow, standIns := [], harness := (true, "5e3592ed1f0ba1f6fa6054c02fc7b2e585fe113d544a3900adbcde79b717e874"), looks := true }, kinds := [], alts := [], laidByText := true, laidKinds := [.data], laidTests := true, laidLooks := .later }
def RecmKeepsCardSaid : Prop := Claim7.holds Tryz.pinned (.plain (OpenSpec.ofChange recmKeepsSpec)) recmKeepsCard

/-- THE SECOND FORM's CARD OF 'ephemerislaw27.ReptTells'. -/
def reptTellsUptoCard : Claim7 := { stood := { row := reptTellsUptoRow, standIns := [], harness := (true, "5e3592ed1f0ba1f6fa6054c02fc7b2e585fe113d544a3900adbcde79b717e874"), looks := true }, kinds := [], alts := [], laidByText := true, laidKinds := [.data, .data, .data, .data, .sentinel, .sentinel, .pinned], laidTests := true, laidLooks := .later }
def ReptTellsUptoCardSaid : Prop := Claim7.holds Tryz.pinned (.plain (OpenSpec.upto reptTellsSpec)) reptTellsUptoCard

/-- THE SECOND FORM's CARD OF 'ephemerislaw23.RecmBudget'. -/
def recmBudgetUptoCard : Claim7 := { stood := { row := recmBudgetUptoRow, standIns := [], harness := (true, "5e3592ed1f0ba1f6fa6054c02fc7b2e585fe113d544a3900adbcde79b717e874"), looks := true }, kinds := [], alts := [], laidByText := true, laidKinds := [.data], laidTests := true, laidLooks := .later }
def RecmBudgetUptoCardSaid : Prop := Claim7.holds Tryz.pinned (.plain (OpenSpec.upto recmBudgetSpec)) recmBudgetUptoCard

/-- THE SECOND FORM's CARD OF 'ephemerislaw23.RecmTurns'. -/
def recmTurnsUptoCard : Claim7 := { stood := { row := recmTurnsUptoRow, standIns := [], harness := (true, "5e3592ed1f0ba1f6fa6054c02fc7b2e585fe113d544a3900adbcde79b717e874"), looks := true }, kinds := [], alts := [], laidByText := true, laidKinds := [.data], laidTests := true, laidLooks := .later }
def RecmTurnsUptoCardSaid : Prop := Claim7.holds Tryz.pinned (.plain (OpenSpec.upto recmTurnsSpec)) recmTurnsUptoCard

/-- THE SECOND FORM's CARD OF 'ephemerislaw23.RecmSmaller'. -/
def recmSmallerUptoCard : Claim7 := { stood := { row := recmSmallerUptoRow, standIns := [], harness := (true, "5e3592ed1f0ba1f6fa6054c02fc7b2e585fe113d544a3900adbcde79b717e874"), looks := true }, kinds := [], alts := [], laidByText := true, laidKinds := [.data], laidTests := true, laidLooks := .later }
def RecmSmallerUptoCardSaid : Prop := Claim7.holds Tryz.pinned (.plain (OpenSpec.upto recmSmallerSpec)) recmSmallerUptoCard

/-- THE SECOND FORM's CARD OF 'ephemerislaw23.RecmYields'. -/
def recmYieldsUptoCard : Claim7 := { stood := { row := recmYieldsUptoRow, standIns := [], harness := (true, "5e3592ed1f0ba1f6fa6054c02fc7b2e585fe113d544a3900adbcde79b717e874"), looks := true }, kinds := [], alts := [], laidByText := true, laidKinds := [.data], laidTests := true, laidLooks := .later }
def RecmYieldsUptoCardSaid : Prop := Claim7.holds Tryz.pinned (.plain (OpenSpec.upto recmYieldsSpec)) recmYieldsUptoCard

/-- THE SECOND FORM's CARD OF 'ephemerislaw23.RecmKeeps'. -/
def recmKeepsUptoCard : Claim7 := { stood := { row := recmKeepsUptoRow, standIns := [], harness := (true, "5e3592ed1f0ba1f6fa6054c02fc7b2e585fe113d544a3900adbcde79b717e874"), looks := true }, kinds := [], alts := [], laidByText := true, laidKinds := [.data], laidTests := true, laidLooks := .later }
def RecmKeepsUptoCardSaid : Prop := Claim7.holds Tryz.pinned (.plain (OpenSpec.upto recmKeepsSpec)) recmKeepsUptoCard
end Rows
end Go.Proofs.YtdeaeboijmeefaaGreatDoor
