/-
  NARROWER THAN 'FOR EVERY INPUT', by the rows' own cells (each row's printed sentence says how): ProgHolds: laid · ProgBusy: laid · ProgOver: laid · ProgIters: laid · ProgWaits: laid · ProgSees: laid · ProgFull: laid · ProgAlone: laid.
  DERIVED. THE GIVEN ROWS OF THIS SEAT. 8 by the template 'for every input the law returns true; each argument reads behind the call as it read before'; 0 by the template 'total and deterministic' (their statements: YtngdfdangkdgcaaGreatDoorTotals.lean).
  GIVEN WITH THE SEED: the statements are not yours to turn. If you find one false, say at which input.
  Laid BY PROGRAM, IN A SANDBOX (cutbox-rows.mjs): the forced cells as the released guide's own fill.sh prints them over the translation 33e71829a63e92c3… (all of the seat's roots in one cut). By AI agents, Wed Nov 11 2026. No macro, syntax, notation, axiom, sorry.
-/
import Derived.Test.YtngdfdangkdgcaaGreatDoorChecked
import GoSem.Claim
import GoSem.ClaimJoined
import GoSem.ClaimMapViews
import Derived.JoinedTies
import Derived.KernelRfl
namespace Go.Proofs.YtngdfdangkdgcaaGreatDoor
/- THE CELL 'sum', in the pinned program and in every row, IS THE sha256 OF THE DUMP (.gsa) THAT YtngdfdangkdgcaaGreatDoorProg.lean LOADS. Nothing in Lean hashes anything: it is a label: what it is worth is what the hold of that sum in a sandbox is worth. -/
noncomputable def Tryz.pinned : Pinned := { name := "ytngdfdangkdgcaagreatdoor", sum := "33e71829a63e92c3df410d5110c8eb08d1ce9266bd2d336bc11c84a642dee5b9", checked := Tryz.checked }
namespace Rows
def none {H : Type} : Left H := { results := [], args := [] }

/- WHAT THE LISTED PACKAGE-LEVEL VARIABLES READ AS WHEN THE CALL BEGINS. Each datum BY PROGRAM (the guide's laid-datum.mjs) off the statement by which the dump's own 'gosem.cut.vars' lays the variable. In a bare row this is a premise. The card (YtngdfdangkdgcaaGreatDoorCards.lean) ties it to the program's text. -/
def laid_math_bits_deBruijn64tab {H : Type} : DataW H := .agg [.lit (.int .u8 0), .lit (.int .u8 1), .lit (.int .u8 56), .lit (.int .u8 2), .lit (.int .u8 57), .lit (.int .u8 49), .lit (.int .u8 28), .lit (.int .u8 3), .lit (.int .u8 61), .lit (.int .u8 58), .lit (.int .u8 42), .lit (.int .u8 50), .lit (.int .u8 38), .lit (.int .u8 29), .lit (.int .u8 17), .lit (.int .u8 4), .lit (.int .u8 62), .lit (.int .u8 47), .lit (.int .u8 59), .lit (.int .u8 36), .lit (.int .u8 45), .lit (.int .u8 43), .lit (.int .u8 51), .lit (.int .u8 22), .lit (.int .u8 53), .lit (.int .u8 39), .lit (.int .u8 33), .lit (.int .u8 30), .lit (.int .u8 24), .lit (.int .u8 18), .lit (.int .u8 12), .lit (.int .u8 5), .lit (.int .u8 63), .lit (.int .u8 55), .lit (.int .u8 48), .lit (.int .u8 27), .lit (.int .u8 60), .lit (.int .u8 41), .lit (.int .u8 37), .lit (.int .u8 16), .lit (.int .u8 46), .lit (.int .u8 35), .lit (.int .u8 44), .lit (.int .u8 21), .lit (.int .u8 52), .lit (.int .u8 32), .lit (.int .u8 23), .lit (.int .u8 11), .lit (.int .u8 54), .lit (.int .u8 26), .lit (.int .u8 40), .lit (.int .u8 15), .lit (.int .u8 34), .lit (.int .u8 20), .lit (.int .u8 31), .lit (.int .u8 10), .lit (.int .u8 25), .lit (.int .u8 14), .lit (.int .u8 19), .lit (.int .u8 9), .lit (.int .u8 13), .lit (.int .u8 8), .lit (.int .u8 7), .lit (.int .u8 6)]

/-- 'ephemerislaw22.ProgHolds': WHATEVER THE INPUT: true; the input reads as it did. -/
def progHoldsSpec : ChangeSpec := { name := "progHolds", fn := fun _ => fun
  | [d1, d2, d3] => { results := [.lit (.bool true)], args := [d1, d2, d3] }
  | _ => none }
def progHoldsRow : OpenClaim := { program := "ytngdfdangkdgcaagreatdoor", sum := "33e71829a63e92c3df410d5110c8eb08d1ce9266bd2d336bc11c84a642dee5b9", func := "ephemeris/ephemerislaw22.ProgHolds", spec := "progHolds", inPlace := ["slices.overlaps[ephemeris/api.Page]"], unfollowed := true, recurses := true, named := ["math/bits.deBruijn64tab"], plainKeys := false, apart := false, laid := [("math/bits.deBruijn64tab", laid_math_bits_deBruijn64tab)] }
def ProgHoldsSaid : Prop := progHoldsRow.holds Tryz.pinned (OpenSpec.ofChange progHoldsSpec)

/-- ITS FALSE NEIGHBOUR: 'it returns false'. Refute it at one input. -/
def progHoldsWrong : ChangeSpec := { name := "progHolds", fn := fun _ => fun
  | [d1, d2, d3] => { results := [.lit (.bool false)], args := [d1, d2, d3] }
  | _ => none }
def ProgHoldsWrongFalsely : Prop := progHoldsRow.holds Tryz.pinned (OpenSpec.ofChange progHoldsWrong)

/-- 'ephemerislaw22.ProgBusy': WHATEVER THE INPUT: true; the input reads as it did. -/
def progBusySpec : ChangeSpec := { name := "progBusy", fn := fun _ => fun
  | [d1, d2] => { results := [.lit (.bool true)], args := [d1, d2] }
  | _ => none }
def progBusyRow : OpenClaim := { program := "ytngdfdangkdgcaagreatdoor", sum := "33e71829a63e92c3df410d5110c8eb08d1ce9266bd2d336bc11c84a642dee5b9", func := "ephemeris/ephemerislaw22.ProgBusy", spec := "progBusy", inPlace := ["slices.overlaps[ephemeris/api.Page]"], unfollowed := true, recurses := true, named := ["math/bits.deBruijn64tab"], plainKeys := false, apart := false, laid := [("math/bits.deBruijn64tab", laid_math_bits_deBruijn64tab)] }
def ProgBusySaid : Prop := progBusyRow.holds Tryz.pinned (OpenSpec.ofChange progBusySpec)

/-- ITS FALSE NEIGHBOUR: 'it returns false'. Refute it at one input. -/
def progBusyWrong : ChangeSpec := { name := "progBusy", fn := fun _ => fun
  | [d1, d2] => { results := [.lit (.bool false)], args := [d1, d2] }
  | _ => none }
def ProgBusyWrongFalsely : Prop := progBusyRow.holds Tryz.pinned (OpenSpec.ofChange progBusyWrong)

/-- 'ephemerislaw22.ProgOver': WHATEVER THE INPUT: true; the input reads as it did. -/
def progOverSpec : ChangeSpec := { name := "progOver", fn := fun _ => fun
  | [d] => { results := [.lit (.bool true)], args := [d] }
  | _ => none }
def progOverRow : OpenClaim := { program := "ytngdfdangkdgcaagreatdoor", sum := "33e71829a63e92c3df410d5110c8eb08d1ce9266bd2d336bc11c84a642dee5b9", func := "ephemeris/ephemerislaw22.ProgOver", spec := "progOver", inPlace := ["slices.overlaps[ephemeris/api.Page]"], unfollowed := true, recurses := true, named := ["math/bits.deBruijn64tab"], plainKeys := false, apart := false, laid := [("math/bits.deBruijn64tab", laid_math_bits_deBruijn64tab)] }
def ProgOverSaid : Prop := progOverRow.holds Tryz.pinned (OpenSpec.ofChange progOverSpec)

/-- ITS FALSE NEIGHBOUR: 'it returns false'. Refute it at one input. -/
def progOverWrong : ChangeSpec := { name := "progOver", fn := fun _ => fun
  | [d] => { results := [.lit (.bool false)], args := [d] }
  | _ => none }
def ProgOverWrongFalsely : Prop := progOverRow.holds Tryz.pinned (OpenSpec.ofChange progOverWrong)

/-- 'ephemerislaw22.ProgIters': WHATEVER THE INPUT: true; the input reads as it did. -/
def progItersSpec : ChangeSpec := { name := "progIters", fn := fun _ => fun
  | [d1, d2, d3, d4] => { results := [.lit (.bool true)], args := [d1, d2, d3, d4] }
  | _ => none }
def progItersRow : OpenClaim := { program := "ytngdfdangkdgcaagreatdoor", sum := "33e71829a63e92c3df410d5110c8eb08d1ce9266bd2d336bc11c84a642dee5b9", func := "ephemeris/ephemerislaw22.ProgIters", spec := "progIters", inPlace := ["slices.overlaps[ephemeris/api.Page]"], unfollowed := true, recurses := true, named := ["math/bits.deBruijn64tab"], plainKeys := false, apart := false, laid := [("math/bits.deBruijn64tab", laid_math_bits_deBruijn64tab)] }
def ProgItersSaid : Prop := progItersRow.holds Tryz.pinned (OpenSpec.ofChange progItersSpec)

/-- ITS FALSE NEIGHBOUR: 'it returns false'. Refute it at one input. -/
def progItersWrong : ChangeSpec := { name := "progIters", fn := fun _ => fun
  | [d1, d2, d3, d4] => { results := [.lit (.bool false)], args := [d1, d2, d3, d4] }
  | _ => none }
def ProgItersWrongFalsely : Prop := progItersRow.holds Tryz.pinned (OpenSpec.ofChange progItersWrong)

/-- 'ephemerislaw22.ProgWaits': WHATEVER THE INPUT: true; the input reads as it did. -/
def progWaitsSpec : ChangeSpec := { name := "progWaits", fn := fun _ => fun
  | [d1, d2, d3] => { results := [.lit (.bool true)], args := [d1, d2, d3] }
  | _ => none }
def progWaitsRow : OpenClaim := { program := "ytngdfdangkdgcaagreatdoor", sum := "33e71829a63e92c3df410d5110c8eb08d1ce9266bd2d336bc11c84a642dee5b9", func := "ephemeris/ephemerislaw22.ProgWaits", spec := "progWaits", inPlace := ["slices.overlaps[ephemeris/api.Page]"], unfollowed := true, recurses := true, named := ["math/bits.deBruijn64tab"], plainKeys := false, apart := false, laid := [("math/bits.deBruijn64tab", laid_math_bits_deBruijn64tab)] }
def ProgWaitsSaid : Prop := progWaitsRow.holds Tryz.pinned (OpenSpec.ofChange progWaitsSpec)

/-- ITS FALSE NEIGHBOUR: 'it returns false'. Refute it at one input. -/
def progWaitsWrong : ChangeSpec := { name := "progWaits", fn := fun _ => fun
  | [d1, d2, d3] => { results := [.lit (.bool false)], args := [d1, d2, d3] }
  | _ => none }
def ProgWaitsWrongFalsely : Prop := progWaitsRow.holds Tryz.pinned (OpenSpec.ofChange progWaitsWrong)

/-- 'ephemerislaw22.ProgSees': WHATEVER THE INPUT: true; the input reads as it did. -/
def progSeesSpec : ChangeSpec := { name := "progSees", fn := fun _ => fun
  | [d1, d2] => { results := [.lit (.bool true)], args := [d1, d2] }
  | _ => none }
def progSeesRow : OpenClaim := { program := "ytngdfdangkdgcaagreatdoor", sum := "33e71829a63e92c3df410d5110c8eb08d1ce9266bd2d336bc11c84a642dee5b9", func := "ephemeris/ephemerislaw22.ProgSees", spec := "progSees", inPlace := ["slices.overlaps[ephemeris/api.Page]"], unfollowed := true, recurses := true, named := ["math/bits.deBruijn64tab"], plainKeys := false, apart := false, laid := [("math/bits.deBruijn64tab", laid_math_bits_deBruijn64tab)] }
def ProgSeesSaid : Prop := progSeesRow.holds Tryz.pinned (OpenSpec.ofChange progSeesSpec)

/-- ITS FALSE NEIGHBOUR: 'it returns false'. Refute it at one input. -/
def progSeesWrong : ChangeSpec := { name := "progSees", fn := fun _ => fun
  | [d1, d2] => { results := [.lit (.bool false)], args := [d1, d2] }
  | _ => none }
def ProgSeesWrongFalsely : Prop := progSeesRow.holds Tryz.pinned (OpenSpec.ofChange progSeesWrong)

/-- 'ephemerislaw22.ProgFull': WHATEVER THE INPUT: true; the input reads as it did. -/
def progFullSpec : ChangeSpec := { name := "progFull", fn := fun _ => fun
  | [d1, d2] => { results := [.lit (.bool true)], args := [d1, d2] }
  | _ => none }
def progFullRow : OpenClaim := { program := "ytngdfdangkdgcaagreatdoor", sum := "33e71829a63e92c3df410d5110c8eb08d1ce9266bd2d336bc11c84a642dee5b9", func := "ephemeris/ephemerislaw22.ProgFull", spec := "progFull", inPlace := ["slices.overlaps[ephemeris/api.Page]"], unfollowed := true, recurses := true, named := ["math/bits.deBruijn64tab"], plainKeys := false, apart := false, laid := [("math/bits.deBruijn64tab", laid_math_bits_deBruijn64tab)] }
def ProgFullSaid : Prop := progFullRow.holds Tryz.pinned (OpenSpec.ofChange progFullSpec)

/-- ITS FALSE NEIGHBOUR: 'it returns false'. Refute it at one input. -/
def progFullWrong : ChangeSpec := { name := "progFull", fn := fun _ => fun
  | [d1, d2] => { results := [.lit (.bool false)], args := [d1, d2] }
  | _ => none }
def ProgFullWrongFalsely : Prop := progFullRow.holds Tryz.pinned (OpenSpec.ofChange progFullWrong)

/-- 'ephemerislaw22.ProgAlone': WHATEVER THE INPUT: true; the input reads as it did. -/
def progAloneSpec : ChangeSpec := { name := "progAlone", fn := fun _ => fun
  | [d1, d2, d3, d4] => { results := [.lit (.bool true)], args := [d1, d2, d3, d4] }
  | _ => none }
def progAloneRow : OpenClaim := { program := "ytngdfdangkdgcaagreatdoor", sum := "33e71829a63e92c3df410d5110c8eb08d1ce9266bd2d336bc11c84a642dee5b9", func := "ephemeris/ephemerislaw22.ProgAlone", spec := "progAlone", inPlace := ["slices.overlaps[ephemeris/api.Page]"], unfollowed := true, recurses := true, named := ["math/bits.deBruijn64tab"], plainKeys := false, apart := false, laid := [("math/bits.deBruijn64tab", laid_math_bits_deBruijn64tab)] }
def ProgAloneSaid : Prop := progAloneRow.holds Tryz.pinned (OpenSpec.ofChange progAloneSpec)

/-- ITS FALSE NEIGHBOUR: 'it returns false'. Refute it at one input. -/
def progAloneWrong : ChangeSpec := { name := "progAlone", fn := fun _ => fun
  | [d1, d2, d3, d4] => { results := [.lit (.bool false)], args := [d1, d2, d3, d4] }
  | _ => none }
def ProgAloneWrongFalsely : Prop := progAloneRow.holds Tryz.pinned (OpenSpec.ofChange progAloneWrong)

/- THE SECOND FORM. 'bulk': how many values and letters a reading holds, each counted each time it is reached (what is shared counts as often as it is met; a slice's spare places count too). A statement '..UptoSaid' is the law's where the arguments, and the package variables that the reading takes, are together of bulk at most 1048576: NARROWER than '..Said'. Prove '..Said' where nothing that the law and all that it calls make is longer than what came in: it says more and counts as full. Else prove '..UptoSaid'. A law counts once. -/
mutual
def uptoBulk {H : Type} : DataW H → Nat
  | .lit (.string bytes) => bytes.length + 1
  | .lit _ => 1
  | .nil => 1
  | .ptr d => uptoBulk d + 1
  | .slice elems spare => uptoBulkAll elems + uptoBulkAll spare + 1
  | .agg parts => uptoBulkAll parts + 1
  | .iface _ d => uptoBulk d + 1
  | .map entries => uptoBulkEntries entries + 1
  | .held _ => 1
def uptoBulkAll {H : Type} : List (DataW H) → Nat
  | [] => 0
  | d :: r => uptoBulk d + uptoBulkAll r
def uptoBulkEntries {H : Type} : List (Lit × DataW H) → Nat
  | [] => 0
  | x :: r => uptoBulkEntry x + uptoBulkEntries r
def uptoBulkEntry {H : Type} : Lit × DataW H → Nat
  | (.string bytes, d) => bytes.length + uptoBulk d + 1
  | (_, d) => uptoBulk d + 1
 end
def uptoSmall : (H : Type) → List (DataW H) → Bool := fun _ ds => decide (uptoBulkAll ds ≤ 1048576)
def OpenSpec.upto (s : _root_.Go.ChangeSpec) : _root_.Go.OpenSpec := { _root_.Go.OpenSpec.ofChange s with cond := some uptoSmall }

/-- 'ephemerislaw22.ProgHolds', WHERE WHAT IT READS IS OF BULK AT MOST 1048576: true; the input reads as it did. -/
def progHoldsUptoRow : OpenClaim := { program := "ytngdfdangkdgcaagreatdoor", sum := "33e71829a63e92c3df410d5110c8eb08d1ce9266bd2d336bc11c84a642dee5b9", func := "ephemeris/ephemerislaw22.ProgHolds", spec := "progHolds", inPlace := ["slices.overlaps[ephemeris/api.Page]"], unfollowed := true, recurses := true, named := ["math/bits.deBruijn64tab"], plainKeys := false, apart := false, laid := [("math/bits.deBruijn64tab", laid_math_bits_deBruijn64tab)], narrowed := true }
def ProgHoldsUptoSaid : Prop := progHoldsUptoRow.holds Tryz.pinned (OpenSpec.upto progHoldsSpec)

/-- 'ephemerislaw22.ProgBusy', WHERE WHAT IT READS IS OF BULK AT MOST 1048576: true; the input reads as it did. -/
def progBusyUptoRow : OpenClaim := { program := "ytngdfdangkdgcaagreatdoor", sum := "33e71829a63e92c3df410d5110c8eb08d1ce9266bd2d336bc11c84a642dee5b9", func := "ephemeris/ephemerislaw22.ProgBusy", spec := "progBusy", inPlace := ["slices.overlaps[ephemeris/api.Page]"], unfollowed := true, recurses := true, named := ["math/bits.deBruijn64tab"], plainKeys := false, apart := false, laid := [("math/bits.deBruijn64tab", laid_math_bits_deBruijn64tab)], narrowed := true }
def ProgBusyUptoSaid : Prop := progBusyUptoRow.holds Tryz.pinned (OpenSpec.upto progBusySpec)

/-- 'ephemerislaw22.ProgOver', WHERE WHAT IT READS IS OF BULK AT MOST 1048576: true; the input reads as it did. -/
def progOverUptoRow : OpenClaim := { program := "ytngdfdangkdgcaagreatdoor", sum := "33e71829a63e92c3df410d5110c8eb08d1ce9266bd2d336bc11c84a642dee5b9", func := "ephemeris/ephemerislaw22.ProgOver", spec := "progOver", inPlace := ["slices.overlaps[ephemeris/api.Page]"], unfollowed := true, recurses := true, named := ["math/bits.deBruijn64tab"], plainKeys := false, apart := false, laid := [("math/bits.deBruijn64tab", laid_math_bits_deBruijn64tab)], narrowed := true }
def ProgOverUptoSaid : Prop := progOverUptoRow.holds Tryz.pinned (OpenSpec.upto progOverSpec)

/-- 'ephemerislaw22.ProgIters', WHERE WHAT IT READS IS OF BULK AT MOST 1048576: true; the input reads as it did. -/
def progItersUptoRow : OpenClaim := { program := "ytngdfdangkdgcaagreatdoor", sum := "33e71829a63e92c3df410d5110c8eb08d1ce9266bd2d336bc11c84a642dee5b9", func := "ephemeris/ephemerislaw22.ProgIters", spec := "progIters", inPlace := ["slices.overlaps[ephemeris/api.Page]"], unfollowed := true, recurses := true, named := ["math/bits.deBruijn64tab"], plainKeys := false, apart := false, laid := [("math/bits.deBruijn64tab", laid_math_bits_deBruijn64tab)], narrowed := true }
def ProgItersUptoSaid : Prop := progItersUptoRow.holds Tryz.pinned (OpenSpec.upto progItersSpec)

/-- 'ephemerislaw22.ProgWaits', WHERE WHAT IT READS IS OF BULK AT MOST 1048576: true; the input reads as it did. -/
def progWaitsUptoRow : OpenClaim := { program := "ytngdfdangkdgcaagreatdoor", sum := "33e71829a63e92c3df410d5110c8eb08d1ce9266bd2d336bc11c84a642dee5b9", func := "ephemeris/ephemerislaw22.ProgWaits", spec := "progWaits", inPlace := ["slices.overlaps[ephemeris/api.Page]"], unfollowed := true, recurses := true, named := ["math/bits.deBruijn64tab"], plainKeys := false, apart := false, laid := [("math/bits.deBruijn64tab", laid_math_bits_deBruijn64tab)], narrowed := true }
def ProgWaitsUptoSaid : Prop := progWaitsUptoRow.holds Tryz.pinned (OpenSpec.upto progWaitsSpec)

/-- 'ephemerislaw22.ProgSees', WHERE WHAT IT READS IS OF BULK AT MOST 1048576: true; the input reads as it did. -/
def progSeesUptoRow : OpenClaim := { program := "ytngdfdangkdgcaagreatdoor", sum := "33e71829a63e92c3df410d5110c8eb08d1ce9266bd2d336bc11c84a642dee5b9", func := "ephemeris/ephemerislaw22.ProgSees", spec := "progSees", inPlace := ["slices.overlaps[ephemeris/api.Page]"], unfollowed := true, recurses := true, named := ["math/bits.deBruijn64tab"], plainKeys := false, apart := false, laid := [("math/bits.deBruijn64tab", laid_math_bits_deBruijn64tab)], narrowed := true }
def ProgSeesUptoSaid : Prop := progSeesUptoRow.holds Tryz.pinned (OpenSpec.upto progSeesSpec)

/-- 'ephemerislaw22.ProgFull', WHERE WHAT IT READS IS OF BULK AT MOST 1048576: true; the input reads as it did. -/
def progFullUptoRow : OpenClaim := { program := "ytngdfdangkdgcaagreatdoor", sum := "33e71829a63e92c3df410d5110c8eb08d1ce9266bd2d336bc11c84a642dee5b9", func := "ephemeris/ephemerislaw22.ProgFull", spec := "progFull", inPlace := ["slices.overlaps[ephemeris/api.Page]"], unfollowed := true, recurses := true, named := ["math/bits.deBruijn64tab"], plainKeys := false, apart := false, laid := [("math/bits.deBruijn64tab", laid_math_bits_deBruijn64tab)], narrowed := true }
def ProgFullUptoSaid : Prop := progFullUptoRow.holds Tryz.pinned (OpenSpec.upto progFullSpec)

/-- 'ephemerislaw22.ProgAlone', WHERE WHAT IT READS IS OF BULK AT MOST 1048576: true; the input reads as it did. -/
def progAloneUptoRow : OpenClaim := { program := "ytngdfdangkdgcaagreatdoor", sum := "33e71829a63e92c3df410d5110c8eb08d1ce9266bd2d336bc11c84a642dee5b9", func := "ephemeris/ephemerislaw22.ProgAlone", spec := "progAlone", inPlace := ["slices.overlaps[ephemeris/api.Page]"], unfollowed := true, recurses := true, named := ["math/bits.deBruijn64tab"], plainKeys := false, apart := false, laid := [("math/bits.deBruijn64tab", laid_math_bits_deBruijn64tab)], narrowed := true }
def ProgAloneUptoSaid : Prop := progAloneUptoRow.holds Tryz.pinned (OpenSpec.upto progAloneSpec)

end Rows
end Go.Proofs.YtngdfdangkdgcaaGreatDoor
