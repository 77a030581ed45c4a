/-
  NARROWER THAN 'FOR EVERY INPUT', by the rows' own cells (each row's printed sentence says how): SuitPicks: laid · SuitRough: laid · SuitTags: laid · SuitBack: laid · ChnkHeads: laid · ChnkEach: laid · ChnkTurned: laid · WorkMixed: laid.
  DERIVED. THE GIVEN ROWS OF THIS SEAT. 8 by the template 'for every input the law returns true; each argument reads behind the call as it read before'; 0 by the template 'total and deterministic' (their statements: YtjjacchnalemaaaDoorTotals.lean).
  GIVEN WITH THE SEED: the statements are not yours to turn. If you find one false, say at which input.
  Laid BY PROGRAM, IN A SANDBOX (cutbox-rows.mjs): the forced cells as the released guide's own fill.sh prints them over the translation 77beb50185741f8d… (all of the seat's roots in one cut). By AI agents, Wed Nov 11 2026. No macro, syntax, notation, axiom, sorry.
-/
import Derived.Test.YtjjacchnalemaaaDoorChecked
import GoSem.Claim
import GoSem.ClaimJoined
import GoSem.ClaimMapViews
import Derived.JoinedTies
import Derived.KernelRfl
namespace Go.Proofs.YtjjacchnalemaaaDoor
/- THE CELL 'sum', in the pinned program and in every row, IS THE sha256 OF THE DUMP (.gsa) THAT YtjjacchnalemaaaDoorProg.lean LOADS. Nothing in Lean hashes anything: it is a label: what it is worth is what the hold of that sum in a sandbox is worth. -/
noncomputable def Tryd.pinned : Pinned := { name := "ytjjacchnalemaaadoor", sum := "77beb50185741f8d1abf087669d71ac19e4b02ce39f26b0676c698fca1fd723f", checked := Tryd.checked }
namespace Rows
def none {H : Type} : Left H := { results := [], args := [] }

/- WHAT THE LISTED PACKAGE-LEVEL VARIABLES READ AS WHEN THE CALL BEGINS. Each datum BY PROGRAM (the guide's laid-datum.mjs) off the statement by which the dump's own 'gosem.cut.vars' lays the variable. In a bare row this is a premise. The card (YtjjacchnalemaaaDoorCards.lean) ties it to the program's text. -/
def laid_math_bits_deBruijn64tab {H : Type} : DataW H := .agg [.lit (.int .u8 0), .lit (.int .u8 1), .lit (.int .u8 56), .lit (.int .u8 2), .lit (.int .u8 57), .lit (.int .u8 49), .lit (.int .u8 28), .lit (.int .u8 3), .lit (.int .u8 61), .lit (.int .u8 58), .lit (.int .u8 42), .lit (.int .u8 50), .lit (.int .u8 38), .lit (.int .u8 29), .lit (.int .u8 17), .lit (.int .u8 4), .lit (.int .u8 62), .lit (.int .u8 47), .lit (.int .u8 59), .lit (.int .u8 36), .lit (.int .u8 45), .lit (.int .u8 43), .lit (.int .u8 51), .lit (.int .u8 22), .lit (.int .u8 53), .lit (.int .u8 39), .lit (.int .u8 33), .lit (.int .u8 30), .lit (.int .u8 24), .lit (.int .u8 18), .lit (.int .u8 12), .lit (.int .u8 5), .lit (.int .u8 63), .lit (.int .u8 55), .lit (.int .u8 48), .lit (.int .u8 27), .lit (.int .u8 60), .lit (.int .u8 41), .lit (.int .u8 37), .lit (.int .u8 16), .lit (.int .u8 46), .lit (.int .u8 35), .lit (.int .u8 44), .lit (.int .u8 21), .lit (.int .u8 52), .lit (.int .u8 32), .lit (.int .u8 23), .lit (.int .u8 11), .lit (.int .u8 54), .lit (.int .u8 26), .lit (.int .u8 40), .lit (.int .u8 15), .lit (.int .u8 34), .lit (.int .u8 20), .lit (.int .u8 31), .lit (.int .u8 10), .lit (.int .u8 25), .lit (.int .u8 14), .lit (.int .u8 19), .lit (.int .u8 9), .lit (.int .u8 13), .lit (.int .u8 8), .lit (.int .u8 7), .lit (.int .u8 6)]

/-- 'ephemerislaw10.SuitPicks': WHATEVER THE INPUT: true; the input reads as it did. -/
def suitPicksSpec : ChangeSpec := { name := "suitPicks", fn := fun _ => fun
  | [d] => { results := [.lit (.bool true)], args := [d] }
  | _ => none }
def suitPicksRow : OpenClaim := { program := "ytjjacchnalemaaadoor", sum := "77beb50185741f8d1abf087669d71ac19e4b02ce39f26b0676c698fca1fd723f", func := "ephemeris/ephemerislaw10.SuitPicks", spec := "suitPicks", unfollowed := true, recurses := true, named := ["math/bits.deBruijn64tab"], apart := false, laid := [("math/bits.deBruijn64tab", laid_math_bits_deBruijn64tab)] }
def SuitPicksSaid : Prop := suitPicksRow.holds Tryd.pinned (OpenSpec.ofChange suitPicksSpec)

/-- ITS FALSE NEIGHBOUR: 'it returns false'. Refute it at one input. -/
def suitPicksWrong : ChangeSpec := { name := "suitPicks", fn := fun _ => fun
  | [d] => { results := [.lit (.bool false)], args := [d] }
  | _ => none }
def SuitPicksWrongFalsely : Prop := suitPicksRow.holds Tryd.pinned (OpenSpec.ofChange suitPicksWrong)

/-- 'ephemerislaw10.SuitRough': WHATEVER THE INPUT: true; the input reads as it did. -/
def suitRoughSpec : ChangeSpec := { name := "suitRough", fn := fun _ => fun
  | [d1, d2, d3, d4, d5] => { results := [.lit (.bool true)], args := [d1, d2, d3, d4, d5] }
  | _ => none }
def suitRoughRow : OpenClaim := { program := "ytjjacchnalemaaadoor", sum := "77beb50185741f8d1abf087669d71ac19e4b02ce39f26b0676c698fca1fd723f", func := "ephemeris/ephemerislaw10.SuitRough", spec := "suitRough", named := ["math/bits.deBruijn64tab"], apart := false, laid := [("math/bits.deBruijn64tab", laid_math_bits_deBruijn64tab)] }
def SuitRoughSaid : Prop := suitRoughRow.holds Tryd.pinned (OpenSpec.ofChange suitRoughSpec)

/-- ITS FALSE NEIGHBOUR: 'it returns false'. Refute it at one input. -/
def suitRoughWrong : ChangeSpec := { name := "suitRough", fn := fun _ => fun
  | [d1, d2, d3, d4, d5] => { results := [.lit (.bool false)], args := [d1, d2, d3, d4, d5] }
  | _ => none }
def SuitRoughWrongFalsely : Prop := suitRoughRow.holds Tryd.pinned (OpenSpec.ofChange suitRoughWrong)

/-- 'ephemerislaw10.SuitTags': WHATEVER THE INPUT: true; the input reads as it did. -/
def suitTagsSpec : ChangeSpec := { name := "suitTags", fn := fun _ => fun
  | [d1, d2, d3, d4, d5] => { results := [.lit (.bool true)], args := [d1, d2, d3, d4, d5] }
  | _ => none }
def suitTagsRow : OpenClaim := { program := "ytjjacchnalemaaadoor", sum := "77beb50185741f8d1abf087669d71ac19e4b02ce39f26b0676c698fca1fd723f", func := "ephemeris/ephemerislaw10.SuitTags", spec := "suitTags", named := ["math/bits.deBruijn64tab"], apart := false, laid := [("math/bits.deBruijn64tab", laid_math_bits_deBruijn64tab)] }
def SuitTagsSaid : Prop := suitTagsRow.holds Tryd.pinned (OpenSpec.ofChange suitTagsSpec)

/-- ITS FALSE NEIGHBOUR: 'it returns false'. Refute it at one input. -/
def suitTagsWrong : ChangeSpec := { name := "suitTags", fn := fun _ => fun
  | [d1, d2, d3, d4, d5] => { results := [.lit (.bool false)], args := [d1, d2, d3, d4, d5] }
  | _ => none }
def SuitTagsWrongFalsely : Prop := suitTagsRow.holds Tryd.pinned (OpenSpec.ofChange suitTagsWrong)

/-- 'ephemerislaw10.SuitBack': WHATEVER THE INPUT: true; the input reads as it did. -/
def suitBackSpec : ChangeSpec := { name := "suitBack", fn := fun _ => fun
  | [d1, d2, d3] => { results := [.lit (.bool true)], args := [d1, d2, d3] }
  | _ => none }
def suitBackRow : OpenClaim := { program := "ytjjacchnalemaaadoor", sum := "77beb50185741f8d1abf087669d71ac19e4b02ce39f26b0676c698fca1fd723f", func := "ephemeris/ephemerislaw10.SuitBack", spec := "suitBack", named := ["math/bits.deBruijn64tab"], apart := false, laid := [("math/bits.deBruijn64tab", laid_math_bits_deBruijn64tab)] }
def SuitBackSaid : Prop := suitBackRow.holds Tryd.pinned (OpenSpec.ofChange suitBackSpec)

/-- ITS FALSE NEIGHBOUR: 'it returns false'. Refute it at one input. -/
def suitBackWrong : ChangeSpec := { name := "suitBack", fn := fun _ => fun
  | [d1, d2, d3] => { results := [.lit (.bool false)], args := [d1, d2, d3] }
  | _ => none }
def SuitBackWrongFalsely : Prop := suitBackRow.holds Tryd.pinned (OpenSpec.ofChange suitBackWrong)

/-- 'ephemerislaw11.ChnkHeads': WHATEVER THE INPUT: true; the input reads as it did. -/
def chnkHeadsSpec : ChangeSpec := { name := "chnkHeads", fn := fun _ => fun
  | [d1, d2, d3, d4, d5] => { results := [.lit (.bool true)], args := [d1, d2, d3, d4, d5] }
  | _ => none }
def chnkHeadsRow : OpenClaim := { program := "ytjjacchnalemaaadoor", sum := "77beb50185741f8d1abf087669d71ac19e4b02ce39f26b0676c698fca1fd723f", func := "ephemeris/ephemerislaw11.ChnkHeads", spec := "chnkHeads", named := ["math/bits.deBruijn64tab"], apart := false, laid := [("math/bits.deBruijn64tab", laid_math_bits_deBruijn64tab)] }
def ChnkHeadsSaid : Prop := chnkHeadsRow.holds Tryd.pinned (OpenSpec.ofChange chnkHeadsSpec)

/-- ITS FALSE NEIGHBOUR: 'it returns false'. Refute it at one input. -/
def chnkHeadsWrong : ChangeSpec := { name := "chnkHeads", fn := fun _ => fun
  | [d1, d2, d3, d4, d5] => { results := [.lit (.bool false)], args := [d1, d2, d3, d4, d5] }
  | _ => none }
def ChnkHeadsWrongFalsely : Prop := chnkHeadsRow.holds Tryd.pinned (OpenSpec.ofChange chnkHeadsWrong)

/-- 'ephemerislaw11.ChnkEach': WHATEVER THE INPUT: true; the input reads as it did. -/
def chnkEachSpec : ChangeSpec := { name := "chnkEach", fn := fun _ => fun
  | [d1, d2, d3, d4] => { results := [.lit (.bool true)], args := [d1, d2, d3, d4] }
  | _ => none }
def chnkEachRow : OpenClaim := { program := "ytjjacchnalemaaadoor", sum := "77beb50185741f8d1abf087669d71ac19e4b02ce39f26b0676c698fca1fd723f", func := "ephemeris/ephemerislaw11.ChnkEach", spec := "chnkEach", named := ["math/bits.deBruijn64tab"], apart := false, laid := [("math/bits.deBruijn64tab", laid_math_bits_deBruijn64tab)] }
def ChnkEachSaid : Prop := chnkEachRow.holds Tryd.pinned (OpenSpec.ofChange chnkEachSpec)

/-- ITS FALSE NEIGHBOUR: 'it returns false'. Refute it at one input. -/
def chnkEachWrong : ChangeSpec := { name := "chnkEach", fn := fun _ => fun
  | [d1, d2, d3, d4] => { results := [.lit (.bool false)], args := [d1, d2, d3, d4] }
  | _ => none }
def ChnkEachWrongFalsely : Prop := chnkEachRow.holds Tryd.pinned (OpenSpec.ofChange chnkEachWrong)

/-- 'ephemerislaw11.ChnkTurned': WHATEVER THE INPUT: true; the input reads as it did. -/
def chnkTurnedSpec : ChangeSpec := { name := "chnkTurned", fn := fun _ => fun
  | [d1, d2, d3, d4, d5] => { results := [.lit (.bool true)], args := [d1, d2, d3, d4, d5] }
  | _ => none }
def chnkTurnedRow : OpenClaim := { program := "ytjjacchnalemaaadoor", sum := "77beb50185741f8d1abf087669d71ac19e4b02ce39f26b0676c698fca1fd723f", func := "ephemeris/ephemerislaw11.ChnkTurned", spec := "chnkTurned", named := ["math/bits.deBruijn64tab"], apart := false, laid := [("math/bits.deBruijn64tab", laid_math_bits_deBruijn64tab)] }
def ChnkTurnedSaid : Prop := chnkTurnedRow.holds Tryd.pinned (OpenSpec.ofChange chnkTurnedSpec)

/-- ITS FALSE NEIGHBOUR: 'it returns false'. Refute it at one input. -/
def chnkTurnedWrong : ChangeSpec := { name := "chnkTurned", fn := fun _ => fun
  | [d1, d2, d3, d4, d5] => { results := [.lit (.bool false)], args := [d1, d2, d3, d4, d5] }
  | _ => none }
def ChnkTurnedWrongFalsely : Prop := chnkTurnedRow.holds Tryd.pinned (OpenSpec.ofChange chnkTurnedWrong)

/-- 'ephemerislaw12.WorkMixed': WHATEVER THE INPUT: true; the input reads as it did. -/
def workMixedSpec : ChangeSpec := { name := "workMixed", fn := fun _ => fun
  | [d1, d2, d3, d4, d5, d6] => { results := [.lit (.bool true)], args := [d1, d2, d3, d4, d5, d6] }
  | _ => none }
def workMixedRow : OpenClaim := { program := "ytjjacchnalemaaadoor", sum := "77beb50185741f8d1abf087669d71ac19e4b02ce39f26b0676c698fca1fd723f", func := "ephemeris/ephemerislaw12.WorkMixed", spec := "workMixed", named := ["math/bits.deBruijn64tab"], apart := false, laid := [("math/bits.deBruijn64tab", laid_math_bits_deBruijn64tab)] }
def WorkMixedSaid : Prop := workMixedRow.holds Tryd.pinned (OpenSpec.ofChange workMixedSpec)

/-- ITS FALSE NEIGHBOUR: 'it returns false'. Refute it at one input. -/
def workMixedWrong : ChangeSpec := { name := "workMixed", fn := fun _ => fun
  | [d1, d2, d3, d4, d5, d6] => { results := [.lit (.bool false)], args := [d1, d2, d3, d4, d5, d6] }
  | _ => none }
def WorkMixedWrongFalsely : Prop := workMixedRow.holds Tryd.pinned (OpenSpec.ofChange workMixedWrong)

/- THE SECOND FORM. 'bulk': how many values and letters a reading holds, each counted each time it is reached (what is shared counts as often as it is met; a slice's spare places count too). A statement '..UptoSaid' is the law's where the arguments, and the package variables that the reading takes, are together of bulk at most 1048576: NARROWER than '..Said'. Prove '..Said' where nothing that the law and all that it calls make is longer than what came in: it says more and counts as full. Else prove '..UptoSaid'. A law counts once. -/
mutual
def uptoBulk {H : Type} : DataW H → Nat
  | .lit (.string bytes) => bytes.length + 1
  | .lit _ => 1
  | .nil => 1
  | .ptr d => uptoBulk d + 1
  | .slice elems spare => uptoBulkAll elems + uptoBulkAll spare + 1
  | .agg parts => uptoBulkAll parts + 1
  | .iface _ d => uptoBulk d + 1
  | .map entries => uptoBulkEntries entries + 1
  | .held _ => 1
def uptoBulkAll {H : Type} : List (DataW H) → Nat
  | [] => 0
  | d :: r => uptoBulk d + uptoBulkAll r
def uptoBulkEntries {H : Type} : List (Lit × DataW H) → Nat
  | [] => 0
  | x :: r => uptoBulkEntry x + uptoBulkEntries r
def uptoBulkEntry {H : Type} : Lit × DataW H → Nat
  | (.string bytes, d) => bytes.length + uptoBulk d + 1
  | (_, d) => uptoBulk d + 1
 end
def uptoSmall : (H : Type) → List (DataW H) → Bool := fun _ ds => decide (uptoBulkAll ds ≤ 1048576)
def OpenSpec.upto (s : _root_.Go.ChangeSpec) : _root_.Go.OpenSpec := { _root_.Go.OpenSpec.ofChange s with cond := some uptoSmall }

/-- 'ephemerislaw10.SuitPicks', WHERE WHAT IT READS IS OF BULK AT MOST 1048576: true; the input reads as it did. -/
def suitPicksUptoRow : OpenClaim := { program := "ytjjacchnalemaaadoor", sum := "77beb50185741f8d1abf087669d71ac19e4b02ce39f26b0676c698fca1fd723f", func := "ephemeris/ephemerislaw10.SuitPicks", spec := "suitPicks", unfollowed := true, recurses := true, named := ["math/bits.deBruijn64tab"], apart := false, laid := [("math/bits.deBruijn64tab", laid_math_bits_deBruijn64tab)], narrowed := true }
def SuitPicksUptoSaid : Prop := suitPicksUptoRow.holds Tryd.pinned (OpenSpec.upto suitPicksSpec)

/-- 'ephemerislaw10.SuitRough', WHERE WHAT IT READS IS OF BULK AT MOST 1048576: true; the input reads as it did. -/
def suitRoughUptoRow : OpenClaim := { program := "ytjjacchnalemaaadoor", sum := "77beb50185741f8d1abf087669d71ac19e4b02ce39f26b0676c698fca1fd723f", func := "ephemeris/ephemerislaw10.SuitRough", spec := "suitRough", named := ["math/bits.deBruijn64tab"], apart := false, laid := [("math/bits.deBruijn64tab", laid_math_bits_deBruijn64tab)], narrowed := true }
def SuitRoughUptoSaid : Prop := suitRoughUptoRow.holds Tryd.pinned (OpenSpec.upto suitRoughSpec)

/-- 'ephemerislaw10.SuitTags', WHERE WHAT IT READS IS OF BULK AT MOST 1048576: true; the input reads as it did. -/
def suitTagsUptoRow : OpenClaim := { program := "ytjjacchnalemaaadoor", sum := "77beb50185741f8d1abf087669d71ac19e4b02ce39f26b0676c698fca1fd723f", func := "ephemeris/ephemerislaw10.SuitTags", spec := "suitTags", named := ["math/bits.deBruijn64tab"], apart := false, laid := [("math/bits.deBruijn64tab", laid_math_bits_deBruijn64tab)], narrowed := true }
def SuitTagsUptoSaid : Prop := suitTagsUptoRow.holds Tryd.pinned (OpenSpec.upto suitTagsSpec)

/-- 'ephemerislaw10.SuitBack', WHERE WHAT IT READS IS OF BULK AT MOST 1048576: true; the input reads as it did. -/
def suitBackUptoRow : OpenClaim := { program := "ytjjacchnalemaaadoor", sum := "77beb50185741f8d1abf087669d71ac19e4b02ce39f26b0676c698fca1fd723f", func := "ephemeris/ephemerislaw10.SuitBack", spec := "suitBack", named := ["math/bits.deBruijn64tab"], apart := false, laid := [("math/bits.deBruijn64tab", laid_math_bits_deBruijn64tab)], narrowed := true }
def SuitBackUptoSaid : Prop := suitBackUptoRow.holds Tryd.pinned (OpenSpec.upto suitBackSpec)

/-- 'ephemerislaw11.ChnkHeads', WHERE WHAT IT READS IS OF BULK AT MOST 1048576: true; the input reads as it did. -/
def chnkHeadsUptoRow : OpenClaim := { program := "ytjjacchnalemaaadoor", sum := "77beb50185741f8d1abf087669d71ac19e4b02ce39f26b0676c698fca1fd723f", func := "ephemeris/ephemerislaw11.ChnkHeads", spec := "chnkHeads", named := ["math/bits.deBruijn64tab"], apart := false, laid := [("math/bits.deBruijn64tab", laid_math_bits_deBruijn64tab)], narrowed := true }
def ChnkHeadsUptoSaid : Prop := chnkHeadsUptoRow.holds Tryd.pinned (OpenSpec.upto chnkHeadsSpec)

/-- 'ephemerislaw11.ChnkEach', WHERE WHAT IT READS IS OF BULK AT MOST 1048576: true; the input reads as it did. -/
def chnkEachUptoRow : OpenClaim := { program := "ytjjacchnalemaaadoor", sum := "77beb50185741f8d1abf087669d71ac19e4b02ce39f26b0676c698fca1fd723f", func := "ephemeris/ephemerislaw11.ChnkEach", spec := "chnkEach", named := ["math/bits.deBruijn64tab"], apart := false, laid := [("math/bits.deBruijn64tab", laid_math_bits_deBruijn64tab)], narrowed := true }
def ChnkEachUptoSaid : Prop := chnkEachUptoRow.holds Tryd.pinned (OpenSpec.upto chnkEachSpec)

/-- 'ephemerislaw11.ChnkTurned', WHERE WHAT IT READS IS OF BULK AT MOST 1048576: true; the input reads as it did. -/
def chnkTurnedUptoRow : OpenClaim := { program := "ytjjacchnalemaaadoor", sum := "77beb50185741f8d1abf087669d71ac19e4b02ce39f26b0676c698fca1fd723f", func := "ephemeris/ephemerislaw11.ChnkTurned", spec := "chnkTurned", named := ["math/bits.deBruijn64tab"], apart := false, laid := [("math/bits.deBruijn64tab", laid_math_bits_deBruijn64tab)], narrowed := true }
def ChnkTurnedUptoSaid : Prop := chnkTurnedUptoRow.holds Tryd.pinned (OpenSpec.upto chnkTurnedSpec)

/-- 'ephemerislaw12.WorkMixed', WHERE WHAT IT READS IS OF BULK AT MOST 1048576: true; the input reads as it did. -/
def workMixedUptoRow : OpenClaim := { program := "ytjjacchnalemaaadoor", sum := "77beb50185741f8d1abf087669d71ac19e4b02ce39f26b0676c698fca1fd723f", func := "ephemeris/ephemerislaw12.WorkMixed", spec := "workMixed", named := ["math/bits.deBruijn64tab"], apart := false, laid := [("math/bits.deBruijn64tab", laid_math_bits_deBruijn64tab)], narrowed := true }
def WorkMixedUptoSaid : Prop := workMixedUptoRow.holds Tryd.pinned (OpenSpec.upto workMixedSpec)

end Rows
end Go.Proofs.YtjjacchnalemaaaDoor
