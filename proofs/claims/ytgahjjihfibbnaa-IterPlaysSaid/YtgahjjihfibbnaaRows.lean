/-
  No cell of these rows narrows 'for every input' (looked for: loops, veiled, ifaces, maps, wideKeys, modest, calm, conditions, laid).
  DERIVED. THE GIVEN ROWS OF THIS SEAT. 9 by the template 'for every input the law returns true; each argument reads behind the call as it read before'; 0 by the template 'total and deterministic' (their statements: YtgahjjihfibbnaaTotals.lean).
  GIVEN WITH THE SEED: the statements are not yours to turn. If you find one false, say at which input.
  Laid BY PROGRAM, IN A SANDBOX (cutbox-rows.mjs): the forced cells as the released guide's own fill.sh prints them over the translation dde6de179dbae660… (all of the seat's roots in one cut). By AI agents, Wed Nov 11 2026. No macro, syntax, notation, axiom, sorry.
-/
import Derived.Test.YtgahjjihfibbnaaChecked
import GoSem.Claim
import GoSem.ClaimJoined
import GoSem.ClaimMapViews
import Derived.JoinedTies
import Derived.KernelRfl
namespace Go.Proofs.Ytgahjjihfibbnaa
/- THE CELL 'sum', in the pinned program and in every row, IS THE sha256 OF THE DUMP (.gsa) THAT YtgahjjihfibbnaaProg.lean LOADS. Nothing in Lean hashes anything: it is a label: what it is worth is what the hold of that sum in a sandbox is worth. -/
noncomputable def Try.pinned : Pinned := { name := "ytgahjjihfibbnaa", sum := "dde6de179dbae660848730448cce771b836d17a86cec46ab110362ea8dc43d1e", checked := Try.checked }
namespace Rows
def none {H : Type} : Left H := { results := [], args := [] }

/-- 'ephemerislaw17.BlobHolds': WHATEVER THE INPUT: true; the input reads as it did. -/
def blobHoldsSpec : ChangeSpec := { name := "blobHolds", fn := fun _ => fun
  | [d1, d2] => { results := [.lit (.bool true)], args := [d1, d2] }
  | _ => none }
def blobHoldsRow : OpenClaim := { program := "ytgahjjihfibbnaa", sum := "dde6de179dbae660848730448cce771b836d17a86cec46ab110362ea8dc43d1e", func := "ephemeris/ephemerislaw17.BlobHolds", spec := "blobHolds", apart := false }
def BlobHoldsSaid : Prop := blobHoldsRow.holds Try.pinned (OpenSpec.ofChange blobHoldsSpec)

/-- ITS FALSE NEIGHBOUR: 'it returns false'. Refute it at one input. -/
def blobHoldsWrong : ChangeSpec := { name := "blobHolds", fn := fun _ => fun
  | [d1, d2] => { results := [.lit (.bool false)], args := [d1, d2] }
  | _ => none }
def BlobHoldsWrongFalsely : Prop := blobHoldsRow.holds Try.pinned (OpenSpec.ofChange blobHoldsWrong)

/-- 'ephemerislaw17.BlobBudget': WHATEVER THE INPUT: true; the input reads as it did. -/
def blobBudgetSpec : ChangeSpec := { name := "blobBudget", fn := fun _ => fun
  | [d1, d2, d3] => { results := [.lit (.bool true)], args := [d1, d2, d3] }
  | _ => none }
def blobBudgetRow : OpenClaim := { program := "ytgahjjihfibbnaa", sum := "dde6de179dbae660848730448cce771b836d17a86cec46ab110362ea8dc43d1e", func := "ephemeris/ephemerislaw17.BlobBudget", spec := "blobBudget", apart := false }
def BlobBudgetSaid : Prop := blobBudgetRow.holds Try.pinned (OpenSpec.ofChange blobBudgetSpec)

/-- ITS FALSE NEIGHBOUR: 'it returns false'. Refute it at one input. -/
def blobBudgetWrong : ChangeSpec := { name := "blobBudget", fn := fun _ => fun
  | [d1, d2, d3] => { results := [.lit (.bool false)], args := [d1, d2, d3] }
  | _ => none }
def BlobBudgetWrongFalsely : Prop := blobBudgetRow.holds Try.pinned (OpenSpec.ofChange blobBudgetWrong)

/-- 'ephemerislaw17.BlobOwn': WHATEVER THE INPUT: true; the input reads as it did. -/
def blobOwnSpec : ChangeSpec := { name := "blobOwn", fn := fun _ => fun
  | [d] => { results := [.lit (.bool true)], args := [d] }
  | _ => none }
def blobOwnRow : OpenClaim := { program := "ytgahjjihfibbnaa", sum := "dde6de179dbae660848730448cce771b836d17a86cec46ab110362ea8dc43d1e", func := "ephemeris/ephemerislaw17.BlobOwn", spec := "blobOwn", apart := false }
def BlobOwnSaid : Prop := blobOwnRow.holds Try.pinned (OpenSpec.ofChange blobOwnSpec)

/-- ITS FALSE NEIGHBOUR: 'it returns false'. Refute it at one input. -/
def blobOwnWrong : ChangeSpec := { name := "blobOwn", fn := fun _ => fun
  | [d] => { results := [.lit (.bool false)], args := [d] }
  | _ => none }
def BlobOwnWrongFalsely : Prop := blobOwnRow.holds Try.pinned (OpenSpec.ofChange blobOwnWrong)

/-- 'ephemerislaw21.IterMany': WHATEVER THE INPUT: true; the input reads as it did. -/
def iterManySpec : ChangeSpec := { name := "iterMany", fn := fun _ => fun
  | [d1, d2] => { results := [.lit (.bool true)], args := [d1, d2] }
  | _ => none }
def iterManyRow : OpenClaim := { program := "ytgahjjihfibbnaa", sum := "dde6de179dbae660848730448cce771b836d17a86cec46ab110362ea8dc43d1e", func := "ephemeris/ephemerislaw21.IterMany", spec := "iterMany", apart := false }
def IterManySaid : Prop := iterManyRow.holds Try.pinned (OpenSpec.ofChange iterManySpec)

/-- ITS FALSE NEIGHBOUR: 'it returns false'. Refute it at one input. -/
def iterManyWrong : ChangeSpec := { name := "iterMany", fn := fun _ => fun
  | [d1, d2] => { results := [.lit (.bool false)], args := [d1, d2] }
  | _ => none }
def IterManyWrongFalsely : Prop := iterManyRow.holds Try.pinned (OpenSpec.ofChange iterManyWrong)

/-- 'ephemerislaw21.IterOne': WHATEVER THE INPUT: true; the input reads as it did. -/
def iterOneSpec : ChangeSpec := { name := "iterOne", fn := fun _ => fun
  | [d1, d2, d3] => { results := [.lit (.bool true)], args := [d1, d2, d3] }
  | _ => none }
def iterOneRow : OpenClaim := { program := "ytgahjjihfibbnaa", sum := "dde6de179dbae660848730448cce771b836d17a86cec46ab110362ea8dc43d1e", func := "ephemeris/ephemerislaw21.IterOne", spec := "iterOne", apart := false }
def IterOneSaid : Prop := iterOneRow.holds Try.pinned (OpenSpec.ofChange iterOneSpec)

/-- ITS FALSE NEIGHBOUR: 'it returns false'. Refute it at one input. -/
def iterOneWrong : ChangeSpec := { name := "iterOne", fn := fun _ => fun
  | [d1, d2, d3] => { results := [.lit (.bool false)], args := [d1, d2, d3] }
  | _ => none }
def IterOneWrongFalsely : Prop := iterOneRow.holds Try.pinned (OpenSpec.ofChange iterOneWrong)

/-- 'ephemerislaw21.IterOwn': WHATEVER THE INPUT: true; the input reads as it did. -/
def iterOwnSpec : ChangeSpec := { name := "iterOwn", fn := fun _ => fun
  | [d] => { results := [.lit (.bool true)], args := [d] }
  | _ => none }
def iterOwnRow : OpenClaim := { program := "ytgahjjihfibbnaa", sum := "dde6de179dbae660848730448cce771b836d17a86cec46ab110362ea8dc43d1e", func := "ephemeris/ephemerislaw21.IterOwn", spec := "iterOwn", apart := false }
def IterOwnSaid : Prop := iterOwnRow.holds Try.pinned (OpenSpec.ofChange iterOwnSpec)

/-- ITS FALSE NEIGHBOUR: 'it returns false'. Refute it at one input. -/
def iterOwnWrong : ChangeSpec := { name := "iterOwn", fn := fun _ => fun
  | [d] => { results := [.lit (.bool false)], args := [d] }
  | _ => none }
def IterOwnWrongFalsely : Prop := iterOwnRow.holds Try.pinned (OpenSpec.ofChange iterOwnWrong)

/-- 'ephemerislaw21.IterPlays': WHATEVER THE INPUT: true; the input reads as it did. -/
def iterPlaysSpec : ChangeSpec := { name := "iterPlays", fn := fun _ => fun
  | [d1, d2] => { results := [.lit (.bool true)], args := [d1, d2] }
  | _ => none }
def iterPlaysRow : OpenClaim := { program := "ytgahjjihfibbnaa", sum := "dde6de179dbae660848730448cce771b836d17a86cec46ab110362ea8dc43d1e", func := "ephemeris/ephemerislaw21.IterPlays", spec := "iterPlays", apart := false }
def IterPlaysSaid : Prop := iterPlaysRow.holds Try.pinned (OpenSpec.ofChange iterPlaysSpec)

/-- ITS FALSE NEIGHBOUR: 'it returns false'. Refute it at one input. -/
def iterPlaysWrong : ChangeSpec := { name := "iterPlays", fn := fun _ => fun
  | [d1, d2] => { results := [.lit (.bool false)], args := [d1, d2] }
  | _ => none }
def IterPlaysWrongFalsely : Prop := iterPlaysRow.holds Try.pinned (OpenSpec.ofChange iterPlaysWrong)

/-- 'ephemerislaw19.SnapOwn': WHATEVER THE INPUT: true; the input reads as it did. -/
def snapOwnSpec : ChangeSpec := { name := "snapOwn", fn := fun _ => fun
  | [d] => { results := [.lit (.bool true)], args := [d] }
  | _ => none }
def snapOwnRow : OpenClaim := { program := "ytgahjjihfibbnaa", sum := "dde6de179dbae660848730448cce771b836d17a86cec46ab110362ea8dc43d1e", func := "ephemeris/ephemerislaw19.SnapOwn", spec := "snapOwn", apart := false }
def SnapOwnSaid : Prop := snapOwnRow.holds Try.pinned (OpenSpec.ofChange snapOwnSpec)

/-- ITS FALSE NEIGHBOUR: 'it returns false'. Refute it at one input. -/
def snapOwnWrong : ChangeSpec := { name := "snapOwn", fn := fun _ => fun
  | [d] => { results := [.lit (.bool false)], args := [d] }
  | _ => none }
def SnapOwnWrongFalsely : Prop := snapOwnRow.holds Try.pinned (OpenSpec.ofChange snapOwnWrong)

/-- 'ephemerislaw19.SnapTells': WHATEVER THE INPUT: true; the input reads as it did. -/
def snapTellsSpec : ChangeSpec := { name := "snapTells", fn := fun _ => fun
  | [d1, d2, d3, d4, d5, d6] => { results := [.lit (.bool true)], args := [d1, d2, d3, d4, d5, d6] }
  | _ => none }
def snapTellsRow : OpenClaim := { program := "ytgahjjihfibbnaa", sum := "dde6de179dbae660848730448cce771b836d17a86cec46ab110362ea8dc43d1e", func := "ephemeris/ephemerislaw19.SnapTells", spec := "snapTells", apart := false }
def SnapTellsSaid : Prop := snapTellsRow.holds Try.pinned (OpenSpec.ofChange snapTellsSpec)

/-- ITS FALSE NEIGHBOUR: 'it returns false'. Refute it at one input. -/
def snapTellsWrong : ChangeSpec := { name := "snapTells", fn := fun _ => fun
  | [d1, d2, d3, d4, d5, d6] => { results := [.lit (.bool false)], args := [d1, d2, d3, d4, d5, d6] }
  | _ => none }
def SnapTellsWrongFalsely : Prop := snapTellsRow.holds Try.pinned (OpenSpec.ofChange snapTellsWrong)

/- THE SECOND FORM. 'bulk': how many values and letters a reading holds, each counted each time it is reached (what is shared counts as often as it is met; a slice's spare places count too). A statement '..UptoSaid' is the law's where the arguments, and the package variables that the reading takes, are together of bulk at most 1048576: NARROWER than '..Said'. Prove '..Said' where nothing that the law and all that it calls make is longer than what came in: it says more and counts as full. Else prove '..UptoSaid'. A law counts once. -/
mutual
def uptoBulk {H : Type} : DataW H → Nat
  | .lit (.string bytes) => bytes.length + 1
  | .lit _ => 1
  | .nil => 1
  | .ptr d => uptoBulk d + 1
  | .slice elems spare => uptoBulkAll elems + uptoBulkAll spare + 1
  | .agg parts => uptoBulkAll parts + 1
  | .iface _ d => uptoBulk d + 1
  | .map entries => uptoBulkEntries entries + 1
  | .held _ => 1
def uptoBulkAll {H : Type} : List (DataW H) → Nat
  | [] => 0
  | d :: r => uptoBulk d + uptoBulkAll r
def uptoBulkEntries {H : Type} : List (Lit × DataW H) → Nat
  | [] => 0
  | x :: r => uptoBulkEntry x + uptoBulkEntries r
def uptoBulkEntry {H : Type} : Lit × DataW H → Nat
  | (.string bytes, d) => bytes.length + uptoBulk d + 1
  | (_, d) => uptoBulk d + 1
 end
def uptoSmall : (H : Type) → List (DataW H) → Bool := fun _ ds => decide (uptoBulkAll ds ≤ 1048576)
def OpenSpec.upto (s : _root_.Go.ChangeSpec) : _root_.Go.OpenSpec := { _root_.Go.OpenSpec.ofChange s with cond := some uptoSmall }

/-- 'ephemerislaw17.BlobHolds', WHERE WHAT IT READS IS OF BULK AT MOST 1048576: true; the input reads as it did. -/
def blobHoldsUptoRow : OpenClaim := { program := "ytgahjjihfibbnaa", sum := "dde6de179dbae660848730448cce771b836d17a86cec46ab110362ea8dc43d1e", func := "ephemeris/ephemerislaw17.BlobHolds", spec := "blobHolds", apart := false, narrowed := true }
def BlobHoldsUptoSaid : Prop := blobHoldsUptoRow.holds Try.pinned (OpenSpec.upto blobHoldsSpec)

/-- 'ephemerislaw17.BlobBudget', WHERE WHAT IT READS IS OF BULK AT MOST 1048576: true; the input reads as it did. -/
def blobBudgetUptoRow : OpenClaim := { program := "ytgahjjihfibbnaa", sum := "dde6de179dbae660848730448cce771b836d17a86cec46ab110362ea8dc43d1e", func := "ephemeris/ephemerislaw17.BlobBudget", spec := "blobBudget", apart := false, narrowed := true }
def BlobBudgetUptoSaid : Prop := blobBudgetUptoRow.holds Try.pinned (OpenSpec.upto blobBudgetSpec)

/-- 'ephemerislaw17.BlobOwn', WHERE WHAT IT READS IS OF BULK AT MOST 1048576: true; the input reads as it did. -/
def blobOwnUptoRow : OpenClaim := { program := "ytgahjjihfibbnaa", sum := "dde6de179dbae660848730448cce771b836d17a86cec46ab110362ea8dc43d1e", func := "ephemeris/ephemerislaw17.BlobOwn", spec := "blobOwn", apart := false, narrowed := true }
def BlobOwnUptoSaid : Prop := blobOwnUptoRow.holds Try.pinned (OpenSpec.upto blobOwnSpec)

/-- 'ephemerislaw21.IterMany', WHERE WHAT IT READS IS OF BULK AT MOST 1048576: true; the input reads as it did. -/
def iterManyUptoRow : OpenClaim := { program := "ytgahjjihfibbnaa", sum := "dde6de179dbae660848730448cce771b836d17a86cec46ab110362ea8dc43d1e", func := "ephemeris/ephemerislaw21.IterMany", spec := "iterMany", apart := false, narrowed := true }
def IterManyUptoSaid : Prop := iterManyUptoRow.holds Try.pinned (OpenSpec.upto iterManySpec)

/-- 'ephemerislaw21.IterOne', WHERE WHAT IT READS IS OF BULK AT MOST 1048576: true; the input reads as it did. -/
def iterOneUptoRow : OpenClaim := { program := "ytgahjjihfibbnaa", sum := "dde6de179dbae660848730448cce771b836d17a86cec46ab110362ea8dc43d1e", func := "ephemeris/ephemerislaw21.IterOne", spec := "iterOne", apart := false, narrowed := true }
def IterOneUptoSaid : Prop := iterOneUptoRow.holds Try.pinned (OpenSpec.upto iterOneSpec)

/-- 'ephemerislaw21.IterOwn', WHERE WHAT IT READS IS OF BULK AT MOST 1048576: true; the input reads as it did. -/
def iterOwnUptoRow : OpenClaim := { program := "ytgahjjihfibbnaa", sum := "dde6de179dbae660848730448cce771b836d17a86cec46ab110362ea8dc43d1e", func := "ephemeris/ephemerislaw21.IterOwn", spec := "iterOwn", apart := false, narrowed := true }
def IterOwnUptoSaid : Prop := iterOwnUptoRow.holds Try.pinned (OpenSpec.upto iterOwnSpec)

/-- 'ephemerislaw21.IterPlays', WHERE WHAT IT READS IS OF BULK AT MOST 1048576: true; the input reads as it did. -/
def iterPlaysUptoRow : OpenClaim := { program := "ytgahjjihfibbnaa", sum := "dde6de179dbae660848730448cce771b836d17a86cec46ab110362ea8dc43d1e", func := "ephemeris/ephemerislaw21.IterPlays", spec := "iterPlays", apart := false, narrowed := true }
def IterPlaysUptoSaid : Prop := iterPlaysUptoRow.holds Try.pinned (OpenSpec.upto iterPlaysSpec)

/-- 'ephemerislaw19.SnapOwn', WHERE WHAT IT READS IS OF BULK AT MOST 1048576: true; the input reads as it did. -/
def snapOwnUptoRow : OpenClaim := { program := "ytgahjjihfibbnaa", sum := "dde6de179dbae660848730448cce771b836d17a86cec46ab110362ea8dc43d1e", func := "ephemeris/ephemerislaw19.SnapOwn", spec := "snapOwn", apart := false, narrowed := true }
def SnapOwnUptoSaid : Prop := snapOwnUptoRow.holds Try.pinned (OpenSpec.upto snapOwnSpec)

/-- 'ephemerislaw19.SnapTells', WHERE WHAT IT READS IS OF BULK AT MOST 1048576: true; the input reads as it did. -/
def snapTellsUptoRow : OpenClaim := { program := "ytgahjjihfibbnaa", sum := "dde6de179dbae660848730448cce771b836d17a86cec46ab110362ea8dc43d1e", func := "ephemeris/ephemerislaw19.SnapTells", spec := "snapTells", apart := false, narrowed := true }
def SnapTellsUptoSaid : Prop := snapTellsUptoRow.holds Try.pinned (OpenSpec.upto snapTellsSpec)

end Rows
end Go.Proofs.Ytgahjjihfibbnaa
