/-
  No cell of these rows narrows 'for every input' (looked for: loops, veiled, ifaces, maps, wideKeys, modest, calm, conditions, laid).
  DERIVED. THE GIVEN ROWS OF THIS SEAT. 12 by the template 'for every input the law returns true; each argument reads behind the call as it read before'; 0 by the template 'total and deterministic' (their statements: YtdmehkifpccigaaTotals.lean).
  GIVEN WITH THE SEED: the statements are not yours to turn. If you find one false, say at which input.
  Laid BY PROGRAM, IN A SANDBOX (cutbox-rows.mjs): the forced cells as the released guide's own fill.sh prints them over the translation e63eb655abae5847… (all of the seat's roots in one cut). By AI agents, Wed Nov 11 2026. No macro, syntax, notation, axiom, sorry.
-/
import Derived.Test.YtdmehkifpccigaaChecked
import GoSem.Claim
import GoSem.ClaimJoined
import GoSem.ClaimMapViews
import Derived.JoinedTies
import Derived.KernelRfl
namespace Go.Proofs.Ytdmehkifpccigaa
/- THE CELL 'sum', in the pinned program and in every row, IS THE sha256 OF THE DUMP (.gsa) THAT YtdmehkifpccigaaProg.lean LOADS. Nothing in Lean hashes anything: it is a label: what it is worth is what the hold of that sum in a sandbox is worth. -/
noncomputable def Try.pinned : Pinned := { name := "ytdmehkifpccigaa", sum := "e63eb655abae58477d646cd67949f7dfa47f37037491d612dba6692cc153f75f", checked := Try.checked }
namespace Rows
def none {H : Type} : Left H := { results := [], args := [] }

/-- 'laws.FnExactOnGrid': WHATEVER THE INPUT: true; the input reads as it did. -/
def fnExactOnGridSpec : ChangeSpec := { name := "fnExactOnGrid", fn := fun _ => fun
  | [d1, d2] => { results := [.lit (.bool true)], args := [d1, d2] }
  | _ => none }
def fnExactOnGridRow : OpenClaim := { program := "ytdmehkifpccigaa", sum := "e63eb655abae58477d646cd67949f7dfa47f37037491d612dba6692cc153f75f", func := "loop.example/g00972/laws.FnExactOnGrid", spec := "fnExactOnGrid", apart := false }
def FnExactOnGridSaid : Prop := fnExactOnGridRow.holds Try.pinned (OpenSpec.ofChange fnExactOnGridSpec)

/-- ITS FALSE NEIGHBOUR: 'it returns false'. Refute it at one input. -/
def fnExactOnGridWrong : ChangeSpec := { name := "fnExactOnGrid", fn := fun _ => fun
  | [d1, d2] => { results := [.lit (.bool false)], args := [d1, d2] }
  | _ => none }
def FnExactOnGridWrongFalsely : Prop := fnExactOnGridRow.holds Try.pinned (OpenSpec.ofChange fnExactOnGridWrong)

/-- 'laws.FnExactAtBound': WHATEVER THE INPUT: true; the input reads as it did. -/
def fnExactAtBoundSpec : ChangeSpec := { name := "fnExactAtBound", fn := fun _ => fun
  | [d1, d2] => { results := [.lit (.bool true)], args := [d1, d2] }
  | _ => none }
def fnExactAtBoundRow : OpenClaim := { program := "ytdmehkifpccigaa", sum := "e63eb655abae58477d646cd67949f7dfa47f37037491d612dba6692cc153f75f", func := "loop.example/g00972/laws.FnExactAtBound", spec := "fnExactAtBound", apart := false }
def FnExactAtBoundSaid : Prop := fnExactAtBoundRow.holds Try.pinned (OpenSpec.ofChange fnExactAtBoundSpec)

/-- ITS FALSE NEIGHBOUR: 'it returns false'. Refute it at one input. -/
def fnExactAtBoundWrong : ChangeSpec := { name := "fnExactAtBound", fn := fun _ => fun
  | [d1, d2] => { results := [.lit (.bool false)], args := [d1, d2] }
  | _ => none }
def FnExactAtBoundWrongFalsely : Prop := fnExactAtBoundRow.holds Try.pinned (OpenSpec.ofChange fnExactAtBoundWrong)

/-- 'laws.FnExactInside': WHATEVER THE INPUT: true; the input reads as it did. -/
def fnExactInsideSpec : ChangeSpec := { name := "fnExactInside", fn := fun _ => fun
  | [d1, d2, d3] => { results := [.lit (.bool true)], args := [d1, d2, d3] }
  | _ => none }
def fnExactInsideRow : OpenClaim := { program := "ytdmehkifpccigaa", sum := "e63eb655abae58477d646cd67949f7dfa47f37037491d612dba6692cc153f75f", func := "loop.example/g00972/laws.FnExactInside", spec := "fnExactInside", apart := false }
def FnExactInsideSaid : Prop := fnExactInsideRow.holds Try.pinned (OpenSpec.ofChange fnExactInsideSpec)

/-- ITS FALSE NEIGHBOUR: 'it returns false'. Refute it at one input. -/
def fnExactInsideWrong : ChangeSpec := { name := "fnExactInside", fn := fun _ => fun
  | [d1, d2, d3] => { results := [.lit (.bool false)], args := [d1, d2, d3] }
  | _ => none }
def FnExactInsideWrongFalsely : Prop := fnExactInsideRow.holds Try.pinned (OpenSpec.ofChange fnExactInsideWrong)

/-- 'laws.FnExactSnapTo': WHATEVER THE INPUT: true; the input reads as it did. -/
def fnExactSnapToSpec : ChangeSpec := { name := "fnExactSnapTo", fn := fun _ => fun
  | [d1, d2] => { results := [.lit (.bool true)], args := [d1, d2] }
  | _ => none }
def fnExactSnapToRow : OpenClaim := { program := "ytdmehkifpccigaa", sum := "e63eb655abae58477d646cd67949f7dfa47f37037491d612dba6692cc153f75f", func := "loop.example/g00972/laws.FnExactSnapTo", spec := "fnExactSnapTo", apart := false }
def FnExactSnapToSaid : Prop := fnExactSnapToRow.holds Try.pinned (OpenSpec.ofChange fnExactSnapToSpec)

/-- ITS FALSE NEIGHBOUR: 'it returns false'. Refute it at one input. -/
def fnExactSnapToWrong : ChangeSpec := { name := "fnExactSnapTo", fn := fun _ => fun
  | [d1, d2] => { results := [.lit (.bool false)], args := [d1, d2] }
  | _ => none }
def FnExactSnapToWrongFalsely : Prop := fnExactSnapToRow.holds Try.pinned (OpenSpec.ofChange fnExactSnapToWrong)

/-- 'laws.FnExactOverlaps': WHATEVER THE INPUT: true; the input reads as it did. -/
def fnExactOverlapsSpec : ChangeSpec := { name := "fnExactOverlaps", fn := fun _ => fun
  | [d1, d2] => { results := [.lit (.bool true)], args := [d1, d2] }
  | _ => none }
def fnExactOverlapsRow : OpenClaim := { program := "ytdmehkifpccigaa", sum := "e63eb655abae58477d646cd67949f7dfa47f37037491d612dba6692cc153f75f", func := "loop.example/g00972/laws.FnExactOverlaps", spec := "fnExactOverlaps", apart := false }
def FnExactOverlapsSaid : Prop := fnExactOverlapsRow.holds Try.pinned (OpenSpec.ofChange fnExactOverlapsSpec)

/-- ITS FALSE NEIGHBOUR: 'it returns false'. Refute it at one input. -/
def fnExactOverlapsWrong : ChangeSpec := { name := "fnExactOverlaps", fn := fun _ => fun
  | [d1, d2] => { results := [.lit (.bool false)], args := [d1, d2] }
  | _ => none }
def FnExactOverlapsWrongFalsely : Prop := fnExactOverlapsRow.holds Try.pinned (OpenSpec.ofChange fnExactOverlapsWrong)

/-- 'laws.FnExactEdgesOf': WHATEVER THE INPUT: true; the input reads as it did. -/
def fnExactEdgesOfSpec : ChangeSpec := { name := "fnExactEdgesOf", fn := fun _ => fun
  | [d] => { results := [.lit (.bool true)], args := [d] }
  | _ => none }
def fnExactEdgesOfRow : OpenClaim := { program := "ytdmehkifpccigaa", sum := "e63eb655abae58477d646cd67949f7dfa47f37037491d612dba6692cc153f75f", func := "loop.example/g00972/laws.FnExactEdgesOf", spec := "fnExactEdgesOf", apart := false }
def FnExactEdgesOfSaid : Prop := fnExactEdgesOfRow.holds Try.pinned (OpenSpec.ofChange fnExactEdgesOfSpec)

/-- ITS FALSE NEIGHBOUR: 'it returns false'. Refute it at one input. -/
def fnExactEdgesOfWrong : ChangeSpec := { name := "fnExactEdgesOf", fn := fun _ => fun
  | [d] => { results := [.lit (.bool false)], args := [d] }
  | _ => none }
def FnExactEdgesOfWrongFalsely : Prop := fnExactEdgesOfRow.holds Try.pinned (OpenSpec.ofChange fnExactEdgesOfWrong)

/-- 'laws.FnExactApartly': WHATEVER THE INPUT: true; the input reads as it did. -/
def fnExactApartlySpec : ChangeSpec := { name := "fnExactApartly", fn := fun _ => fun
  | [d1, d2] => { results := [.lit (.bool true)], args := [d1, d2] }
  | _ => none }
def fnExactApartlyRow : OpenClaim := { program := "ytdmehkifpccigaa", sum := "e63eb655abae58477d646cd67949f7dfa47f37037491d612dba6692cc153f75f", func := "loop.example/g00972/laws.FnExactApartly", spec := "fnExactApartly", apart := false }
def FnExactApartlySaid : Prop := fnExactApartlyRow.holds Try.pinned (OpenSpec.ofChange fnExactApartlySpec)

/-- ITS FALSE NEIGHBOUR: 'it returns false'. Refute it at one input. -/
def fnExactApartlyWrong : ChangeSpec := { name := "fnExactApartly", fn := fun _ => fun
  | [d1, d2] => { results := [.lit (.bool false)], args := [d1, d2] }
  | _ => none }
def FnExactApartlyWrongFalsely : Prop := fnExactApartlyRow.holds Try.pinned (OpenSpec.ofChange fnExactApartlyWrong)

/-- 'laws.FnExactFrameAt': WHATEVER THE INPUT: true; the input reads as it did. -/
def fnExactFrameAtSpec : ChangeSpec := { name := "fnExactFrameAt", fn := fun _ => fun
  | [d1, d2] => { results := [.lit (.bool true)], args := [d1, d2] }
  | _ => none }
def fnExactFrameAtRow : OpenClaim := { program := "ytdmehkifpccigaa", sum := "e63eb655abae58477d646cd67949f7dfa47f37037491d612dba6692cc153f75f", func := "loop.example/g00972/laws.FnExactFrameAt", spec := "fnExactFrameAt", apart := false }
def FnExactFrameAtSaid : Prop := fnExactFrameAtRow.holds Try.pinned (OpenSpec.ofChange fnExactFrameAtSpec)

/-- ITS FALSE NEIGHBOUR: 'it returns false'. Refute it at one input. -/
def fnExactFrameAtWrong : ChangeSpec := { name := "fnExactFrameAt", fn := fun _ => fun
  | [d1, d2] => { results := [.lit (.bool false)], args := [d1, d2] }
  | _ => none }
def FnExactFrameAtWrongFalsely : Prop := fnExactFrameAtRow.holds Try.pinned (OpenSpec.ofChange fnExactFrameAtWrong)

/-- 'laws.FnExactSnapFrame': WHATEVER THE INPUT: true; the input reads as it did. -/
def fnExactSnapFrameSpec : ChangeSpec := { name := "fnExactSnapFrame", fn := fun _ => fun
  | [d1, d2] => { results := [.lit (.bool true)], args := [d1, d2] }
  | _ => none }
def fnExactSnapFrameRow : OpenClaim := { program := "ytdmehkifpccigaa", sum := "e63eb655abae58477d646cd67949f7dfa47f37037491d612dba6692cc153f75f", func := "loop.example/g00972/laws.FnExactSnapFrame", spec := "fnExactSnapFrame", apart := false }
def FnExactSnapFrameSaid : Prop := fnExactSnapFrameRow.holds Try.pinned (OpenSpec.ofChange fnExactSnapFrameSpec)

/-- ITS FALSE NEIGHBOUR: 'it returns false'. Refute it at one input. -/
def fnExactSnapFrameWrong : ChangeSpec := { name := "fnExactSnapFrame", fn := fun _ => fun
  | [d1, d2] => { results := [.lit (.bool false)], args := [d1, d2] }
  | _ => none }
def FnExactSnapFrameWrongFalsely : Prop := fnExactSnapFrameRow.holds Try.pinned (OpenSpec.ofChange fnExactSnapFrameWrong)

/-- 'laws.FnExactSameFrames': WHATEVER THE INPUT: true; the input reads as it did. -/
def fnExactSameFramesSpec : ChangeSpec := { name := "fnExactSameFrames", fn := fun _ => fun
  | [d1, d2] => { results := [.lit (.bool true)], args := [d1, d2] }
  | _ => none }
def fnExactSameFramesRow : OpenClaim := { program := "ytdmehkifpccigaa", sum := "e63eb655abae58477d646cd67949f7dfa47f37037491d612dba6692cc153f75f", func := "loop.example/g00972/laws.FnExactSameFrames", spec := "fnExactSameFrames", apart := false }
def FnExactSameFramesSaid : Prop := fnExactSameFramesRow.holds Try.pinned (OpenSpec.ofChange fnExactSameFramesSpec)

/-- ITS FALSE NEIGHBOUR: 'it returns false'. Refute it at one input. -/
def fnExactSameFramesWrong : ChangeSpec := { name := "fnExactSameFrames", fn := fun _ => fun
  | [d1, d2] => { results := [.lit (.bool false)], args := [d1, d2] }
  | _ => none }
def FnExactSameFramesWrongFalsely : Prop := fnExactSameFramesRow.holds Try.pinned (OpenSpec.ofChange fnExactSameFramesWrong)

/-- 'laws.FnExactAskedTwice': WHATEVER THE INPUT: true; the input reads as it did. -/
def fnExactAskedTwiceSpec : ChangeSpec := { name := "fnExactAskedTwice", fn := fun _ => fun
  | [d] => { results := [.lit (.bool true)], args := [d] }
  | _ => none }
def fnExactAskedTwiceRow : OpenClaim := { program := "ytdmehkifpccigaa", sum := "e63eb655abae58477d646cd67949f7dfa47f37037491d612dba6692cc153f75f", func := "loop.example/g00972/laws.FnExactAskedTwice", spec := "fnExactAskedTwice", apart := false }
def FnExactAskedTwiceSaid : Prop := fnExactAskedTwiceRow.holds Try.pinned (OpenSpec.ofChange fnExactAskedTwiceSpec)

/-- ITS FALSE NEIGHBOUR: 'it returns false'. Refute it at one input. -/
def fnExactAskedTwiceWrong : ChangeSpec := { name := "fnExactAskedTwice", fn := fun _ => fun
  | [d] => { results := [.lit (.bool false)], args := [d] }
  | _ => none }
def FnExactAskedTwiceWrongFalsely : Prop := fnExactAskedTwiceRow.holds Try.pinned (OpenSpec.ofChange fnExactAskedTwiceWrong)

/-- 'laws.FnExactPadBox': WHATEVER THE INPUT: true; the input reads as it did. -/
def fnExactPadBoxSpec : ChangeSpec := { name := "fnExactPadBox", fn := fun _ => fun
  | [d1, d2, d3] => { results := [.lit (.bool true)], args := [d1, d2, d3] }
  | _ => none }
def fnExactPadBoxRow : OpenClaim := { program := "ytdmehkifpccigaa", sum := "e63eb655abae58477d646cd67949f7dfa47f37037491d612dba6692cc153f75f", func := "loop.example/g00972/laws.FnExactPadBox", spec := "fnExactPadBox", apart := false }
def FnExactPadBoxSaid : Prop := fnExactPadBoxRow.holds Try.pinned (OpenSpec.ofChange fnExactPadBoxSpec)

/-- ITS FALSE NEIGHBOUR: 'it returns false'. Refute it at one input. -/
def fnExactPadBoxWrong : ChangeSpec := { name := "fnExactPadBox", fn := fun _ => fun
  | [d1, d2, d3] => { results := [.lit (.bool false)], args := [d1, d2, d3] }
  | _ => none }
def FnExactPadBoxWrongFalsely : Prop := fnExactPadBoxRow.holds Try.pinned (OpenSpec.ofChange fnExactPadBoxWrong)

/- THE SECOND FORM. 'bulk': how many values and letters a reading holds, each counted each time it is reached (what is shared counts as often as it is met; a slice's spare places count too). A statement '..UptoSaid' is the law's where the arguments, and the package variables that the reading takes, are together of bulk at most 1048576: NARROWER than '..Said'. Prove '..Said' where nothing that the law and all that it calls make is longer than what came in: it says more and counts as full. Else prove '..UptoSaid'. A law counts once. -/
mutual
def uptoBulk {H : Type} : DataW H → Nat
  | .lit (.string bytes) => bytes.length + 1
  | .lit _ => 1
  | .nil => 1
  | .ptr d => uptoBulk d + 1
  | .slice elems spare => uptoBulkAll elems + uptoBulkAll spare + 1
  | .agg parts => uptoBulkAll parts + 1
  | .iface _ d => uptoBulk d + 1
  | .map entries => uptoBulkEntries entries + 1
  | .held _ => 1
def uptoBulkAll {H : Type} : List (DataW H) → Nat
  | [] => 0
  | d :: r => uptoBulk d + uptoBulkAll r
def uptoBulkEntries {H : Type} : List (Lit × DataW H) → Nat
  | [] => 0
  | x :: r => uptoBulkEntry x + uptoBulkEntries r
def uptoBulkEntry {H : Type} : Lit × DataW H → Nat
  | (.string bytes, d) => bytes.length + uptoBulk d + 1
  | (_, d) => uptoBulk d + 1
 end
def uptoSmall : (H : Type) → List (DataW H) → Bool := fun _ ds => decide (uptoBulkAll ds ≤ 1048576)
def OpenSpec.upto (s : _root_.Go.ChangeSpec) : _root_.Go.OpenSpec := { _root_.Go.OpenSpec.ofChange s with cond := some uptoSmall }

/-- 'laws.FnExactOnGrid', WHERE WHAT IT READS IS OF BULK AT MOST 1048576: true; the input reads as it did. -/
def fnExactOnGridUptoRow : OpenClaim := { program := "ytdmehkifpccigaa", sum := "e63eb655abae58477d646cd67949f7dfa47f37037491d612dba6692cc153f75f", func := "loop.example/g00972/laws.FnExactOnGrid", spec := "fnExactOnGrid", apart := false, narrowed := true }
def FnExactOnGridUptoSaid : Prop := fnExactOnGridUptoRow.holds Try.pinned (OpenSpec.upto fnExactOnGridSpec)

/-- 'laws.FnExactAtBound', WHERE WHAT IT READS IS OF BULK AT MOST 1048576: true; the input reads as it did. -/
def fnExactAtBoundUptoRow : OpenClaim := { program := "ytdmehkifpccigaa", sum := "e63eb655abae58477d646cd67949f7dfa47f37037491d612dba6692cc153f75f", func := "loop.example/g00972/laws.FnExactAtBound", spec := "fnExactAtBound", apart := false, narrowed := true }
def FnExactAtBoundUptoSaid : Prop := fnExactAtBoundUptoRow.holds Try.pinned (OpenSpec.upto fnExactAtBoundSpec)

/-- 'laws.FnExactInside', WHERE WHAT IT READS IS OF BULK AT MOST 1048576: true; the input reads as it did. -/
def fnExactInsideUptoRow : OpenClaim := { program := "ytdmehkifpccigaa", sum := "e63eb655abae58477d646cd67949f7dfa47f37037491d612dba6692cc153f75f", func := "loop.example/g00972/laws.FnExactInside", spec := "fnExactInside", apart := false, narrowed := true }
def FnExactInsideUptoSaid : Prop := fnExactInsideUptoRow.holds Try.pinned (OpenSpec.upto fnExactInsideSpec)

/-- 'laws.FnExactSnapTo', WHERE WHAT IT READS IS OF BULK AT MOST 1048576: true; the input reads as it did. -/
def fnExactSnapToUptoRow : OpenClaim := { program := "ytdmehkifpccigaa", sum := "e63eb655abae58477d646cd67949f7dfa47f37037491d612dba6692cc153f75f", func := "loop.example/g00972/laws.FnExactSnapTo", spec := "fnExactSnapTo", apart := false, narrowed := true }
def FnExactSnapToUptoSaid : Prop := fnExactSnapToUptoRow.holds Try.pinned (OpenSpec.upto fnExactSnapToSpec)

/-- 'laws.FnExactOverlaps', WHERE WHAT IT READS IS OF BULK AT MOST 1048576: true; the input reads as it did. -/
def fnExactOverlapsUptoRow : OpenClaim := { program := "ytdmehkifpccigaa", sum := "e63eb655abae58477d646cd67949f7dfa47f37037491d612dba6692cc153f75f", func := "loop.example/g00972/laws.FnExactOverlaps", spec := "fnExactOverlaps", apart := false, narrowed := true }
def FnExactOverlapsUptoSaid : Prop := fnExactOverlapsUptoRow.holds Try.pinned (OpenSpec.upto fnExactOverlapsSpec)

/-- 'laws.FnExactEdgesOf', WHERE WHAT IT READS IS OF BULK AT MOST 1048576: true; the input reads as it did. -/
def fnExactEdgesOfUptoRow : OpenClaim := { program := "ytdmehkifpccigaa", sum := "e63eb655abae58477d646cd67949f7dfa47f37037491d612dba6692cc153f75f", func := "loop.example/g00972/laws.FnExactEdgesOf", spec := "fnExactEdgesOf", apart := false, narrowed := true }
def FnExactEdgesOfUptoSaid : Prop := fnExactEdgesOfUptoRow.holds Try.pinned (OpenSpec.upto fnExactEdgesOfSpec)

/-- 'laws.FnExactApartly', WHERE WHAT IT READS IS OF BULK AT MOST 1048576: true; the input reads as it did. -/
def fnExactApartlyUptoRow : OpenClaim := { program := "ytdmehkifpccigaa", sum := "e63eb655abae58477d646cd67949f7dfa47f37037491d612dba6692cc153f75f", func := "loop.example/g00972/laws.FnExactApartly", spec := "fnExactApartly", apart := false, narrowed := true }
def FnExactApartlyUptoSaid : Prop := fnExactApartlyUptoRow.holds Try.pinned (OpenSpec.upto fnExactApartlySpec)

/-- 'laws.FnExactFrameAt', WHERE WHAT IT READS IS OF BULK AT MOST 1048576: true; the input reads as it did. -/
def fnExactFrameAtUptoRow : OpenClaim := { program := "ytdmehkifpccigaa", sum := "e63eb655abae58477d646cd67949f7dfa47f37037491d612dba6692cc153f75f", func := "loop.example/g00972/laws.FnExactFrameAt", spec := "fnExactFrameAt", apart := false, narrowed := true }
def FnExactFrameAtUptoSaid : Prop := fnExactFrameAtUptoRow.holds Try.pinned (OpenSpec.upto fnExactFrameAtSpec)

/-- 'laws.FnExactSnapFrame', WHERE WHAT IT READS IS OF BULK AT MOST 1048576: true; the input reads as it did. -/
def fnExactSnapFrameUptoRow : OpenClaim := { program := "ytdmehkifpccigaa", sum := "e63eb655abae58477d646cd67949f7dfa47f37037491d612dba6692cc153f75f", func := "loop.example/g00972/laws.FnExactSnapFrame", spec := "fnExactSnapFrame", apart := false, narrowed := true }
def FnExactSnapFrameUptoSaid : Prop := fnExactSnapFrameUptoRow.holds Try.pinned (OpenSpec.upto fnExactSnapFrameSpec)

/-- 'laws.FnExactSameFrames', WHERE WHAT IT READS IS OF BULK AT MOST 1048576: true; the input reads as it did. -/
def fnExactSameFramesUptoRow : OpenClaim := { program := "ytdmehkifpccigaa", sum := "e63eb655abae58477d646cd67949f7dfa47f37037491d612dba6692cc153f75f", func := "loop.example/g00972/laws.FnExactSameFrames", spec := "fnExactSameFrames", apart := false, narrowed := true }
def FnExactSameFramesUptoSaid : Prop := fnExactSameFramesUptoRow.holds Try.pinned (OpenSpec.upto fnExactSameFramesSpec)

/-- 'laws.FnExactAskedTwice', WHERE WHAT IT READS IS OF BULK AT MOST 1048576: true; the input reads as it did. -/
def fnExactAskedTwiceUptoRow : OpenClaim := { program := "ytdmehkifpccigaa", sum := "e63eb655abae58477d646cd67949f7dfa47f37037491d612dba6692cc153f75f", func := "loop.example/g00972/laws.FnExactAskedTwice", spec := "fnExactAskedTwice", apart := false, narrowed := true }
def FnExactAskedTwiceUptoSaid : Prop := fnExactAskedTwiceUptoRow.holds Try.pinned (OpenSpec.upto fnExactAskedTwiceSpec)

/-- 'laws.FnExactPadBox', WHERE WHAT IT READS IS OF BULK AT MOST 1048576: true; the input reads as it did. -/
def fnExactPadBoxUptoRow : OpenClaim := { program := "ytdmehkifpccigaa", sum := "e63eb655abae58477d646cd67949f7dfa47f37037491d612dba6692cc153f75f", func := "loop.example/g00972/laws.FnExactPadBox", spec := "fnExactPadBox", apart := false, narrowed := true }
def FnExactPadBoxUptoSaid : Prop := fnExactPadBoxUptoRow.holds Try.pinned (OpenSpec.upto fnExactPadBoxSpec)

end Rows
end Go.Proofs.Ytdmehkifpccigaa
