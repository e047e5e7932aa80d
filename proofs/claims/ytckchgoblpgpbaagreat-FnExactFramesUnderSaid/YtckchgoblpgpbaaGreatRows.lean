/-
  No cell of these rows narrows 'for every input' (looked for: loops, veiled, ifaces, maps, wideKeys, modest, calm, conditions, laid).
  DERIVED. THE GIVEN ROWS OF THIS SEAT. 5 by the template 'for every input the law returns true; each argument reads behind the call as it read before'; 0 by the template 'total and deterministic' (their statements: YtckchgoblpgpbaaGreatTotals.lean).
  GIVEN WITH THE SEED: the statements are not yours to turn. If you find one false, say at which input.
  Laid BY PROGRAM, IN A SANDBOX (cutbox-rows.mjs): the forced cells as the released guide's own fill.sh prints them over the translation 334ae50420fbd1c9… (all of the seat's roots in one cut). By AI agents, Wed Nov 11 2026. No macro, syntax, notation, axiom, sorry.
-/
import Derived.Test.YtckchgoblpgpbaaGreatChecked
import GoSem.Claim
import GoSem.ClaimJoined
import GoSem.ClaimMapViews
import Derived.JoinedTies
import Derived.KernelRfl
namespace Go.Proofs.YtckchgoblpgpbaaGreat
/- THE CELL 'sum', in the pinned program and in every row, IS THE sha256 OF THE DUMP (.gsa) THAT YtckchgoblpgpbaaGreatProg.lean LOADS. Nothing in Lean hashes anything: it is a label: what it is worth is what the hold of that sum in a sandbox is worth. -/
noncomputable def Tryz.pinned : Pinned := { name := "ytckchgoblpgpbaagreat", sum := "334ae50420fbd1c9c9f5cba409ceb002008d784fa1ab7e69d33d36cec8f9fa76", checked := Tryz.checked }
namespace Rows
def none {H : Type} : Left H := { results := [], args := [] }

/-- 'laws.FnNested': WHATEVER THE INPUT: true; the input reads as it did. -/
def fnNestedSpec : ChangeSpec := { name := "fnNested", fn := fun _ => fun
  | [d] => { results := [.lit (.bool true)], args := [d] }
  | _ => none }
def fnNestedRow : OpenClaim := { program := "ytckchgoblpgpbaagreat", sum := "334ae50420fbd1c9c9f5cba409ceb002008d784fa1ab7e69d33d36cec8f9fa76", func := "loop.example/g00972/laws.FnNested", spec := "fnNested", inPlace := ["internal/reflectlite.ValueOf", "internal/reflectlite.Swapper", "(internal/reflectlite.Value).Len"], unfollowed := true, recurses := true, apart := false }
def FnNestedSaid : Prop := fnNestedRow.holds Tryz.pinned (OpenSpec.ofChange fnNestedSpec)

/-- ITS FALSE NEIGHBOUR: 'it returns false'. Refute it at one input. -/
def fnNestedWrong : ChangeSpec := { name := "fnNested", fn := fun _ => fun
  | [d] => { results := [.lit (.bool false)], args := [d] }
  | _ => none }
def FnNestedWrongFalsely : Prop := fnNestedRow.holds Tryz.pinned (OpenSpec.ofChange fnNestedWrong)

/-- 'laws.FnExactApartFrame': WHATEVER THE INPUT: true; the input reads as it did. -/
def fnExactApartFrameSpec : ChangeSpec := { name := "fnExactApartFrame", fn := fun _ => fun
  | [d1, d2, d3, d4, d5, d6] => { results := [.lit (.bool true)], args := [d1, d2, d3, d4, d5, d6] }
  | _ => none }
def fnExactApartFrameRow : OpenClaim := { program := "ytckchgoblpgpbaagreat", sum := "334ae50420fbd1c9c9f5cba409ceb002008d784fa1ab7e69d33d36cec8f9fa76", func := "loop.example/g00972/laws.FnExactApartFrame", spec := "fnExactApartFrame", inPlace := ["internal/reflectlite.ValueOf", "internal/reflectlite.Swapper", "(internal/reflectlite.Value).Len"], unfollowed := true, recurses := true, apart := false }
def FnExactApartFrameSaid : Prop := fnExactApartFrameRow.holds Tryz.pinned (OpenSpec.ofChange fnExactApartFrameSpec)

/-- ITS FALSE NEIGHBOUR: 'it returns false'. Refute it at one input. -/
def fnExactApartFrameWrong : ChangeSpec := { name := "fnExactApartFrame", fn := fun _ => fun
  | [d1, d2, d3, d4, d5, d6] => { results := [.lit (.bool false)], args := [d1, d2, d3, d4, d5, d6] }
  | _ => none }
def FnExactApartFrameWrongFalsely : Prop := fnExactApartFrameRow.holds Tryz.pinned (OpenSpec.ofChange fnExactApartFrameWrong)

/-- 'laws.FnExactApartFrames': WHATEVER THE INPUT: true; the input reads as it did. -/
def fnExactApartFramesSpec : ChangeSpec := { name := "fnExactApartFrames", fn := fun _ => fun
  | [d1, d2, d3, d4, d5] => { results := [.lit (.bool true)], args := [d1, d2, d3, d4, d5] }
  | _ => none }
def fnExactApartFramesRow : OpenClaim := { program := "ytckchgoblpgpbaagreat", sum := "334ae50420fbd1c9c9f5cba409ceb002008d784fa1ab7e69d33d36cec8f9fa76", func := "loop.example/g00972/laws.FnExactApartFrames", spec := "fnExactApartFrames", inPlace := ["internal/reflectlite.ValueOf", "internal/reflectlite.Swapper", "(internal/reflectlite.Value).Len"], unfollowed := true, recurses := true, apart := false }
def FnExactApartFramesSaid : Prop := fnExactApartFramesRow.holds Tryz.pinned (OpenSpec.ofChange fnExactApartFramesSpec)

/-- ITS FALSE NEIGHBOUR: 'it returns false'. Refute it at one input. -/
def fnExactApartFramesWrong : ChangeSpec := { name := "fnExactApartFrames", fn := fun _ => fun
  | [d1, d2, d3, d4, d5] => { results := [.lit (.bool false)], args := [d1, d2, d3, d4, d5] }
  | _ => none }
def FnExactApartFramesWrongFalsely : Prop := fnExactApartFramesRow.holds Tryz.pinned (OpenSpec.ofChange fnExactApartFramesWrong)

/-- 'laws.FnExactFramesUnder': WHATEVER THE INPUT: true; the input reads as it did. -/
def fnExactFramesUnderSpec : ChangeSpec := { name := "fnExactFramesUnder", fn := fun _ => fun
  | [d1, d2, d3, d4, d5] => { results := [.lit (.bool true)], args := [d1, d2, d3, d4, d5] }
  | _ => none }
def fnExactFramesUnderRow : OpenClaim := { program := "ytckchgoblpgpbaagreat", sum := "334ae50420fbd1c9c9f5cba409ceb002008d784fa1ab7e69d33d36cec8f9fa76", func := "loop.example/g00972/laws.FnExactFramesUnder", spec := "fnExactFramesUnder", inPlace := ["internal/reflectlite.ValueOf", "internal/reflectlite.Swapper", "(internal/reflectlite.Value).Len"], unfollowed := true, recurses := true, apart := false }
def FnExactFramesUnderSaid : Prop := fnExactFramesUnderRow.holds Tryz.pinned (OpenSpec.ofChange fnExactFramesUnderSpec)

/-- ITS FALSE NEIGHBOUR: 'it returns false'. Refute it at one input. -/
def fnExactFramesUnderWrong : ChangeSpec := { name := "fnExactFramesUnder", fn := fun _ => fun
  | [d1, d2, d3, d4, d5] => { results := [.lit (.bool false)], args := [d1, d2, d3, d4, d5] }
  | _ => none }
def FnExactFramesUnderWrongFalsely : Prop := fnExactFramesUnderRow.holds Tryz.pinned (OpenSpec.ofChange fnExactFramesUnderWrong)

/-- 'laws.FnExactLaidOut': WHATEVER THE INPUT: true; the input reads as it did. -/
def fnExactLaidOutSpec : ChangeSpec := { name := "fnExactLaidOut", fn := fun _ => fun
  | [d1, d2, d3, d4, d5] => { results := [.lit (.bool true)], args := [d1, d2, d3, d4, d5] }
  | _ => none }
def fnExactLaidOutRow : OpenClaim := { program := "ytckchgoblpgpbaagreat", sum := "334ae50420fbd1c9c9f5cba409ceb002008d784fa1ab7e69d33d36cec8f9fa76", func := "loop.example/g00972/laws.FnExactLaidOut", spec := "fnExactLaidOut", inPlace := ["internal/reflectlite.ValueOf", "internal/reflectlite.Swapper", "(internal/reflectlite.Value).Len"], unfollowed := true, recurses := true, apart := false }
def FnExactLaidOutSaid : Prop := fnExactLaidOutRow.holds Tryz.pinned (OpenSpec.ofChange fnExactLaidOutSpec)

/-- ITS FALSE NEIGHBOUR: 'it returns false'. Refute it at one input. -/
def fnExactLaidOutWrong : ChangeSpec := { name := "fnExactLaidOut", fn := fun _ => fun
  | [d1, d2, d3, d4, d5] => { results := [.lit (.bool false)], args := [d1, d2, d3, d4, d5] }
  | _ => none }
def FnExactLaidOutWrongFalsely : Prop := fnExactLaidOutRow.holds Tryz.pinned (OpenSpec.ofChange fnExactLaidOutWrong)

/- THE SECOND FORM. 'bulk': how many values and letters a reading holds, each counted each time it is reached (what is shared counts as often as it is met; a slice's spare places count too). A statement '..UptoSaid' is the law's where the arguments, and the package variables that the reading takes, are together of bulk at most 1048576: NARROWER than '..Said'. Prove '..Said' where nothing that the law and all that it calls make is longer than what came in: it says more and counts as full. Else prove '..UptoSaid'. A law counts once. -/
mutual
def uptoBulk {H : Type} : DataW H → Nat
  | .lit (.string bytes) => bytes.length + 1
  | .lit _ => 1
  | .nil => 1
  | .ptr d => uptoBulk d + 1
  | .slice elems spare => uptoBulkAll elems + uptoBulkAll spare + 1
  | .agg parts => uptoBulkAll parts + 1
  | .iface _ d => uptoBulk d + 1
  | .map entries => uptoBulkEntries entries + 1
  | .held _ => 1
def uptoBulkAll {H : Type} : List (DataW H) → Nat
  | [] => 0
  | d :: r => uptoBulk d + uptoBulkAll r
def uptoBulkEntries {H : Type} : List (Lit × DataW H) → Nat
  | [] => 0
  | x :: r => uptoBulkEntry x + uptoBulkEntries r
def uptoBulkEntry {H : Type} : Lit × DataW H → Nat
  | (.string bytes, d) => bytes.length + uptoBulk d + 1
  | (_, d) => uptoBulk d + 1
 end
def uptoSmall : (H : Type) → List (DataW H) → Bool := fun _ ds => decide (uptoBulkAll ds ≤ 1048576)
def OpenSpec.upto (s : _root_.Go.ChangeSpec) : _root_.Go.OpenSpec := { _root_.Go.OpenSpec.ofChange s with cond := some uptoSmall }

/-- 'laws.FnNested', WHERE WHAT IT READS IS OF BULK AT MOST 1048576: true; the input reads as it did. -/
def fnNestedUptoRow : OpenClaim := { program := "ytckchgoblpgpbaagreat", sum := "334ae50420fbd1c9c9f5cba409ceb002008d784fa1ab7e69d33d36cec8f9fa76", func := "loop.example/g00972/laws.FnNested", spec := "fnNested", inPlace := ["internal/reflectlite.ValueOf", "internal/reflectlite.Swapper", "(internal/reflectlite.Value).Len"], unfollowed := true, recurses := true, apart := false, narrowed := true }
def FnNestedUptoSaid : Prop := fnNestedUptoRow.holds Tryz.pinned (OpenSpec.upto fnNestedSpec)

/-- 'laws.FnExactApartFrame', WHERE WHAT IT READS IS OF BULK AT MOST 1048576: true; the input reads as it did. -/
def fnExactApartFrameUptoRow : OpenClaim := { program := "ytckchgoblpgpbaagreat", sum := "334ae50420fbd1c9c9f5cba409ceb002008d784fa1ab7e69d33d36cec8f9fa76", func := "loop.example/g00972/laws.FnExactApartFrame", spec := "fnExactApartFrame", inPlace := ["internal/reflectlite.ValueOf", "internal/reflectlite.Swapper", "(internal/reflectlite.Value).Len"], unfollowed := true, recurses := true, apart := false, narrowed := true }
def FnExactApartFrameUptoSaid : Prop := fnExactApartFrameUptoRow.holds Tryz.pinned (OpenSpec.upto fnExactApartFrameSpec)

/-- 'laws.FnExactApartFrames', WHERE WHAT IT READS IS OF BULK AT MOST 1048576: true; the input reads as it did. -/
def fnExactApartFramesUptoRow : OpenClaim := { program := "ytckchgoblpgpbaagreat", sum := "334ae50420fbd1c9c9f5cba409ceb002008d784fa1ab7e69d33d36cec8f9fa76", func := "loop.example/g00972/laws.FnExactApartFrames", spec := "fnExactApartFrames", inPlace := ["internal/reflectlite.ValueOf", "internal/reflectlite.Swapper", "(internal/reflectlite.Value).Len"], unfollowed := true, recurses := true, apart := false, narrowed := true }
def FnExactApartFramesUptoSaid : Prop := fnExactApartFramesUptoRow.holds Tryz.pinned (OpenSpec.upto fnExactApartFramesSpec)

/-- 'laws.FnExactFramesUnder', WHERE WHAT IT READS IS OF BULK AT MOST 1048576: true; the input reads as it did. -/
def fnExactFramesUnderUptoRow : OpenClaim := { program := "ytckchgoblpgpbaagreat", sum := "334ae50420fbd1c9c9f5cba409ceb002008d784fa1ab7e69d33d36cec8f9fa76", func := "loop.example/g00972/laws.FnExactFramesUnder", spec := "fnExactFramesUnder", inPlace := ["internal/reflectlite.ValueOf", "internal/reflectlite.Swapper", "(internal/reflectlite.Value).Len"], unfollowed := true, recurses := true, apart := false, narrowed := true }
def FnExactFramesUnderUptoSaid : Prop := fnExactFramesUnderUptoRow.holds Tryz.pinned (OpenSpec.upto fnExactFramesUnderSpec)

/-- 'laws.FnExactLaidOut', WHERE WHAT IT READS IS OF BULK AT MOST 1048576: true; the input reads as it did. -/
def fnExactLaidOutUptoRow : OpenClaim := { program := "ytckchgoblpgpbaagreat", sum := "334ae50420fbd1c9c9f5cba409ceb002008d784fa1ab7e69d33d36cec8f9fa76", func := "loop.example/g00972/laws.FnExactLaidOut", spec := "fnExactLaidOut", inPlace := ["internal/reflectlite.ValueOf", "internal/reflectlite.Swapper", "(internal/reflectlite.Value).Len"], unfollowed := true, recurses := true, apart := false, narrowed := true }
def FnExactLaidOutUptoSaid : Prop := fnExactLaidOutUptoRow.holds Tryz.pinned (OpenSpec.upto fnExactLaidOutSpec)

end Rows
end Go.Proofs.YtckchgoblpgpbaaGreat
