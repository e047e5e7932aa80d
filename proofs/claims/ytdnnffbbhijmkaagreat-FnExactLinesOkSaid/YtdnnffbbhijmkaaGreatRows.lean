/-
  No cell of these rows narrows 'for every input' (looked for: loops, veiled, ifaces, maps, wideKeys, modest, calm, conditions, laid).
  DERIVED. THE GIVEN ROWS OF THIS SEAT. 12 by the template 'for every input the law returns true; each argument reads behind the call as it read before'; 0 by the template 'total and deterministic' (their statements: YtdnnffbbhijmkaaGreatTotals.lean).
  GIVEN WITH THE SEED: the statements are not yours to turn. If you find one false, say at which input.
  Laid BY PROGRAM, IN A SANDBOX (cutbox-rows.mjs): the forced cells as the released guide's own fill.sh prints them over the translation 2378ba0da481bcf8… (all of the seat's roots in one cut). By AI agents, Wed Nov 11 2026. No macro, syntax, notation, axiom, sorry.
-/
import Derived.Test.YtdnnffbbhijmkaaGreatChecked
import GoSem.Claim
import GoSem.ClaimJoined
import GoSem.ClaimMapViews
import Derived.JoinedTies
import Derived.KernelRfl
namespace Go.Proofs.YtdnnffbbhijmkaaGreat
/- THE CELL 'sum', in the pinned program and in every row, IS THE sha256 OF THE DUMP (.gsa) THAT YtdnnffbbhijmkaaGreatProg.lean LOADS. Nothing in Lean hashes anything: it is a label: what it is worth is what the hold of that sum in a sandbox is worth. -/
noncomputable def Tryz.pinned : Pinned := { name := "ytdnnffbbhijmkaagreat", sum := "2378ba0da481bcf8417dd01716e7e52169adefc8c420b1ce2666672710a10797", checked := Tryz.checked }
namespace Rows
def none {H : Type} : Left H := { results := [], args := [] }

/-- 'laws.FnExactKidCross': WHATEVER THE INPUT: true; the input reads as it did. -/
def fnExactKidCrossSpec : ChangeSpec := { name := "fnExactKidCross", fn := fun _ => fun
  | [d1, d2, d3, d4, d5, d6] => { results := [.lit (.bool true)], args := [d1, d2, d3, d4, d5, d6] }
  | _ => none }
def fnExactKidCrossRow : OpenClaim := { program := "ytdnnffbbhijmkaagreat", sum := "2378ba0da481bcf8417dd01716e7e52169adefc8c420b1ce2666672710a10797", func := "loop.example/g00972/laws.FnExactKidCross", spec := "fnExactKidCross", inPlace := ["internal/reflectlite.ValueOf", "internal/reflectlite.Swapper", "(internal/reflectlite.Value).Len"], unfollowed := true, recurses := true, apart := false }
def FnExactKidCrossSaid : Prop := fnExactKidCrossRow.holds Tryz.pinned (OpenSpec.ofChange fnExactKidCrossSpec)

/-- ITS FALSE NEIGHBOUR: 'it returns false'. Refute it at one input. -/
def fnExactKidCrossWrong : ChangeSpec := { name := "fnExactKidCross", fn := fun _ => fun
  | [d1, d2, d3, d4, d5, d6] => { results := [.lit (.bool false)], args := [d1, d2, d3, d4, d5, d6] }
  | _ => none }
def FnExactKidCrossWrongFalsely : Prop := fnExactKidCrossRow.holds Tryz.pinned (OpenSpec.ofChange fnExactKidCrossWrong)

/-- 'laws.FnExactKidBase': WHATEVER THE INPUT: true; the input reads as it did. -/
def fnExactKidBaseSpec : ChangeSpec := { name := "fnExactKidBase", fn := fun _ => fun
  | [d1, d2, d3, d4, d5, d6] => { results := [.lit (.bool true)], args := [d1, d2, d3, d4, d5, d6] }
  | _ => none }
def fnExactKidBaseRow : OpenClaim := { program := "ytdnnffbbhijmkaagreat", sum := "2378ba0da481bcf8417dd01716e7e52169adefc8c420b1ce2666672710a10797", func := "loop.example/g00972/laws.FnExactKidBase", spec := "fnExactKidBase", inPlace := ["internal/reflectlite.ValueOf", "internal/reflectlite.Swapper", "(internal/reflectlite.Value).Len"], unfollowed := true, recurses := true, apart := false }
def FnExactKidBaseSaid : Prop := fnExactKidBaseRow.holds Tryz.pinned (OpenSpec.ofChange fnExactKidBaseSpec)

/-- ITS FALSE NEIGHBOUR: 'it returns false'. Refute it at one input. -/
def fnExactKidBaseWrong : ChangeSpec := { name := "fnExactKidBase", fn := fun _ => fun
  | [d1, d2, d3, d4, d5, d6] => { results := [.lit (.bool false)], args := [d1, d2, d3, d4, d5, d6] }
  | _ => none }
def FnExactKidBaseWrongFalsely : Prop := fnExactKidBaseRow.holds Tryz.pinned (OpenSpec.ofChange fnExactKidBaseWrong)

/-- 'laws.FnExactRootSize': WHATEVER THE INPUT: true; the input reads as it did. -/
def fnExactRootSizeSpec : ChangeSpec := { name := "fnExactRootSize", fn := fun _ => fun
  | [d1, d2, d3, d4, d5] => { results := [.lit (.bool true)], args := [d1, d2, d3, d4, d5] }
  | _ => none }
def fnExactRootSizeRow : OpenClaim := { program := "ytdnnffbbhijmkaagreat", sum := "2378ba0da481bcf8417dd01716e7e52169adefc8c420b1ce2666672710a10797", func := "loop.example/g00972/laws.FnExactRootSize", spec := "fnExactRootSize", inPlace := ["internal/reflectlite.ValueOf", "internal/reflectlite.Swapper", "(internal/reflectlite.Value).Len"], unfollowed := true, recurses := true, apart := false }
def FnExactRootSizeSaid : Prop := fnExactRootSizeRow.holds Tryz.pinned (OpenSpec.ofChange fnExactRootSizeSpec)

/-- ITS FALSE NEIGHBOUR: 'it returns false'. Refute it at one input. -/
def fnExactRootSizeWrong : ChangeSpec := { name := "fnExactRootSize", fn := fun _ => fun
  | [d1, d2, d3, d4, d5] => { results := [.lit (.bool false)], args := [d1, d2, d3, d4, d5] }
  | _ => none }
def FnExactRootSizeWrongFalsely : Prop := fnExactRootSizeRow.holds Tryz.pinned (OpenSpec.ofChange fnExactRootSizeWrong)

/-- 'laws.FnExactLinesOk': WHATEVER THE INPUT: true; the input reads as it did. -/
def fnExactLinesOkSpec : ChangeSpec := { name := "fnExactLinesOk", fn := fun _ => fun
  | [d1, d2, d3, d4, d5] => { results := [.lit (.bool true)], args := [d1, d2, d3, d4, d5] }
  | _ => none }
def fnExactLinesOkRow : OpenClaim := { program := "ytdnnffbbhijmkaagreat", sum := "2378ba0da481bcf8417dd01716e7e52169adefc8c420b1ce2666672710a10797", func := "loop.example/g00972/laws.FnExactLinesOk", spec := "fnExactLinesOk", inPlace := ["internal/reflectlite.ValueOf", "internal/reflectlite.Swapper", "(internal/reflectlite.Value).Len"], unfollowed := true, recurses := true, apart := false }
def FnExactLinesOkSaid : Prop := fnExactLinesOkRow.holds Tryz.pinned (OpenSpec.ofChange fnExactLinesOkSpec)

/-- ITS FALSE NEIGHBOUR: 'it returns false'. Refute it at one input. -/
def fnExactLinesOkWrong : ChangeSpec := { name := "fnExactLinesOk", fn := fun _ => fun
  | [d1, d2, d3, d4, d5] => { results := [.lit (.bool false)], args := [d1, d2, d3, d4, d5] }
  | _ => none }
def FnExactLinesOkWrongFalsely : Prop := fnExactLinesOkRow.holds Tryz.pinned (OpenSpec.ofChange fnExactLinesOkWrong)

/-- 'laws.FnExactApartFrame': WHATEVER THE INPUT: true; the input reads as it did. -/
def fnExactApartFrameSpec : ChangeSpec := { name := "fnExactApartFrame", fn := fun _ => fun
  | [d1, d2, d3, d4, d5, d6] => { results := [.lit (.bool true)], args := [d1, d2, d3, d4, d5, d6] }
  | _ => none }
def fnExactApartFrameRow : OpenClaim := { program := "ytdnnffbbhijmkaagreat", sum := "2378ba0da481bcf8417dd01716e7e52169adefc8c420b1ce2666672710a10797", func := "loop.example/g00972/laws.FnExactApartFrame", spec := "fnExactApartFrame", inPlace := ["internal/reflectlite.ValueOf", "internal/reflectlite.Swapper", "(internal/reflectlite.Value).Len"], unfollowed := true, recurses := true, apart := false }
def FnExactApartFrameSaid : Prop := fnExactApartFrameRow.holds Tryz.pinned (OpenSpec.ofChange fnExactApartFrameSpec)

/-- ITS FALSE NEIGHBOUR: 'it returns false'. Refute it at one input. -/
def fnExactApartFrameWrong : ChangeSpec := { name := "fnExactApartFrame", fn := fun _ => fun
  | [d1, d2, d3, d4, d5, d6] => { results := [.lit (.bool false)], args := [d1, d2, d3, d4, d5, d6] }
  | _ => none }
def FnExactApartFrameWrongFalsely : Prop := fnExactApartFrameRow.holds Tryz.pinned (OpenSpec.ofChange fnExactApartFrameWrong)

/-- 'laws.FnExactKidSizes': WHATEVER THE INPUT: true; the input reads as it did. -/
def fnExactKidSizesSpec : ChangeSpec := { name := "fnExactKidSizes", fn := fun _ => fun
  | [d1, d2, d3, d4, d5] => { results := [.lit (.bool true)], args := [d1, d2, d3, d4, d5] }
  | _ => none }
def fnExactKidSizesRow : OpenClaim := { program := "ytdnnffbbhijmkaagreat", sum := "2378ba0da481bcf8417dd01716e7e52169adefc8c420b1ce2666672710a10797", func := "loop.example/g00972/laws.FnExactKidSizes", spec := "fnExactKidSizes", inPlace := ["internal/reflectlite.ValueOf", "internal/reflectlite.Swapper", "(internal/reflectlite.Value).Len"], unfollowed := true, recurses := true, apart := false }
def FnExactKidSizesSaid : Prop := fnExactKidSizesRow.holds Tryz.pinned (OpenSpec.ofChange fnExactKidSizesSpec)

/-- ITS FALSE NEIGHBOUR: 'it returns false'. Refute it at one input. -/
def fnExactKidSizesWrong : ChangeSpec := { name := "fnExactKidSizes", fn := fun _ => fun
  | [d1, d2, d3, d4, d5] => { results := [.lit (.bool false)], args := [d1, d2, d3, d4, d5] }
  | _ => none }
def FnExactKidSizesWrongFalsely : Prop := fnExactKidSizesRow.holds Tryz.pinned (OpenSpec.ofChange fnExactKidSizesWrong)

/-- 'laws.FnExactKidItems': WHATEVER THE INPUT: true; the input reads as it did. -/
def fnExactKidItemsSpec : ChangeSpec := { name := "fnExactKidItems", fn := fun _ => fun
  | [d1, d2, d3, d4, d5] => { results := [.lit (.bool true)], args := [d1, d2, d3, d4, d5] }
  | _ => none }
def fnExactKidItemsRow : OpenClaim := { program := "ytdnnffbbhijmkaagreat", sum := "2378ba0da481bcf8417dd01716e7e52169adefc8c420b1ce2666672710a10797", func := "loop.example/g00972/laws.FnExactKidItems", spec := "fnExactKidItems", inPlace := ["internal/reflectlite.ValueOf", "internal/reflectlite.Swapper", "(internal/reflectlite.Value).Len"], unfollowed := true, recurses := true, apart := false }
def FnExactKidItemsSaid : Prop := fnExactKidItemsRow.holds Tryz.pinned (OpenSpec.ofChange fnExactKidItemsSpec)

/-- ITS FALSE NEIGHBOUR: 'it returns false'. Refute it at one input. -/
def fnExactKidItemsWrong : ChangeSpec := { name := "fnExactKidItems", fn := fun _ => fun
  | [d1, d2, d3, d4, d5] => { results := [.lit (.bool false)], args := [d1, d2, d3, d4, d5] }
  | _ => none }
def FnExactKidItemsWrongFalsely : Prop := fnExactKidItemsRow.holds Tryz.pinned (OpenSpec.ofChange fnExactKidItemsWrong)

/-- 'laws.FnExactKidSides': WHATEVER THE INPUT: true; the input reads as it did. -/
def fnExactKidSidesSpec : ChangeSpec := { name := "fnExactKidSides", fn := fun _ => fun
  | [d1, d2, d3, d4, d5] => { results := [.lit (.bool true)], args := [d1, d2, d3, d4, d5] }
  | _ => none }
def fnExactKidSidesRow : OpenClaim := { program := "ytdnnffbbhijmkaagreat", sum := "2378ba0da481bcf8417dd01716e7e52169adefc8c420b1ce2666672710a10797", func := "loop.example/g00972/laws.FnExactKidSides", spec := "fnExactKidSides", inPlace := ["internal/reflectlite.ValueOf", "internal/reflectlite.Swapper", "(internal/reflectlite.Value).Len"], unfollowed := true, recurses := true, apart := false }
def FnExactKidSidesSaid : Prop := fnExactKidSidesRow.holds Tryz.pinned (OpenSpec.ofChange fnExactKidSidesSpec)

/-- ITS FALSE NEIGHBOUR: 'it returns false'. Refute it at one input. -/
def fnExactKidSidesWrong : ChangeSpec := { name := "fnExactKidSides", fn := fun _ => fun
  | [d1, d2, d3, d4, d5] => { results := [.lit (.bool false)], args := [d1, d2, d3, d4, d5] }
  | _ => none }
def FnExactKidSidesWrongFalsely : Prop := fnExactKidSidesRow.holds Tryz.pinned (OpenSpec.ofChange fnExactKidSidesWrong)

/-- 'laws.FnExactSizedBox': WHATEVER THE INPUT: true; the input reads as it did. -/
def fnExactSizedBoxSpec : ChangeSpec := { name := "fnExactSizedBox", fn := fun _ => fun
  | [d1, d2, d3, d4, d5] => { results := [.lit (.bool true)], args := [d1, d2, d3, d4, d5] }
  | _ => none }
def fnExactSizedBoxRow : OpenClaim := { program := "ytdnnffbbhijmkaagreat", sum := "2378ba0da481bcf8417dd01716e7e52169adefc8c420b1ce2666672710a10797", func := "loop.example/g00972/laws.FnExactSizedBox", spec := "fnExactSizedBox", inPlace := ["internal/reflectlite.ValueOf", "internal/reflectlite.Swapper", "(internal/reflectlite.Value).Len"], unfollowed := true, recurses := true, apart := false }
def FnExactSizedBoxSaid : Prop := fnExactSizedBoxRow.holds Tryz.pinned (OpenSpec.ofChange fnExactSizedBoxSpec)

/-- ITS FALSE NEIGHBOUR: 'it returns false'. Refute it at one input. -/
def fnExactSizedBoxWrong : ChangeSpec := { name := "fnExactSizedBox", fn := fun _ => fun
  | [d1, d2, d3, d4, d5] => { results := [.lit (.bool false)], args := [d1, d2, d3, d4, d5] }
  | _ => none }
def FnExactSizedBoxWrongFalsely : Prop := fnExactSizedBoxRow.holds Tryz.pinned (OpenSpec.ofChange fnExactSizedBoxWrong)

/-- 'laws.FnExactApartFrames': WHATEVER THE INPUT: true; the input reads as it did. -/
def fnExactApartFramesSpec : ChangeSpec := { name := "fnExactApartFrames", fn := fun _ => fun
  | [d1, d2, d3, d4, d5] => { results := [.lit (.bool true)], args := [d1, d2, d3, d4, d5] }
  | _ => none }
def fnExactApartFramesRow : OpenClaim := { program := "ytdnnffbbhijmkaagreat", sum := "2378ba0da481bcf8417dd01716e7e52169adefc8c420b1ce2666672710a10797", func := "loop.example/g00972/laws.FnExactApartFrames", spec := "fnExactApartFrames", inPlace := ["internal/reflectlite.ValueOf", "internal/reflectlite.Swapper", "(internal/reflectlite.Value).Len"], unfollowed := true, recurses := true, apart := false }
def FnExactApartFramesSaid : Prop := fnExactApartFramesRow.holds Tryz.pinned (OpenSpec.ofChange fnExactApartFramesSpec)

/-- ITS FALSE NEIGHBOUR: 'it returns false'. Refute it at one input. -/
def fnExactApartFramesWrong : ChangeSpec := { name := "fnExactApartFrames", fn := fun _ => fun
  | [d1, d2, d3, d4, d5] => { results := [.lit (.bool false)], args := [d1, d2, d3, d4, d5] }
  | _ => none }
def FnExactApartFramesWrongFalsely : Prop := fnExactApartFramesRow.holds Tryz.pinned (OpenSpec.ofChange fnExactApartFramesWrong)

/-- 'laws.FnExactFramesUnder': WHATEVER THE INPUT: true; the input reads as it did. -/
def fnExactFramesUnderSpec : ChangeSpec := { name := "fnExactFramesUnder", fn := fun _ => fun
  | [d1, d2, d3, d4, d5] => { results := [.lit (.bool true)], args := [d1, d2, d3, d4, d5] }
  | _ => none }
def fnExactFramesUnderRow : OpenClaim := { program := "ytdnnffbbhijmkaagreat", sum := "2378ba0da481bcf8417dd01716e7e52169adefc8c420b1ce2666672710a10797", func := "loop.example/g00972/laws.FnExactFramesUnder", spec := "fnExactFramesUnder", inPlace := ["internal/reflectlite.ValueOf", "internal/reflectlite.Swapper", "(internal/reflectlite.Value).Len"], unfollowed := true, recurses := true, apart := false }
def FnExactFramesUnderSaid : Prop := fnExactFramesUnderRow.holds Tryz.pinned (OpenSpec.ofChange fnExactFramesUnderSpec)

/-- ITS FALSE NEIGHBOUR: 'it returns false'. Refute it at one input. -/
def fnExactFramesUnderWrong : ChangeSpec := { name := "fnExactFramesUnder", fn := fun _ => fun
  | [d1, d2, d3, d4, d5] => { results := [.lit (.bool false)], args := [d1, d2, d3, d4, d5] }
  | _ => none }
def FnExactFramesUnderWrongFalsely : Prop := fnExactFramesUnderRow.holds Tryz.pinned (OpenSpec.ofChange fnExactFramesUnderWrong)

/-- 'laws.FnExactLaidOut': WHATEVER THE INPUT: true; the input reads as it did. -/
def fnExactLaidOutSpec : ChangeSpec := { name := "fnExactLaidOut", fn := fun _ => fun
  | [d1, d2, d3, d4, d5] => { results := [.lit (.bool true)], args := [d1, d2, d3, d4, d5] }
  | _ => none }
def fnExactLaidOutRow : OpenClaim := { program := "ytdnnffbbhijmkaagreat", sum := "2378ba0da481bcf8417dd01716e7e52169adefc8c420b1ce2666672710a10797", func := "loop.example/g00972/laws.FnExactLaidOut", spec := "fnExactLaidOut", inPlace := ["internal/reflectlite.ValueOf", "internal/reflectlite.Swapper", "(internal/reflectlite.Value).Len"], unfollowed := true, recurses := true, apart := false }
def FnExactLaidOutSaid : Prop := fnExactLaidOutRow.holds Tryz.pinned (OpenSpec.ofChange fnExactLaidOutSpec)

/-- ITS FALSE NEIGHBOUR: 'it returns false'. Refute it at one input. -/
def fnExactLaidOutWrong : ChangeSpec := { name := "fnExactLaidOut", fn := fun _ => fun
  | [d1, d2, d3, d4, d5] => { results := [.lit (.bool false)], args := [d1, d2, d3, d4, d5] }
  | _ => none }
def FnExactLaidOutWrongFalsely : Prop := fnExactLaidOutRow.holds Tryz.pinned (OpenSpec.ofChange fnExactLaidOutWrong)

/- THE SECOND FORM. 'bulk': how many values and letters a reading holds, each counted each time it is reached (what is shared counts as often as it is met; a slice's spare places count too). A statement '..UptoSaid' is the law's where the arguments, and the package variables that the reading takes, are together of bulk at most 1048576: NARROWER than '..Said'. Prove '..Said' where nothing that the law and all that it calls make is longer than what came in: it says more and counts as full. Else prove '..UptoSaid'. A law counts once. -/
mutual
def uptoBulk {H : Type} : DataW H → Nat
  | .lit (.string bytes) => bytes.length + 1
  | .lit _ => 1
  | .nil => 1
  | .ptr d => uptoBulk d + 1
  | .slice elems spare => uptoBulkAll elems + uptoBulkAll spare + 1
  | .agg parts => uptoBulkAll parts + 1
  | .iface _ d => uptoBulk d + 1
  | .map entries => uptoBulkEntries entries + 1
  | .held _ => 1
def uptoBulkAll {H : Type} : List (DataW H) → Nat
  | [] => 0
  | d :: r => uptoBulk d + uptoBulkAll r
def uptoBulkEntries {H : Type} : List (Lit × DataW H) → Nat
  | [] => 0
  | x :: r => uptoBulkEntry x + uptoBulkEntries r
def uptoBulkEntry {H : Type} : Lit × DataW H → Nat
  | (.string bytes, d) => bytes.length + uptoBulk d + 1
  | (_, d) => uptoBulk d + 1
 end
def uptoSmall : (H : Type) → List (DataW H) → Bool := fun _ ds => decide (uptoBulkAll ds ≤ 1048576)
def OpenSpec.upto (s : _root_.Go.ChangeSpec) : _root_.Go.OpenSpec := { _root_.Go.OpenSpec.ofChange s with cond := some uptoSmall }

/-- 'laws.FnExactKidCross', WHERE WHAT IT READS IS OF BULK AT MOST 1048576: true; the input reads as it did. -/
def fnExactKidCrossUptoRow : OpenClaim := { program := "ytdnnffbbhijmkaagreat", sum := "2378ba0da481bcf8417dd01716e7e52169adefc8c420b1ce2666672710a10797", func := "loop.example/g00972/laws.FnExactKidCross", spec := "fnExactKidCross", inPlace := ["internal/reflectlite.ValueOf", "internal/reflectlite.Swapper", "(internal/reflectlite.Value).Len"], unfollowed := true, recurses := true, apart := false, narrowed := true }
def FnExactKidCrossUptoSaid : Prop := fnExactKidCrossUptoRow.holds Tryz.pinned (OpenSpec.upto fnExactKidCrossSpec)

/-- 'laws.FnExactKidBase', WHERE WHAT IT READS IS OF BULK AT MOST 1048576: true; the input reads as it did. -/
def fnExactKidBaseUptoRow : OpenClaim := { program := "ytdnnffbbhijmkaagreat", sum := "2378ba0da481bcf8417dd01716e7e52169adefc8c420b1ce2666672710a10797", func := "loop.example/g00972/laws.FnExactKidBase", spec := "fnExactKidBase", inPlace := ["internal/reflectlite.ValueOf", "internal/reflectlite.Swapper", "(internal/reflectlite.Value).Len"], unfollowed := true, recurses := true, apart := false, narrowed := true }
def FnExactKidBaseUptoSaid : Prop := fnExactKidBaseUptoRow.holds Tryz.pinned (OpenSpec.upto fnExactKidBaseSpec)

/-- 'laws.FnExactRootSize', WHERE WHAT IT READS IS OF BULK AT MOST 1048576: true; the input reads as it did. -/
def fnExactRootSizeUptoRow : OpenClaim := { program := "ytdnnffbbhijmkaagreat", sum := "2378ba0da481bcf8417dd01716e7e52169adefc8c420b1ce2666672710a10797", func := "loop.example/g00972/laws.FnExactRootSize", spec := "fnExactRootSize", inPlace := ["internal/reflectlite.ValueOf", "internal/reflectlite.Swapper", "(internal/reflectlite.Value).Len"], unfollowed := true, recurses := true, apart := false, narrowed := true }
def FnExactRootSizeUptoSaid : Prop := fnExactRootSizeUptoRow.holds Tryz.pinned (OpenSpec.upto fnExactRootSizeSpec)

/-- 'laws.FnExactLinesOk', WHERE WHAT IT READS IS OF BULK AT MOST 1048576: true; the input reads as it did. -/
def fnExactLinesOkUptoRow : OpenClaim := { program := "ytdnnffbbhijmkaagreat", sum := "2378ba0da481bcf8417dd01716e7e52169adefc8c420b1ce2666672710a10797", func := "loop.example/g00972/laws.FnExactLinesOk", spec := "fnExactLinesOk", inPlace := ["internal/reflectlite.ValueOf", "internal/reflectlite.Swapper", "(internal/reflectlite.Value).Len"], unfollowed := true, recurses := true, apart := false, narrowed := true }
def FnExactLinesOkUptoSaid : Prop := fnExactLinesOkUptoRow.holds Tryz.pinned (OpenSpec.upto fnExactLinesOkSpec)

/-- 'laws.FnExactApartFrame', WHERE WHAT IT READS IS OF BULK AT MOST 1048576: true; the input reads as it did. -/
def fnExactApartFrameUptoRow : OpenClaim := { program := "ytdnnffbbhijmkaagreat", sum := "2378ba0da481bcf8417dd01716e7e52169adefc8c420b1ce2666672710a10797", func := "loop.example/g00972/laws.FnExactApartFrame", spec := "fnExactApartFrame", inPlace := ["internal/reflectlite.ValueOf", "internal/reflectlite.Swapper", "(internal/reflectlite.Value).Len"], unfollowed := true, recurses := true, apart := false, narrowed := true }
def FnExactApartFrameUptoSaid : Prop := fnExactApartFrameUptoRow.holds Tryz.pinned (OpenSpec.upto fnExactApartFrameSpec)

/-- 'laws.FnExactKidSizes', WHERE WHAT IT READS IS OF BULK AT MOST 1048576: true; the input reads as it did. -/
def fnExactKidSizesUptoRow : OpenClaim := { program := "ytdnnffbbhijmkaagreat", sum := "2378ba0da481bcf8417dd01716e7e52169adefc8c420b1ce2666672710a10797", func := "loop.example/g00972/laws.FnExactKidSizes", spec := "fnExactKidSizes", inPlace := ["internal/reflectlite.ValueOf", "internal/reflectlite.Swapper", "(internal/reflectlite.Value).Len"], unfollowed := true, recurses := true, apart := false, narrowed := true }
def FnExactKidSizesUptoSaid : Prop := fnExactKidSizesUptoRow.holds Tryz.pinned (OpenSpec.upto fnExactKidSizesSpec)

/-- 'laws.FnExactKidItems', WHERE WHAT IT READS IS OF BULK AT MOST 1048576: true; the input reads as it did. -/
def fnExactKidItemsUptoRow : OpenClaim := { program := "ytdnnffbbhijmkaagreat", sum := "2378ba0da481bcf8417dd01716e7e52169adefc8c420b1ce2666672710a10797", func := "loop.example/g00972/laws.FnExactKidItems", spec := "fnExactKidItems", inPlace := ["internal/reflectlite.ValueOf", "internal/reflectlite.Swapper", "(internal/reflectlite.Value).Len"], unfollowed := true, recurses := true, apart := false, narrowed := true }
def FnExactKidItemsUptoSaid : Prop := fnExactKidItemsUptoRow.holds Tryz.pinned (OpenSpec.upto fnExactKidItemsSpec)

/-- 'laws.FnExactKidSides', WHERE WHAT IT READS IS OF BULK AT MOST 1048576: true; the input reads as it did. -/
def fnExactKidSidesUptoRow : OpenClaim := { program := "ytdnnffbbhijmkaagreat", sum := "2378ba0da481bcf8417dd01716e7e52169adefc8c420b1ce2666672710a10797", func := "loop.example/g00972/laws.FnExactKidSides", spec := "fnExactKidSides", inPlace := ["internal/reflectlite.ValueOf", "internal/reflectlite.Swapper", "(internal/reflectlite.Value).Len"], unfollowed := true, recurses := true, apart := false, narrowed := true }
def FnExactKidSidesUptoSaid : Prop := fnExactKidSidesUptoRow.holds Tryz.pinned (OpenSpec.upto fnExactKidSidesSpec)

/-- 'laws.FnExactSizedBox', WHERE WHAT IT READS IS OF BULK AT MOST 1048576: true; the input reads as it did. -/
def fnExactSizedBoxUptoRow : OpenClaim := { program := "ytdnnffbbhijmkaagreat", sum := "2378ba0da481bcf8417dd01716e7e52169adefc8c420b1ce2666672710a10797", func := "loop.example/g00972/laws.FnExactSizedBox", spec := "fnExactSizedBox", inPlace := ["internal/reflectlite.ValueOf", "internal/reflectlite.Swapper", "(internal/reflectlite.Value).Len"], unfollowed := true, recurses := true, apart := false, narrowed := true }
def FnExactSizedBoxUptoSaid : Prop := fnExactSizedBoxUptoRow.holds Tryz.pinned (OpenSpec.upto fnExactSizedBoxSpec)

/-- 'laws.FnExactApartFrames', WHERE WHAT IT READS IS OF BULK AT MOST 1048576: true; the input reads as it did. -/
def fnExactApartFramesUptoRow : OpenClaim := { program := "ytdnnffbbhijmkaagreat", sum := "2378ba0da481bcf8417dd01716e7e52169adefc8c420b1ce2666672710a10797", func := "loop.example/g00972/laws.FnExactApartFrames", spec := "fnExactApartFrames", inPlace := ["internal/reflectlite.ValueOf", "internal/reflectlite.Swapper", "(internal/reflectlite.Value).Len"], unfollowed := true, recurses := true, apart := false, narrowed := true }
def FnExactApartFramesUptoSaid : Prop := fnExactApartFramesUptoRow.holds Tryz.pinned (OpenSpec.upto fnExactApartFramesSpec)

/-- 'laws.FnExactFramesUnder', WHERE WHAT IT READS IS OF BULK AT MOST 1048576: true; the input reads as it did. -/
def fnExactFramesUnderUptoRow : OpenClaim := { program := "ytdnnffbbhijmkaagreat", sum := "2378ba0da481bcf8417dd01716e7e52169adefc8c420b1ce2666672710a10797", func := "loop.example/g00972/laws.FnExactFramesUnder", spec := "fnExactFramesUnder", inPlace := ["internal/reflectlite.ValueOf", "internal/reflectlite.Swapper", "(internal/reflectlite.Value).Len"], unfollowed := true, recurses := true, apart := false, narrowed := true }
def FnExactFramesUnderUptoSaid : Prop := fnExactFramesUnderUptoRow.holds Tryz.pinned (OpenSpec.upto fnExactFramesUnderSpec)

/-- 'laws.FnExactLaidOut', WHERE WHAT IT READS IS OF BULK AT MOST 1048576: true; the input reads as it did. -/
def fnExactLaidOutUptoRow : OpenClaim := { program := "ytdnnffbbhijmkaagreat", sum := "2378ba0da481bcf8417dd01716e7e52169adefc8c420b1ce2666672710a10797", func := "loop.example/g00972/laws.FnExactLaidOut", spec := "fnExactLaidOut", inPlace := ["internal/reflectlite.ValueOf", "internal/reflectlite.Swapper", "(internal/reflectlite.Value).Len"], unfollowed := true, recurses := true, apart := false, narrowed := true }
def FnExactLaidOutUptoSaid : Prop := fnExactLaidOutUptoRow.holds Tryz.pinned (OpenSpec.upto fnExactLaidOutSpec)

end Rows
end Go.Proofs.YtdnnffbbhijmkaaGreat
