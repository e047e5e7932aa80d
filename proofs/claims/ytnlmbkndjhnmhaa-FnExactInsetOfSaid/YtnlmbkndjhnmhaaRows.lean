/-
  No cell of these rows narrows 'for every input' (looked for: loops, veiled, ifaces, maps, wideKeys, modest, calm, conditions, laid).
  DERIVED. THE GIVEN ROWS OF THIS SEAT. 11 by the template 'for every input the law returns true; each argument reads behind the call as it read before'; 0 by the template 'total and deterministic' (their statements: YtnlmbkndjhnmhaaTotals.lean).
  GIVEN WITH THE SEED: the statements are not yours to turn. If you find one false, say at which input.
  Laid BY PROGRAM, IN A SANDBOX (cutbox-rows.mjs): the forced cells as the released guide's own fill.sh prints them over the translation 0adbf5d9e518d6a8… (all of the seat's roots in one cut). By AI agents, Wed Nov 11 2026. No macro, syntax, notation, axiom, sorry.
-/
import Derived.Test.YtnlmbkndjhnmhaaChecked
import GoSem.Claim
import GoSem.ClaimJoined
import GoSem.ClaimMapViews
import Derived.JoinedTies
import Derived.KernelRfl
namespace Go.Proofs.Ytnlmbkndjhnmhaa
/- THE CELL 'sum', in the pinned program and in every row, IS THE sha256 OF THE DUMP (.gsa) THAT YtnlmbkndjhnmhaaProg.lean LOADS. Nothing in Lean hashes anything: it is a label: what it is worth is what the hold of that sum in a sandbox is worth. -/
noncomputable def Try.pinned : Pinned := { name := "ytnlmbkndjhnmhaa", sum := "0adbf5d9e518d6a8954ee32a73e3d6d59e5c3fdeff7a6ae326669897a3d03fab", checked := Try.checked }
namespace Rows
def none {H : Type} : Left H := { results := [], args := [] }

/-- 'laws.FnExactPadBox': WHATEVER THE INPUT: true; the input reads as it did. -/
def fnExactPadBoxSpec : ChangeSpec := { name := "fnExactPadBox", fn := fun _ => fun
  | [d1, d2, d3] => { results := [.lit (.bool true)], args := [d1, d2, d3] }
  | _ => none }
def fnExactPadBoxRow : OpenClaim := { program := "ytnlmbkndjhnmhaa", sum := "0adbf5d9e518d6a8954ee32a73e3d6d59e5c3fdeff7a6ae326669897a3d03fab", func := "loop.example/g00972/laws.FnExactPadBox", spec := "fnExactPadBox", apart := false }
def FnExactPadBoxSaid : Prop := fnExactPadBoxRow.holds Try.pinned (OpenSpec.ofChange fnExactPadBoxSpec)

/-- ITS FALSE NEIGHBOUR: 'it returns false'. Refute it at one input. -/
def fnExactPadBoxWrong : ChangeSpec := { name := "fnExactPadBox", fn := fun _ => fun
  | [d1, d2, d3] => { results := [.lit (.bool false)], args := [d1, d2, d3] }
  | _ => none }
def FnExactPadBoxWrongFalsely : Prop := fnExactPadBoxRow.holds Try.pinned (OpenSpec.ofChange fnExactPadBoxWrong)

/-- 'laws.FnExactSameBox': WHATEVER THE INPUT: true; the input reads as it did. -/
def fnExactSameBoxSpec : ChangeSpec := { name := "fnExactSameBox", fn := fun _ => fun
  | [d1, d2] => { results := [.lit (.bool true)], args := [d1, d2] }
  | _ => none }
def fnExactSameBoxRow : OpenClaim := { program := "ytnlmbkndjhnmhaa", sum := "0adbf5d9e518d6a8954ee32a73e3d6d59e5c3fdeff7a6ae326669897a3d03fab", func := "loop.example/g00972/laws.FnExactSameBox", spec := "fnExactSameBox", apart := false }
def FnExactSameBoxSaid : Prop := fnExactSameBoxRow.holds Try.pinned (OpenSpec.ofChange fnExactSameBoxSpec)

/-- ITS FALSE NEIGHBOUR: 'it returns false'. Refute it at one input. -/
def fnExactSameBoxWrong : ChangeSpec := { name := "fnExactSameBox", fn := fun _ => fun
  | [d1, d2] => { results := [.lit (.bool false)], args := [d1, d2] }
  | _ => none }
def FnExactSameBoxWrongFalsely : Prop := fnExactSameBoxRow.holds Try.pinned (OpenSpec.ofChange fnExactSameBoxWrong)

/-- 'laws.FnExactFillsLine': WHATEVER THE INPUT: true; the input reads as it did. -/
def fnExactFillsLineSpec : ChangeSpec := { name := "fnExactFillsLine", fn := fun _ => fun
  | [d1, d2, d3, d4] => { results := [.lit (.bool true)], args := [d1, d2, d3, d4] }
  | _ => none }
def fnExactFillsLineRow : OpenClaim := { program := "ytnlmbkndjhnmhaa", sum := "0adbf5d9e518d6a8954ee32a73e3d6d59e5c3fdeff7a6ae326669897a3d03fab", func := "loop.example/g00972/laws.FnExactFillsLine", spec := "fnExactFillsLine", apart := false }
def FnExactFillsLineSaid : Prop := fnExactFillsLineRow.holds Try.pinned (OpenSpec.ofChange fnExactFillsLineSpec)

/-- ITS FALSE NEIGHBOUR: 'it returns false'. Refute it at one input. -/
def fnExactFillsLineWrong : ChangeSpec := { name := "fnExactFillsLine", fn := fun _ => fun
  | [d1, d2, d3, d4] => { results := [.lit (.bool false)], args := [d1, d2, d3, d4] }
  | _ => none }
def FnExactFillsLineWrongFalsely : Prop := fnExactFillsLineRow.holds Try.pinned (OpenSpec.ofChange fnExactFillsLineWrong)

/-- 'laws.FnExactSpreadOf': WHATEVER THE INPUT: true; the input reads as it did. -/
def fnExactSpreadOfSpec : ChangeSpec := { name := "fnExactSpreadOf", fn := fun _ => fun
  | [d1, d2] => { results := [.lit (.bool true)], args := [d1, d2] }
  | _ => none }
def fnExactSpreadOfRow : OpenClaim := { program := "ytnlmbkndjhnmhaa", sum := "0adbf5d9e518d6a8954ee32a73e3d6d59e5c3fdeff7a6ae326669897a3d03fab", func := "loop.example/g00972/laws.FnExactSpreadOf", spec := "fnExactSpreadOf", apart := false }
def FnExactSpreadOfSaid : Prop := fnExactSpreadOfRow.holds Try.pinned (OpenSpec.ofChange fnExactSpreadOfSpec)

/-- ITS FALSE NEIGHBOUR: 'it returns false'. Refute it at one input. -/
def fnExactSpreadOfWrong : ChangeSpec := { name := "fnExactSpreadOf", fn := fun _ => fun
  | [d1, d2] => { results := [.lit (.bool false)], args := [d1, d2] }
  | _ => none }
def FnExactSpreadOfWrongFalsely : Prop := fnExactSpreadOfRow.holds Try.pinned (OpenSpec.ofChange fnExactSpreadOfWrong)

/-- 'laws.FnExactSnapAll': WHATEVER THE INPUT: true; the input reads as it did. -/
def fnExactSnapAllSpec : ChangeSpec := { name := "fnExactSnapAll", fn := fun _ => fun
  | [d1, d2] => { results := [.lit (.bool true)], args := [d1, d2] }
  | _ => none }
def fnExactSnapAllRow : OpenClaim := { program := "ytnlmbkndjhnmhaa", sum := "0adbf5d9e518d6a8954ee32a73e3d6d59e5c3fdeff7a6ae326669897a3d03fab", func := "loop.example/g00972/laws.FnExactSnapAll", spec := "fnExactSnapAll", apart := false }
def FnExactSnapAllSaid : Prop := fnExactSnapAllRow.holds Try.pinned (OpenSpec.ofChange fnExactSnapAllSpec)

/-- ITS FALSE NEIGHBOUR: 'it returns false'. Refute it at one input. -/
def fnExactSnapAllWrong : ChangeSpec := { name := "fnExactSnapAll", fn := fun _ => fun
  | [d1, d2] => { results := [.lit (.bool false)], args := [d1, d2] }
  | _ => none }
def FnExactSnapAllWrongFalsely : Prop := fnExactSnapAllRow.holds Try.pinned (OpenSpec.ofChange fnExactSnapAllWrong)

/-- 'laws.FnExactInsetOf': WHATEVER THE INPUT: true; the input reads as it did. -/
def fnExactInsetOfSpec : ChangeSpec := { name := "fnExactInsetOf", fn := fun _ => fun
  | [d1, d2, d3, d4] => { results := [.lit (.bool true)], args := [d1, d2, d3, d4] }
  | _ => none }
def fnExactInsetOfRow : OpenClaim := { program := "ytnlmbkndjhnmhaa", sum := "0adbf5d9e518d6a8954ee32a73e3d6d59e5c3fdeff7a6ae326669897a3d03fab", func := "loop.example/g00972/laws.FnExactInsetOf", spec := "fnExactInsetOf", apart := false }
def FnExactInsetOfSaid : Prop := fnExactInsetOfRow.holds Try.pinned (OpenSpec.ofChange fnExactInsetOfSpec)

/-- ITS FALSE NEIGHBOUR: 'it returns false'. Refute it at one input. -/
def fnExactInsetOfWrong : ChangeSpec := { name := "fnExactInsetOf", fn := fun _ => fun
  | [d1, d2, d3, d4] => { results := [.lit (.bool false)], args := [d1, d2, d3, d4] }
  | _ => none }
def FnExactInsetOfWrongFalsely : Prop := fnExactInsetOfRow.holds Try.pinned (OpenSpec.ofChange fnExactInsetOfWrong)

/-- 'laws.FnExactFrameInBounds': WHATEVER THE INPUT: true; the input reads as it did. -/
def fnExactFrameInBoundsSpec : ChangeSpec := { name := "fnExactFrameInBounds", fn := fun _ => fun
  | [d1, d2, d3, d4] => { results := [.lit (.bool true)], args := [d1, d2, d3, d4] }
  | _ => none }
def fnExactFrameInBoundsRow : OpenClaim := { program := "ytnlmbkndjhnmhaa", sum := "0adbf5d9e518d6a8954ee32a73e3d6d59e5c3fdeff7a6ae326669897a3d03fab", func := "loop.example/g00972/laws.FnExactFrameInBounds", spec := "fnExactFrameInBounds", apart := false }
def FnExactFrameInBoundsSaid : Prop := fnExactFrameInBoundsRow.holds Try.pinned (OpenSpec.ofChange fnExactFrameInBoundsSpec)

/-- ITS FALSE NEIGHBOUR: 'it returns false'. Refute it at one input. -/
def fnExactFrameInBoundsWrong : ChangeSpec := { name := "fnExactFrameInBounds", fn := fun _ => fun
  | [d1, d2, d3, d4] => { results := [.lit (.bool false)], args := [d1, d2, d3, d4] }
  | _ => none }
def FnExactFrameInBoundsWrongFalsely : Prop := fnExactFrameInBoundsRow.holds Try.pinned (OpenSpec.ofChange fnExactFrameInBoundsWrong)

/-- 'laws.FnExactRootSpaces': WHATEVER THE INPUT: true; the input reads as it did. -/
def fnExactRootSpacesSpec : ChangeSpec := { name := "fnExactRootSpaces", fn := fun _ => fun
  | [d1, d2, d3] => { results := [.lit (.bool true)], args := [d1, d2, d3] }
  | _ => none }
def fnExactRootSpacesRow : OpenClaim := { program := "ytnlmbkndjhnmhaa", sum := "0adbf5d9e518d6a8954ee32a73e3d6d59e5c3fdeff7a6ae326669897a3d03fab", func := "loop.example/g00972/laws.FnExactRootSpaces", spec := "fnExactRootSpaces", apart := false }
def FnExactRootSpacesSaid : Prop := fnExactRootSpacesRow.holds Try.pinned (OpenSpec.ofChange fnExactRootSpacesSpec)

/-- ITS FALSE NEIGHBOUR: 'it returns false'. Refute it at one input. -/
def fnExactRootSpacesWrong : ChangeSpec := { name := "fnExactRootSpaces", fn := fun _ => fun
  | [d1, d2, d3] => { results := [.lit (.bool false)], args := [d1, d2, d3] }
  | _ => none }
def FnExactRootSpacesWrongFalsely : Prop := fnExactRootSpacesRow.holds Try.pinned (OpenSpec.ofChange fnExactRootSpacesWrong)

/-- 'laws.FnExactMemoFor': WHATEVER THE INPUT: true; the input reads as it did. -/
def fnExactMemoForSpec : ChangeSpec := { name := "fnExactMemoFor", fn := fun _ => fun
  | [d1, d2, d3, d4, d5] => { results := [.lit (.bool true)], args := [d1, d2, d3, d4, d5] }
  | _ => none }
def fnExactMemoForRow : OpenClaim := { program := "ytnlmbkndjhnmhaa", sum := "0adbf5d9e518d6a8954ee32a73e3d6d59e5c3fdeff7a6ae326669897a3d03fab", func := "loop.example/g00972/laws.FnExactMemoFor", spec := "fnExactMemoFor", apart := false }
def FnExactMemoForSaid : Prop := fnExactMemoForRow.holds Try.pinned (OpenSpec.ofChange fnExactMemoForSpec)

/-- ITS FALSE NEIGHBOUR: 'it returns false'. Refute it at one input. -/
def fnExactMemoForWrong : ChangeSpec := { name := "fnExactMemoFor", fn := fun _ => fun
  | [d1, d2, d3, d4, d5] => { results := [.lit (.bool false)], args := [d1, d2, d3, d4, d5] }
  | _ => none }
def FnExactMemoForWrongFalsely : Prop := fnExactMemoForRow.holds Try.pinned (OpenSpec.ofChange fnExactMemoForWrong)

/-- 'laws.FnExactCanFlex': WHATEVER THE INPUT: true; the input reads as it did. -/
def fnExactCanFlexSpec : ChangeSpec := { name := "fnExactCanFlex", fn := fun _ => fun
  | [d1, d2, d3] => { results := [.lit (.bool true)], args := [d1, d2, d3] }
  | _ => none }
def fnExactCanFlexRow : OpenClaim := { program := "ytnlmbkndjhnmhaa", sum := "0adbf5d9e518d6a8954ee32a73e3d6d59e5c3fdeff7a6ae326669897a3d03fab", func := "loop.example/g00972/laws.FnExactCanFlex", spec := "fnExactCanFlex", apart := false }
def FnExactCanFlexSaid : Prop := fnExactCanFlexRow.holds Try.pinned (OpenSpec.ofChange fnExactCanFlexSpec)

/-- ITS FALSE NEIGHBOUR: 'it returns false'. Refute it at one input. -/
def fnExactCanFlexWrong : ChangeSpec := { name := "fnExactCanFlex", fn := fun _ => fun
  | [d1, d2, d3] => { results := [.lit (.bool false)], args := [d1, d2, d3] }
  | _ => none }
def FnExactCanFlexWrongFalsely : Prop := fnExactCanFlexRow.holds Try.pinned (OpenSpec.ofChange fnExactCanFlexWrong)

/-- 'laws.FnSeams': WHATEVER THE INPUT: true; the input reads as it did. -/
def fnSeamsSpec : ChangeSpec := { name := "fnSeams", fn := fun _ => fun
  | [d] => { results := [.lit (.bool true)], args := [d] }
  | _ => none }
def fnSeamsRow : OpenClaim := { program := "ytnlmbkndjhnmhaa", sum := "0adbf5d9e518d6a8954ee32a73e3d6d59e5c3fdeff7a6ae326669897a3d03fab", func := "loop.example/g00972/laws.FnSeams", spec := "fnSeams", apart := false }
def FnSeamsSaid : Prop := fnSeamsRow.holds Try.pinned (OpenSpec.ofChange fnSeamsSpec)

/-- ITS FALSE NEIGHBOUR: 'it returns false'. Refute it at one input. -/
def fnSeamsWrong : ChangeSpec := { name := "fnSeams", fn := fun _ => fun
  | [d] => { results := [.lit (.bool false)], args := [d] }
  | _ => none }
def FnSeamsWrongFalsely : Prop := fnSeamsRow.holds Try.pinned (OpenSpec.ofChange fnSeamsWrong)

/- THE SECOND FORM. 'bulk': how many values and letters a reading holds, each counted each time it is reached (what is shared counts as often as it is met; a slice's spare places count too). A statement '..UptoSaid' is the law's where the arguments, and the package variables that the reading takes, are together of bulk at most 1048576: NARROWER than '..Said'. Prove '..Said' where nothing that the law and all that it calls make is longer than what came in: it says more and counts as full. Else prove '..UptoSaid'. A law counts once. -/
mutual
def uptoBulk {H : Type} : DataW H → Nat
  | .lit (.string bytes) => bytes.length + 1
  | .lit _ => 1
  | .nil => 1
  | .ptr d => uptoBulk d + 1
  | .slice elems spare => uptoBulkAll elems + uptoBulkAll spare + 1
  | .agg parts => uptoBulkAll parts + 1
  | .iface _ d => uptoBulk d + 1
  | .map entries => uptoBulkEntries entries + 1
  | .held _ => 1
def uptoBulkAll {H : Type} : List (DataW H) → Nat
  | [] => 0
  | d :: r => uptoBulk d + uptoBulkAll r
def uptoBulkEntries {H : Type} : List (Lit × DataW H) → Nat
  | [] => 0
  | x :: r => uptoBulkEntry x + uptoBulkEntries r
def uptoBulkEntry {H : Type} : Lit × DataW H → Nat
  | (.string bytes, d) => bytes.length + uptoBulk d + 1
  | (_, d) => uptoBulk d + 1
 end
def uptoSmall : (H : Type) → List (DataW H) → Bool := fun _ ds => decide (uptoBulkAll ds ≤ 1048576)
def OpenSpec.upto (s : _root_.Go.ChangeSpec) : _root_.Go.OpenSpec := { _root_.Go.OpenSpec.ofChange s with cond := some uptoSmall }

/-- 'laws.FnExactPadBox', WHERE WHAT IT READS IS OF BULK AT MOST 1048576: true; the input reads as it did. -/
def fnExactPadBoxUptoRow : OpenClaim := { program := "ytnlmbkndjhnmhaa", sum := "0adbf5d9e518d6a8954ee32a73e3d6d59e5c3fdeff7a6ae326669897a3d03fab", func := "loop.example/g00972/laws.FnExactPadBox", spec := "fnExactPadBox", apart := false, narrowed := true }
def FnExactPadBoxUptoSaid : Prop := fnExactPadBoxUptoRow.holds Try.pinned (OpenSpec.upto fnExactPadBoxSpec)

/-- 'laws.FnExactSameBox', WHERE WHAT IT READS IS OF BULK AT MOST 1048576: true; the input reads as it did. -/
def fnExactSameBoxUptoRow : OpenClaim := { program := "ytnlmbkndjhnmhaa", sum := "0adbf5d9e518d6a8954ee32a73e3d6d59e5c3fdeff7a6ae326669897a3d03fab", func := "loop.example/g00972/laws.FnExactSameBox", spec := "fnExactSameBox", apart := false, narrowed := true }
def FnExactSameBoxUptoSaid : Prop := fnExactSameBoxUptoRow.holds Try.pinned (OpenSpec.upto fnExactSameBoxSpec)

/-- 'laws.FnExactFillsLine', WHERE WHAT IT READS IS OF BULK AT MOST 1048576: true; the input reads as it did. -/
def fnExactFillsLineUptoRow : OpenClaim := { program := "ytnlmbkndjhnmhaa", sum := "0adbf5d9e518d6a8954ee32a73e3d6d59e5c3fdeff7a6ae326669897a3d03fab", func := "loop.example/g00972/laws.FnExactFillsLine", spec := "fnExactFillsLine", apart := false, narrowed := true }
def FnExactFillsLineUptoSaid : Prop := fnExactFillsLineUptoRow.holds Try.pinned (OpenSpec.upto fnExactFillsLineSpec)

/-- 'laws.FnExactSpreadOf', WHERE WHAT IT READS IS OF BULK AT MOST 1048576: true; the input reads as it did. -/
def fnExactSpreadOfUptoRow : OpenClaim := { program := "ytnlmbkndjhnmhaa", sum := "0adbf5d9e518d6a8954ee32a73e3d6d59e5c3fdeff7a6ae326669897a3d03fab", func := "loop.example/g00972/laws.FnExactSpreadOf", spec := "fnExactSpreadOf", apart := false, narrowed := true }
def FnExactSpreadOfUptoSaid : Prop := fnExactSpreadOfUptoRow.holds Try.pinned (OpenSpec.upto fnExactSpreadOfSpec)

/-- 'laws.FnExactSnapAll', WHERE WHAT IT READS IS OF BULK AT MOST 1048576: true; the input reads as it did. -/
def fnExactSnapAllUptoRow : OpenClaim := { program := "ytnlmbkndjhnmhaa", sum := "0adbf5d9e518d6a8954ee32a73e3d6d59e5c3fdeff7a6ae326669897a3d03fab", func := "loop.example/g00972/laws.FnExactSnapAll", spec := "fnExactSnapAll", apart := false, narrowed := true }
def FnExactSnapAllUptoSaid : Prop := fnExactSnapAllUptoRow.holds Try.pinned (OpenSpec.upto fnExactSnapAllSpec)

/-- 'laws.FnExactInsetOf', WHERE WHAT IT READS IS OF BULK AT MOST 1048576: true; the input reads as it did. -/
def fnExactInsetOfUptoRow : OpenClaim := { program := "ytnlmbkndjhnmhaa", sum := "0adbf5d9e518d6a8954ee32a73e3d6d59e5c3fdeff7a6ae326669897a3d03fab", func := "loop.example/g00972/laws.FnExactInsetOf", spec := "fnExactInsetOf", apart := false, narrowed := true }
def FnExactInsetOfUptoSaid : Prop := fnExactInsetOfUptoRow.holds Try.pinned (OpenSpec.upto fnExactInsetOfSpec)

/-- 'laws.FnExactFrameInBounds', WHERE WHAT IT READS IS OF BULK AT MOST 1048576: true; the input reads as it did. -/
def fnExactFrameInBoundsUptoRow : OpenClaim := { program := "ytnlmbkndjhnmhaa", sum := "0adbf5d9e518d6a8954ee32a73e3d6d59e5c3fdeff7a6ae326669897a3d03fab", func := "loop.example/g00972/laws.FnExactFrameInBounds", spec := "fnExactFrameInBounds", apart := false, narrowed := true }
def FnExactFrameInBoundsUptoSaid : Prop := fnExactFrameInBoundsUptoRow.holds Try.pinned (OpenSpec.upto fnExactFrameInBoundsSpec)

/-- 'laws.FnExactRootSpaces', WHERE WHAT IT READS IS OF BULK AT MOST 1048576: true; the input reads as it did. -/
def fnExactRootSpacesUptoRow : OpenClaim := { program := "ytnlmbkndjhnmhaa", sum := "0adbf5d9e518d6a8954ee32a73e3d6d59e5c3fdeff7a6ae326669897a3d03fab", func := "loop.example/g00972/laws.FnExactRootSpaces", spec := "fnExactRootSpaces", apart := false, narrowed := true }
def FnExactRootSpacesUptoSaid : Prop := fnExactRootSpacesUptoRow.holds Try.pinned (OpenSpec.upto fnExactRootSpacesSpec)

/-- 'laws.FnExactMemoFor', WHERE WHAT IT READS IS OF BULK AT MOST 1048576: true; the input reads as it did. -/
def fnExactMemoForUptoRow : OpenClaim := { program := "ytnlmbkndjhnmhaa", sum := "0adbf5d9e518d6a8954ee32a73e3d6d59e5c3fdeff7a6ae326669897a3d03fab", func := "loop.example/g00972/laws.FnExactMemoFor", spec := "fnExactMemoFor", apart := false, narrowed := true }
def FnExactMemoForUptoSaid : Prop := fnExactMemoForUptoRow.holds Try.pinned (OpenSpec.upto fnExactMemoForSpec)

/-- 'laws.FnExactCanFlex', WHERE WHAT IT READS IS OF BULK AT MOST 1048576: true; the input reads as it did. -/
def fnExactCanFlexUptoRow : OpenClaim := { program := "ytnlmbkndjhnmhaa", sum := "0adbf5d9e518d6a8954ee32a73e3d6d59e5c3fdeff7a6ae326669897a3d03fab", func := "loop.example/g00972/laws.FnExactCanFlex", spec := "fnExactCanFlex", apart := false, narrowed := true }
def FnExactCanFlexUptoSaid : Prop := fnExactCanFlexUptoRow.holds Try.pinned (OpenSpec.upto fnExactCanFlexSpec)

/-- 'laws.FnSeams', WHERE WHAT IT READS IS OF BULK AT MOST 1048576: true; the input reads as it did. -/
def fnSeamsUptoRow : OpenClaim := { program := "ytnlmbkndjhnmhaa", sum := "0adbf5d9e518d6a8954ee32a73e3d6d59e5c3fdeff7a6ae326669897a3d03fab", func := "loop.example/g00972/laws.FnSeams", spec := "fnSeams", apart := false, narrowed := true }
def FnSeamsUptoSaid : Prop := fnSeamsUptoRow.holds Try.pinned (OpenSpec.upto fnSeamsSpec)

end Rows
end Go.Proofs.Ytnlmbkndjhnmhaa
