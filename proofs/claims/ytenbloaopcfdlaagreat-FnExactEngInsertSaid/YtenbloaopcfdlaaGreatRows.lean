/-
  No cell of these rows narrows 'for every input' (looked for: loops, veiled, ifaces, maps, wideKeys, modest, calm, conditions, laid).
  DERIVED. THE GIVEN ROWS OF THIS SEAT. 6 by the template 'for every input the law returns true; each argument reads behind the call as it read before'; 0 by the template 'total and deterministic' (their statements: YtenbloaopcfdlaaGreatTotals.lean).
  GIVEN WITH THE SEED: the statements are not yours to turn. If you find one false, say at which input.
  Laid BY PROGRAM, IN A SANDBOX (cutbox-rows.mjs): the forced cells as the released guide's own fill.sh prints them over the translation 1bb3fe17eaccaa57… (all of the seat's roots in one cut). By AI agents, Wed Nov 11 2026. No macro, syntax, notation, axiom, sorry.
-/
import Derived.Test.YtenbloaopcfdlaaGreatChecked
import GoSem.Claim
import GoSem.ClaimJoined
import GoSem.ClaimMapViews
import Derived.JoinedTies
import Derived.KernelRfl
namespace Go.Proofs.YtenbloaopcfdlaaGreat
/- THE CELL 'sum', in the pinned program and in every row, IS THE sha256 OF THE DUMP (.gsa) THAT YtenbloaopcfdlaaGreatProg.lean LOADS. Nothing in Lean hashes anything: it is a label: what it is worth is what the hold of that sum in a sandbox is worth. -/
noncomputable def Tryz.pinned : Pinned := { name := "ytenbloaopcfdlaagreat", sum := "1bb3fe17eaccaa572eae5adf2387a8f581d848130f2a19a09e8d438e9ce10fc5", checked := Tryz.checked }
namespace Rows
def none {H : Type} : Left H := { results := [], args := [] }

/-- 'laws.FnExactEngAdd': WHATEVER THE INPUT: true; the input reads as it did. -/
def fnExactEngAddSpec : ChangeSpec := { name := "fnExactEngAdd", fn := fun _ => fun
  | [d1, d2] => { results := [.lit (.bool true)], args := [d1, d2] }
  | _ => none }
def fnExactEngAddRow : OpenClaim := { program := "ytenbloaopcfdlaagreat", sum := "1bb3fe17eaccaa572eae5adf2387a8f581d848130f2a19a09e8d438e9ce10fc5", func := "loop.example/g00972/laws.FnExactEngAdd", spec := "fnExactEngAdd", apart := false }
def FnExactEngAddSaid : Prop := fnExactEngAddRow.holds Tryz.pinned (OpenSpec.ofChange fnExactEngAddSpec)

/-- ITS FALSE NEIGHBOUR: 'it returns false'. Refute it at one input. -/
def fnExactEngAddWrong : ChangeSpec := { name := "fnExactEngAdd", fn := fun _ => fun
  | [d1, d2] => { results := [.lit (.bool false)], args := [d1, d2] }
  | _ => none }
def FnExactEngAddWrongFalsely : Prop := fnExactEngAddRow.holds Tryz.pinned (OpenSpec.ofChange fnExactEngAddWrong)

/-- 'laws.FnExactEngDirty': WHATEVER THE INPUT: true; the input reads as it did. -/
def fnExactEngDirtySpec : ChangeSpec := { name := "fnExactEngDirty", fn := fun _ => fun
  | [d1, d2] => { results := [.lit (.bool true)], args := [d1, d2] }
  | _ => none }
def fnExactEngDirtyRow : OpenClaim := { program := "ytenbloaopcfdlaagreat", sum := "1bb3fe17eaccaa572eae5adf2387a8f581d848130f2a19a09e8d438e9ce10fc5", func := "loop.example/g00972/laws.FnExactEngDirty", spec := "fnExactEngDirty", apart := false }
def FnExactEngDirtySaid : Prop := fnExactEngDirtyRow.holds Tryz.pinned (OpenSpec.ofChange fnExactEngDirtySpec)

/-- ITS FALSE NEIGHBOUR: 'it returns false'. Refute it at one input. -/
def fnExactEngDirtyWrong : ChangeSpec := { name := "fnExactEngDirty", fn := fun _ => fun
  | [d1, d2] => { results := [.lit (.bool false)], args := [d1, d2] }
  | _ => none }
def FnExactEngDirtyWrongFalsely : Prop := fnExactEngDirtyRow.holds Tryz.pinned (OpenSpec.ofChange fnExactEngDirtyWrong)

/-- 'laws.FnExactEngStyle': WHATEVER THE INPUT: true; the input reads as it did. -/
def fnExactEngStyleSpec : ChangeSpec := { name := "fnExactEngStyle", fn := fun _ => fun
  | [d1, d2, d3] => { results := [.lit (.bool true)], args := [d1, d2, d3] }
  | _ => none }
def fnExactEngStyleRow : OpenClaim := { program := "ytenbloaopcfdlaagreat", sum := "1bb3fe17eaccaa572eae5adf2387a8f581d848130f2a19a09e8d438e9ce10fc5", func := "loop.example/g00972/laws.FnExactEngStyle", spec := "fnExactEngStyle", apart := false }
def FnExactEngStyleSaid : Prop := fnExactEngStyleRow.holds Tryz.pinned (OpenSpec.ofChange fnExactEngStyleSpec)

/-- ITS FALSE NEIGHBOUR: 'it returns false'. Refute it at one input. -/
def fnExactEngStyleWrong : ChangeSpec := { name := "fnExactEngStyle", fn := fun _ => fun
  | [d1, d2, d3] => { results := [.lit (.bool false)], args := [d1, d2, d3] }
  | _ => none }
def FnExactEngStyleWrongFalsely : Prop := fnExactEngStyleRow.holds Tryz.pinned (OpenSpec.ofChange fnExactEngStyleWrong)

/-- 'laws.FnExactEngTable': WHATEVER THE INPUT: true; the input reads as it did. -/
def fnExactEngTableSpec : ChangeSpec := { name := "fnExactEngTable", fn := fun _ => fun
  | [d1, d2, d3] => { results := [.lit (.bool true)], args := [d1, d2, d3] }
  | _ => none }
def fnExactEngTableRow : OpenClaim := { program := "ytenbloaopcfdlaagreat", sum := "1bb3fe17eaccaa572eae5adf2387a8f581d848130f2a19a09e8d438e9ce10fc5", func := "loop.example/g00972/laws.FnExactEngTable", spec := "fnExactEngTable", apart := false }
def FnExactEngTableSaid : Prop := fnExactEngTableRow.holds Tryz.pinned (OpenSpec.ofChange fnExactEngTableSpec)

/-- ITS FALSE NEIGHBOUR: 'it returns false'. Refute it at one input. -/
def fnExactEngTableWrong : ChangeSpec := { name := "fnExactEngTable", fn := fun _ => fun
  | [d1, d2, d3] => { results := [.lit (.bool false)], args := [d1, d2, d3] }
  | _ => none }
def FnExactEngTableWrongFalsely : Prop := fnExactEngTableRow.holds Tryz.pinned (OpenSpec.ofChange fnExactEngTableWrong)

/-- 'laws.FnExactEngInsert': WHATEVER THE INPUT: true; the input reads as it did. -/
def fnExactEngInsertSpec : ChangeSpec := { name := "fnExactEngInsert", fn := fun _ => fun
  | [d1, d2, d3, d4] => { results := [.lit (.bool true)], args := [d1, d2, d3, d4] }
  | _ => none }
def fnExactEngInsertRow : OpenClaim := { program := "ytenbloaopcfdlaagreat", sum := "1bb3fe17eaccaa572eae5adf2387a8f581d848130f2a19a09e8d438e9ce10fc5", func := "loop.example/g00972/laws.FnExactEngInsert", spec := "fnExactEngInsert", apart := false }
def FnExactEngInsertSaid : Prop := fnExactEngInsertRow.holds Tryz.pinned (OpenSpec.ofChange fnExactEngInsertSpec)

/-- ITS FALSE NEIGHBOUR: 'it returns false'. Refute it at one input. -/
def fnExactEngInsertWrong : ChangeSpec := { name := "fnExactEngInsert", fn := fun _ => fun
  | [d1, d2, d3, d4] => { results := [.lit (.bool false)], args := [d1, d2, d3, d4] }
  | _ => none }
def FnExactEngInsertWrongFalsely : Prop := fnExactEngInsertRow.holds Tryz.pinned (OpenSpec.ofChange fnExactEngInsertWrong)

/-- 'laws.FnExactEngRemove': WHATEVER THE INPUT: true; the input reads as it did. -/
def fnExactEngRemoveSpec : ChangeSpec := { name := "fnExactEngRemove", fn := fun _ => fun
  | [d1, d2, d3] => { results := [.lit (.bool true)], args := [d1, d2, d3] }
  | _ => none }
def fnExactEngRemoveRow : OpenClaim := { program := "ytenbloaopcfdlaagreat", sum := "1bb3fe17eaccaa572eae5adf2387a8f581d848130f2a19a09e8d438e9ce10fc5", func := "loop.example/g00972/laws.FnExactEngRemove", spec := "fnExactEngRemove", apart := false }
def FnExactEngRemoveSaid : Prop := fnExactEngRemoveRow.holds Tryz.pinned (OpenSpec.ofChange fnExactEngRemoveSpec)

/-- ITS FALSE NEIGHBOUR: 'it returns false'. Refute it at one input. -/
def fnExactEngRemoveWrong : ChangeSpec := { name := "fnExactEngRemove", fn := fun _ => fun
  | [d1, d2, d3] => { results := [.lit (.bool false)], args := [d1, d2, d3] }
  | _ => none }
def FnExactEngRemoveWrongFalsely : Prop := fnExactEngRemoveRow.holds Tryz.pinned (OpenSpec.ofChange fnExactEngRemoveWrong)

/- THE SECOND FORM. 'bulk': how many values and letters a reading holds, each counted each time it is reached (what is shared counts as often as it is met; a slice's spare places count too). A statement '..UptoSaid' is the law's where the arguments, and the package variables that the reading takes, are together of bulk at most 1048576: NARROWER than '..Said'. Prove '..Said' where nothing that the law and all that it calls make is longer than what came in: it says more and counts as full. Else prove '..UptoSaid'. A law counts once. -/
mutual
def uptoBulk {H : Type} : DataW H → Nat
  | .lit (.string bytes) => bytes.length + 1
  | .lit _ => 1
  | .nil => 1
  | .ptr d => uptoBulk d + 1
  | .slice elems spare => uptoBulkAll elems + uptoBulkAll spare + 1
  | .agg parts => uptoBulkAll parts + 1
  | .iface _ d => uptoBulk d + 1
  | .map entries => uptoBulkEntries entries + 1
  | .held _ => 1
def uptoBulkAll {H : Type} : List (DataW H) → Nat
  | [] => 0
  | d :: r => uptoBulk d + uptoBulkAll r
def uptoBulkEntries {H : Type} : List (Lit × DataW H) → Nat
  | [] => 0
  | x :: r => uptoBulkEntry x + uptoBulkEntries r
def uptoBulkEntry {H : Type} : Lit × DataW H → Nat
  | (.string bytes, d) => bytes.length + uptoBulk d + 1
  | (_, d) => uptoBulk d + 1
 end
def uptoSmall : (H : Type) → List (DataW H) → Bool := fun _ ds => decide (uptoBulkAll ds ≤ 1048576)
def OpenSpec.upto (s : _root_.Go.ChangeSpec) : _root_.Go.OpenSpec := { _root_.Go.OpenSpec.ofChange s with cond := some uptoSmall }

/-- 'laws.FnExactEngAdd', WHERE WHAT IT READS IS OF BULK AT MOST 1048576: true; the input reads as it did. -/
def fnExactEngAddUptoRow : OpenClaim := { program := "ytenbloaopcfdlaagreat", sum := "1bb3fe17eaccaa572eae5adf2387a8f581d848130f2a19a09e8d438e9ce10fc5", func := "loop.example/g00972/laws.FnExactEngAdd", spec := "fnExactEngAdd", apart := false, narrowed := true }
def FnExactEngAddUptoSaid : Prop := fnExactEngAddUptoRow.holds Tryz.pinned (OpenSpec.upto fnExactEngAddSpec)

/-- 'laws.FnExactEngDirty', WHERE WHAT IT READS IS OF BULK AT MOST 1048576: true; the input reads as it did. -/
def fnExactEngDirtyUptoRow : OpenClaim := { program := "ytenbloaopcfdlaagreat", sum := "1bb3fe17eaccaa572eae5adf2387a8f581d848130f2a19a09e8d438e9ce10fc5", func := "loop.example/g00972/laws.FnExactEngDirty", spec := "fnExactEngDirty", apart := false, narrowed := true }
def FnExactEngDirtyUptoSaid : Prop := fnExactEngDirtyUptoRow.holds Tryz.pinned (OpenSpec.upto fnExactEngDirtySpec)

/-- 'laws.FnExactEngStyle', WHERE WHAT IT READS IS OF BULK AT MOST 1048576: true; the input reads as it did. -/
def fnExactEngStyleUptoRow : OpenClaim := { program := "ytenbloaopcfdlaagreat", sum := "1bb3fe17eaccaa572eae5adf2387a8f581d848130f2a19a09e8d438e9ce10fc5", func := "loop.example/g00972/laws.FnExactEngStyle", spec := "fnExactEngStyle", apart := false, narrowed := true }
def FnExactEngStyleUptoSaid : Prop := fnExactEngStyleUptoRow.holds Tryz.pinned (OpenSpec.upto fnExactEngStyleSpec)

/-- 'laws.FnExactEngTable', WHERE WHAT IT READS IS OF BULK AT MOST 1048576: true; the input reads as it did. -/
def fnExactEngTableUptoRow : OpenClaim := { program := "ytenbloaopcfdlaagreat", sum := "1bb3fe17eaccaa572eae5adf2387a8f581d848130f2a19a09e8d438e9ce10fc5", func := "loop.example/g00972/laws.FnExactEngTable", spec := "fnExactEngTable", apart := false, narrowed := true }
def FnExactEngTableUptoSaid : Prop := fnExactEngTableUptoRow.holds Tryz.pinned (OpenSpec.upto fnExactEngTableSpec)

/-- 'laws.FnExactEngInsert', WHERE WHAT IT READS IS OF BULK AT MOST 1048576: true; the input reads as it did. -/
def fnExactEngInsertUptoRow : OpenClaim := { program := "ytenbloaopcfdlaagreat", sum := "1bb3fe17eaccaa572eae5adf2387a8f581d848130f2a19a09e8d438e9ce10fc5", func := "loop.example/g00972/laws.FnExactEngInsert", spec := "fnExactEngInsert", apart := false, narrowed := true }
def FnExactEngInsertUptoSaid : Prop := fnExactEngInsertUptoRow.holds Tryz.pinned (OpenSpec.upto fnExactEngInsertSpec)

/-- 'laws.FnExactEngRemove', WHERE WHAT IT READS IS OF BULK AT MOST 1048576: true; the input reads as it did. -/
def fnExactEngRemoveUptoRow : OpenClaim := { program := "ytenbloaopcfdlaagreat", sum := "1bb3fe17eaccaa572eae5adf2387a8f581d848130f2a19a09e8d438e9ce10fc5", func := "loop.example/g00972/laws.FnExactEngRemove", spec := "fnExactEngRemove", apart := false, narrowed := true }
def FnExactEngRemoveUptoSaid : Prop := fnExactEngRemoveUptoRow.holds Tryz.pinned (OpenSpec.upto fnExactEngRemoveSpec)

end Rows
end Go.Proofs.YtenbloaopcfdlaaGreat
