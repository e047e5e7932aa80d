/-
  No cell of these rows narrows 'for every input' (looked for: loops, veiled, ifaces, maps, wideKeys, modest, calm, conditions, laid).
  DERIVED. THE GIVEN ROWS OF THIS SEAT. 4 by the template 'for every input the law returns true; each argument reads behind the call as it read before'; 0 by the template 'total and deterministic' (their statements: YtbnplcingdgaaaaGreatTotals.lean).
  GIVEN WITH THE SEED: the statements are not yours to turn. If you find one false, say at which input.
  Laid BY PROGRAM, IN A SANDBOX (cutbox-rows.mjs): the forced cells as the released guide's own fill.sh prints them over the translation bfdda85f90c1c28e… (all of the seat's roots in one cut). By AI agents, Wed Nov 11 2026. No macro, syntax, notation, axiom, sorry.
-/
import Derived.Test.YtbnplcingdgaaaaGreatChecked
import GoSem.Claim
import GoSem.ClaimJoined
import GoSem.ClaimMapViews
import Derived.JoinedTies
import Derived.KernelRfl
namespace Go.Proofs.YtbnplcingdgaaaaGreat
/- THE CELL 'sum', in the pinned program and in every row, IS THE sha256 OF THE DUMP (.gsa) THAT YtbnplcingdgaaaaGreatProg.lean LOADS. Nothing in Lean hashes anything: it is a label: what it is worth is what the hold of that sum in a sandbox is worth. -/
noncomputable def Tryz.pinned : Pinned := { name := "ytbnplcingdgaaaagreat", sum := "bfdda85f90c1c28ee0e15341a028c20785521ce68b0a730c5cac96c845f546b8", checked := Tryz.checked }
namespace Rows
def none {H : Type} : Left H := { results := [], args := [] }

/-- 'laws.FnColumn': WHATEVER THE INPUT: true; the input reads as it did. -/
def fnColumnSpec : ChangeSpec := { name := "fnColumn", fn := fun _ => fun
  | [d] => { results := [.lit (.bool true)], args := [d] }
  | _ => none }
def fnColumnRow : OpenClaim := { program := "ytbnplcingdgaaaagreat", sum := "bfdda85f90c1c28ee0e15341a028c20785521ce68b0a730c5cac96c845f546b8", func := "loop.example/g00972/laws.FnColumn", spec := "fnColumn", inPlace := ["internal/reflectlite.ValueOf", "internal/reflectlite.Swapper", "(internal/reflectlite.Value).Len"], unfollowed := true, recurses := true, apart := false }
def FnColumnSaid : Prop := fnColumnRow.holds Tryz.pinned (OpenSpec.ofChange fnColumnSpec)

/-- ITS FALSE NEIGHBOUR: 'it returns false'. Refute it at one input. -/
def fnColumnWrong : ChangeSpec := { name := "fnColumn", fn := fun _ => fun
  | [d] => { results := [.lit (.bool false)], args := [d] }
  | _ => none }
def FnColumnWrongFalsely : Prop := fnColumnRow.holds Tryz.pinned (OpenSpec.ofChange fnColumnWrong)

/-- 'laws.FnOrdered': WHATEVER THE INPUT: true; the input reads as it did. -/
def fnOrderedSpec : ChangeSpec := { name := "fnOrdered", fn := fun _ => fun
  | [d] => { results := [.lit (.bool true)], args := [d] }
  | _ => none }
def fnOrderedRow : OpenClaim := { program := "ytbnplcingdgaaaagreat", sum := "bfdda85f90c1c28ee0e15341a028c20785521ce68b0a730c5cac96c845f546b8", func := "loop.example/g00972/laws.FnOrdered", spec := "fnOrdered", inPlace := ["internal/reflectlite.ValueOf", "internal/reflectlite.Swapper", "(internal/reflectlite.Value).Len"], unfollowed := true, recurses := true, apart := false }
def FnOrderedSaid : Prop := fnOrderedRow.holds Tryz.pinned (OpenSpec.ofChange fnOrderedSpec)

/-- ITS FALSE NEIGHBOUR: 'it returns false'. Refute it at one input. -/
def fnOrderedWrong : ChangeSpec := { name := "fnOrdered", fn := fun _ => fun
  | [d] => { results := [.lit (.bool false)], args := [d] }
  | _ => none }
def FnOrderedWrongFalsely : Prop := fnOrderedRow.holds Tryz.pinned (OpenSpec.ofChange fnOrderedWrong)

/-- 'laws.FnRowFull': WHATEVER THE INPUT: true; the input reads as it did. -/
def fnRowFullSpec : ChangeSpec := { name := "fnRowFull", fn := fun _ => fun
  | [d] => { results := [.lit (.bool true)], args := [d] }
  | _ => none }
def fnRowFullRow : OpenClaim := { program := "ytbnplcingdgaaaagreat", sum := "bfdda85f90c1c28ee0e15341a028c20785521ce68b0a730c5cac96c845f546b8", func := "loop.example/g00972/laws.FnRowFull", spec := "fnRowFull", inPlace := ["internal/reflectlite.ValueOf", "internal/reflectlite.Swapper", "(internal/reflectlite.Value).Len"], unfollowed := true, recurses := true, apart := false }
def FnRowFullSaid : Prop := fnRowFullRow.holds Tryz.pinned (OpenSpec.ofChange fnRowFullSpec)

/-- ITS FALSE NEIGHBOUR: 'it returns false'. Refute it at one input. -/
def fnRowFullWrong : ChangeSpec := { name := "fnRowFull", fn := fun _ => fun
  | [d] => { results := [.lit (.bool false)], args := [d] }
  | _ => none }
def FnRowFullWrongFalsely : Prop := fnRowFullRow.holds Tryz.pinned (OpenSpec.ofChange fnRowFullWrong)

/-- 'laws.FnWrapped': WHATEVER THE INPUT: true; the input reads as it did. -/
def fnWrappedSpec : ChangeSpec := { name := "fnWrapped", fn := fun _ => fun
  | [d] => { results := [.lit (.bool true)], args := [d] }
  | _ => none }
def fnWrappedRow : OpenClaim := { program := "ytbnplcingdgaaaagreat", sum := "bfdda85f90c1c28ee0e15341a028c20785521ce68b0a730c5cac96c845f546b8", func := "loop.example/g00972/laws.FnWrapped", spec := "fnWrapped", inPlace := ["internal/reflectlite.ValueOf", "internal/reflectlite.Swapper", "(internal/reflectlite.Value).Len"], unfollowed := true, recurses := true, apart := false }
def FnWrappedSaid : Prop := fnWrappedRow.holds Tryz.pinned (OpenSpec.ofChange fnWrappedSpec)

/-- ITS FALSE NEIGHBOUR: 'it returns false'. Refute it at one input. -/
def fnWrappedWrong : ChangeSpec := { name := "fnWrapped", fn := fun _ => fun
  | [d] => { results := [.lit (.bool false)], args := [d] }
  | _ => none }
def FnWrappedWrongFalsely : Prop := fnWrappedRow.holds Tryz.pinned (OpenSpec.ofChange fnWrappedWrong)

/- THE SECOND FORM. 'bulk': how many values and letters a reading holds, each counted each time it is reached (what is shared counts as often as it is met; a slice's spare places count too). A statement '..UptoSaid' is the law's where the arguments, and the package variables that the reading takes, are together of bulk at most 1048576: NARROWER than '..Said'. Prove '..Said' where nothing that the law and all that it calls make is longer than what came in: it says more and counts as full. Else prove '..UptoSaid'. A law counts once. -/
mutual
def uptoBulk {H : Type} : DataW H → Nat
  | .lit (.string bytes) => bytes.length + 1
  | .lit _ => 1
  | .nil => 1
  | .ptr d => uptoBulk d + 1
  | .slice elems spare => uptoBulkAll elems + uptoBulkAll spare + 1
  | .agg parts => uptoBulkAll parts + 1
  | .iface _ d => uptoBulk d + 1
  | .map entries => uptoBulkEntries entries + 1
  | .held _ => 1
def uptoBulkAll {H : Type} : List (DataW H) → Nat
  | [] => 0
  | d :: r => uptoBulk d + uptoBulkAll r
def uptoBulkEntries {H : Type} : List (Lit × DataW H) → Nat
  | [] => 0
  | x :: r => uptoBulkEntry x + uptoBulkEntries r
def uptoBulkEntry {H : Type} : Lit × DataW H → Nat
  | (.string bytes, d) => bytes.length + uptoBulk d + 1
  | (_, d) => uptoBulk d + 1
 end
def uptoSmall : (H : Type) → List (DataW H) → Bool := fun _ ds => decide (uptoBulkAll ds ≤ 1048576)
def OpenSpec.upto (s : _root_.Go.ChangeSpec) : _root_.Go.OpenSpec := { _root_.Go.OpenSpec.ofChange s with cond := some uptoSmall }

/-- 'laws.FnColumn', WHERE WHAT IT READS IS OF BULK AT MOST 1048576: true; the input reads as it did. -/
def fnColumnUptoRow : OpenClaim := { program := "ytbnplcingdgaaaagreat", sum := "bfdda85f90c1c28ee0e15341a028c20785521ce68b0a730c5cac96c845f546b8", func := "loop.example/g00972/laws.FnColumn", spec := "fnColumn", inPlace := ["internal/reflectlite.ValueOf", "internal/reflectlite.Swapper", "(internal/reflectlite.Value).Len"], unfollowed := true, recurses := true, apart := false, narrowed := true }
def FnColumnUptoSaid : Prop := fnColumnUptoRow.holds Tryz.pinned (OpenSpec.upto fnColumnSpec)

/-- 'laws.FnOrdered', WHERE WHAT IT READS IS OF BULK AT MOST 1048576: true; the input reads as it did. -/
def fnOrderedUptoRow : OpenClaim := { program := "ytbnplcingdgaaaagreat", sum := "bfdda85f90c1c28ee0e15341a028c20785521ce68b0a730c5cac96c845f546b8", func := "loop.example/g00972/laws.FnOrdered", spec := "fnOrdered", inPlace := ["internal/reflectlite.ValueOf", "internal/reflectlite.Swapper", "(internal/reflectlite.Value).Len"], unfollowed := true, recurses := true, apart := false, narrowed := true }
def FnOrderedUptoSaid : Prop := fnOrderedUptoRow.holds Tryz.pinned (OpenSpec.upto fnOrderedSpec)

/-- 'laws.FnRowFull', WHERE WHAT IT READS IS OF BULK AT MOST 1048576: true; the input reads as it did. -/
def fnRowFullUptoRow : OpenClaim := { program := "ytbnplcingdgaaaagreat", sum := "bfdda85f90c1c28ee0e15341a028c20785521ce68b0a730c5cac96c845f546b8", func := "loop.example/g00972/laws.FnRowFull", spec := "fnRowFull", inPlace := ["internal/reflectlite.ValueOf", "internal/reflectlite.Swapper", "(internal/reflectlite.Value).Len"], unfollowed := true, recurses := true, apart := false, narrowed := true }
def FnRowFullUptoSaid : Prop := fnRowFullUptoRow.holds Tryz.pinned (OpenSpec.upto fnRowFullSpec)

/-- 'laws.FnWrapped', WHERE WHAT IT READS IS OF BULK AT MOST 1048576: true; the input reads as it did. -/
def fnWrappedUptoRow : OpenClaim := { program := "ytbnplcingdgaaaagreat", sum := "bfdda85f90c1c28ee0e15341a028c20785521ce68b0a730c5cac96c845f546b8", func := "loop.example/g00972/laws.FnWrapped", spec := "fnWrapped", inPlace := ["internal/reflectlite.ValueOf", "internal/reflectlite.Swapper", "(internal/reflectlite.Value).Len"], unfollowed := true, recurses := true, apart := false, narrowed := true }
def FnWrappedUptoSaid : Prop := fnWrappedUptoRow.holds Tryz.pinned (OpenSpec.upto fnWrappedSpec)

end Rows
end Go.Proofs.YtbnplcingdgaaaaGreat
