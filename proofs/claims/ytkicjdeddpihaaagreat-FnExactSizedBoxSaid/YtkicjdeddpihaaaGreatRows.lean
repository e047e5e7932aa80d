/-
  No cell of these rows narrows 'for every input' (looked for: loops, veiled, ifaces, maps, wideKeys, modest, calm, conditions, laid).
  DERIVED. THE GIVEN ROWS OF THIS SEAT. 4 by the template 'for every input the law returns true; each argument reads behind the call as it read before'; 0 by the template 'total and deterministic' (their statements: YtkicjdeddpihaaaGreatTotals.lean).
  GIVEN WITH THE SEED: the statements are not yours to turn. If you find one false, say at which input.
  Laid BY PROGRAM, IN A SANDBOX (cutbox-rows.mjs): the forced cells as the released guide's own fill.sh prints them over the translation 1910942417f75dd1… (all of the seat's roots in one cut). By AI agents, Wed Nov 11 2026. No macro, syntax, notation, axiom, sorry.
-/
import Derived.Test.YtkicjdeddpihaaaGreatChecked
import GoSem.Claim
import GoSem.ClaimJoined
import GoSem.ClaimMapViews
import Derived.JoinedTies
import Derived.KernelRfl
namespace Go.Proofs.YtkicjdeddpihaaaGreat
/- THE CELL 'sum', in the pinned program and in every row, IS THE sha256 OF THE DUMP (.gsa) THAT YtkicjdeddpihaaaGreatProg.lean LOADS. Nothing in Lean hashes anything: it is a label: what it is worth is what the hold of that sum in a sandbox is worth. -/
noncomputable def Tryz.pinned : Pinned := { name := "ytkicjdeddpihaaagreat", sum := "1910942417f75dd1733ee1e9287b431fe9052aefa1f7527a023607f4d81abf07", checked := Tryz.checked }
namespace Rows
def none {H : Type} : Left H := { results := [], args := [] }

/-- 'laws.FnExactKidSizes': WHATEVER THE INPUT: true; the input reads as it did. -/
def fnExactKidSizesSpec : ChangeSpec := { name := "fnExactKidSizes", fn := fun _ => fun
  | [d1, d2, d3, d4, d5] => { results := [.lit (.bool true)], args := [d1, d2, d3, d4, d5] }
  | _ => none }
def fnExactKidSizesRow : OpenClaim := { program := "ytkicjdeddpihaaagreat", sum := "1910942417f75dd1733ee1e9287b431fe9052aefa1f7527a023607f4d81abf07", func := "loop.example/g00972/laws.FnExactKidSizes", spec := "fnExactKidSizes", inPlace := ["internal/reflectlite.ValueOf", "internal/reflectlite.Swapper", "(internal/reflectlite.Value).Len"], unfollowed := true, recurses := true, apart := false }
def FnExactKidSizesSaid : Prop := fnExactKidSizesRow.holds Tryz.pinned (OpenSpec.ofChange fnExactKidSizesSpec)

/-- ITS FALSE NEIGHBOUR: 'it returns false'. Refute it at one input. -/
def fnExactKidSizesWrong : ChangeSpec := { name := "fnExactKidSizes", fn := fun _ => fun
  | [d1, d2, d3, d4, d5] => { results := [.lit (.bool false)], args := [d1, d2, d3, d4, d5] }
  | _ => none }
def FnExactKidSizesWrongFalsely : Prop := fnExactKidSizesRow.holds Tryz.pinned (OpenSpec.ofChange fnExactKidSizesWrong)

/-- 'laws.FnExactSizedBox': WHATEVER THE INPUT: true; the input reads as it did. -/
def fnExactSizedBoxSpec : ChangeSpec := { name := "fnExactSizedBox", fn := fun _ => fun
  | [d1, d2, d3, d4, d5] => { results := [.lit (.bool true)], args := [d1, d2, d3, d4, d5] }
  | _ => none }
def fnExactSizedBoxRow : OpenClaim := { program := "ytkicjdeddpihaaagreat", sum := "1910942417f75dd1733ee1e9287b431fe9052aefa1f7527a023607f4d81abf07", func := "loop.example/g00972/laws.FnExactSizedBox", spec := "fnExactSizedBox", inPlace := ["internal/reflectlite.ValueOf", "internal/reflectlite.Swapper", "(internal/reflectlite.Value).Len"], unfollowed := true, recurses := true, apart := false }
def FnExactSizedBoxSaid : Prop := fnExactSizedBoxRow.holds Tryz.pinned (OpenSpec.ofChange fnExactSizedBoxSpec)

/-- ITS FALSE NEIGHBOUR: 'it returns false'. Refute it at one input. -/
def fnExactSizedBoxWrong : ChangeSpec := { name := "fnExactSizedBox", fn := fun _ => fun
  | [d1, d2, d3, d4, d5] => { results := [.lit (.bool false)], args := [d1, d2, d3, d4, d5] }
  | _ => none }
def FnExactSizedBoxWrongFalsely : Prop := fnExactSizedBoxRow.holds Tryz.pinned (OpenSpec.ofChange fnExactSizedBoxWrong)

/-- 'laws.FnExactKidSides': WHATEVER THE INPUT: true; the input reads as it did. -/
def fnExactKidSidesSpec : ChangeSpec := { name := "fnExactKidSides", fn := fun _ => fun
  | [d1, d2, d3, d4, d5] => { results := [.lit (.bool true)], args := [d1, d2, d3, d4, d5] }
  | _ => none }
def fnExactKidSidesRow : OpenClaim := { program := "ytkicjdeddpihaaagreat", sum := "1910942417f75dd1733ee1e9287b431fe9052aefa1f7527a023607f4d81abf07", func := "loop.example/g00972/laws.FnExactKidSides", spec := "fnExactKidSides", inPlace := ["internal/reflectlite.ValueOf", "internal/reflectlite.Swapper", "(internal/reflectlite.Value).Len"], unfollowed := true, recurses := true, apart := false }
def FnExactKidSidesSaid : Prop := fnExactKidSidesRow.holds Tryz.pinned (OpenSpec.ofChange fnExactKidSidesSpec)

/-- ITS FALSE NEIGHBOUR: 'it returns false'. Refute it at one input. -/
def fnExactKidSidesWrong : ChangeSpec := { name := "fnExactKidSides", fn := fun _ => fun
  | [d1, d2, d3, d4, d5] => { results := [.lit (.bool false)], args := [d1, d2, d3, d4, d5] }
  | _ => none }
def FnExactKidSidesWrongFalsely : Prop := fnExactKidSidesRow.holds Tryz.pinned (OpenSpec.ofChange fnExactKidSidesWrong)

/-- 'laws.FnExactKidItems': WHATEVER THE INPUT: true; the input reads as it did. -/
def fnExactKidItemsSpec : ChangeSpec := { name := "fnExactKidItems", fn := fun _ => fun
  | [d1, d2, d3, d4, d5] => { results := [.lit (.bool true)], args := [d1, d2, d3, d4, d5] }
  | _ => none }
def fnExactKidItemsRow : OpenClaim := { program := "ytkicjdeddpihaaagreat", sum := "1910942417f75dd1733ee1e9287b431fe9052aefa1f7527a023607f4d81abf07", func := "loop.example/g00972/laws.FnExactKidItems", spec := "fnExactKidItems", inPlace := ["internal/reflectlite.ValueOf", "internal/reflectlite.Swapper", "(internal/reflectlite.Value).Len"], unfollowed := true, recurses := true, apart := false }
def FnExactKidItemsSaid : Prop := fnExactKidItemsRow.holds Tryz.pinned (OpenSpec.ofChange fnExactKidItemsSpec)

/-- ITS FALSE NEIGHBOUR: 'it returns false'. Refute it at one input. -/
def fnExactKidItemsWrong : ChangeSpec := { name := "fnExactKidItems", fn := fun _ => fun
  | [d1, d2, d3, d4, d5] => { results := [.lit (.bool false)], args := [d1, d2, d3, d4, d5] }
  | _ => none }
def FnExactKidItemsWrongFalsely : Prop := fnExactKidItemsRow.holds Tryz.pinned (OpenSpec.ofChange fnExactKidItemsWrong)

/- THE SECOND FORM. 'bulk': how many values and letters a reading holds, each counted each time it is reached (what is shared counts as often as it is met; a slice's spare places count too). A statement '..UptoSaid' is the law's where the arguments, and the package variables that the reading takes, are together of bulk at most 1048576: NARROWER than '..Said'. Prove '..Said' where nothing that the law and all that it calls make is longer than what came in: it says more and counts as full. Else prove '..UptoSaid'. A law counts once. -/
mutual
def uptoBulk {H : Type} : DataW H → Nat
  | .lit (.string bytes) => bytes.length + 1
  | .lit _ => 1
  | .nil => 1
  | .ptr d => uptoBulk d + 1
  | .slice elems spare => uptoBulkAll elems + uptoBulkAll spare + 1
  | .agg parts => uptoBulkAll parts + 1
  | .iface _ d => uptoBulk d + 1
  | .map entries => uptoBulkEntries entries + 1
  | .held _ => 1
def uptoBulkAll {H : Type} : List (DataW H) → Nat
  | [] => 0
  | d :: r => uptoBulk d + uptoBulkAll r
def uptoBulkEntries {H : Type} : List (Lit × DataW H) → Nat
  | [] => 0
  | x :: r => uptoBulkEntry x + uptoBulkEntries r
def uptoBulkEntry {H : Type} : Lit × DataW H → Nat
  | (.string bytes, d) => bytes.length + uptoBulk d + 1
  | (_, d) => uptoBulk d + 1
 end
def uptoSmall : (H : Type) → List (DataW H) → Bool := fun _ ds => decide (uptoBulkAll ds ≤ 1048576)
def OpenSpec.upto (s : _root_.Go.ChangeSpec) : _root_.Go.OpenSpec := { _root_.Go.OpenSpec.ofChange s with cond := some uptoSmall }

/-- 'laws.FnExactKidSizes', WHERE WHAT IT READS IS OF BULK AT MOST 1048576: true; the input reads as it did. -/
def fnExactKidSizesUptoRow : OpenClaim := { program := "ytkicjdeddpihaaagreat", sum := "1910942417f75dd1733ee1e9287b431fe9052aefa1f7527a023607f4d81abf07", func := "loop.example/g00972/laws.FnExactKidSizes", spec := "fnExactKidSizes", inPlace := ["internal/reflectlite.ValueOf", "internal/reflectlite.Swapper", "(internal/reflectlite.Value).Len"], unfollowed := true, recurses := true, apart := false, narrowed := true }
def FnExactKidSizesUptoSaid : Prop := fnExactKidSizesUptoRow.holds Tryz.pinned (OpenSpec.upto fnExactKidSizesSpec)

/-- 'laws.FnExactSizedBox', WHERE WHAT IT READS IS OF BULK AT MOST 1048576: true; the input reads as it did. -/
def fnExactSizedBoxUptoRow : OpenClaim := { program := "ytkicjdeddpihaaagreat", sum := "1910942417f75dd1733ee1e9287b431fe9052aefa1f7527a023607f4d81abf07", func := "loop.example/g00972/laws.FnExactSizedBox", spec := "fnExactSizedBox", inPlace := ["internal/reflectlite.ValueOf", "internal/reflectlite.Swapper", "(internal/reflectlite.Value).Len"], unfollowed := true, recurses := true, apart := false, narrowed := true }
def FnExactSizedBoxUptoSaid : Prop := fnExactSizedBoxUptoRow.holds Tryz.pinned (OpenSpec.upto fnExactSizedBoxSpec)

/-- 'laws.FnExactKidSides', WHERE WHAT IT READS IS OF BULK AT MOST 1048576: true; the input reads as it did. -/
def fnExactKidSidesUptoRow : OpenClaim := { program := "ytkicjdeddpihaaagreat", sum := "1910942417f75dd1733ee1e9287b431fe9052aefa1f7527a023607f4d81abf07", func := "loop.example/g00972/laws.FnExactKidSides", spec := "fnExactKidSides", inPlace := ["internal/reflectlite.ValueOf", "internal/reflectlite.Swapper", "(internal/reflectlite.Value).Len"], unfollowed := true, recurses := true, apart := false, narrowed := true }
def FnExactKidSidesUptoSaid : Prop := fnExactKidSidesUptoRow.holds Tryz.pinned (OpenSpec.upto fnExactKidSidesSpec)

/-- 'laws.FnExactKidItems', WHERE WHAT IT READS IS OF BULK AT MOST 1048576: true; the input reads as it did. -/
def fnExactKidItemsUptoRow : OpenClaim := { program := "ytkicjdeddpihaaagreat", sum := "1910942417f75dd1733ee1e9287b431fe9052aefa1f7527a023607f4d81abf07", func := "loop.example/g00972/laws.FnExactKidItems", spec := "fnExactKidItems", inPlace := ["internal/reflectlite.ValueOf", "internal/reflectlite.Swapper", "(internal/reflectlite.Value).Len"], unfollowed := true, recurses := true, apart := false, narrowed := true }
def FnExactKidItemsUptoSaid : Prop := fnExactKidItemsUptoRow.holds Tryz.pinned (OpenSpec.upto fnExactKidItemsSpec)

end Rows
end Go.Proofs.YtkicjdeddpihaaaGreat
