/-
  No cell of these rows narrows 'for every input' (looked for: loops, veiled, ifaces, maps, wideKeys, modest, calm, conditions, laid).
  DERIVED. THE GIVEN ROWS OF THIS SEAT. 3 by the template 'for every input the law returns true; each argument reads behind the call as it read before'; 0 by the template 'total and deterministic' (their statements: YtenbloaopcfdlaaTotals.lean).
  GIVEN WITH THE SEED: the statements are not yours to turn. If you find one false, say at which input.
  Laid BY PROGRAM, IN A SANDBOX (cutbox-rows.mjs): the forced cells as the released guide's own fill.sh prints them over the translation 5db2e95aaf42ce76… (all of the seat's roots in one cut). By AI agents, Wed Nov 11 2026. No macro, syntax, notation, axiom, sorry.
-/
import Derived.Test.YtenbloaopcfdlaaChecked
import GoSem.Claim
import GoSem.ClaimJoined
import GoSem.ClaimMapViews
import Derived.JoinedTies
import Derived.KernelRfl
namespace Go.Proofs.Ytenbloaopcfdlaa
/- THE CELL 'sum', in the pinned program and in every row, IS THE sha256 OF THE DUMP (.gsa) THAT YtenbloaopcfdlaaProg.lean LOADS. Nothing in Lean hashes anything: it is a label: what it is worth is what the hold of that sum in a sandbox is worth. -/
noncomputable def Try.pinned : Pinned := { name := "ytenbloaopcfdlaa", sum := "5db2e95aaf42ce7678843624edf7fd529c3fcc559afcf3072755d743cfb7c61a", checked := Try.checked }
namespace Rows
def none {H : Type} : Left H := { results := [], args := [] }

/-- 'laws.FnExactMemoFor': WHATEVER THE INPUT: true; the input reads as it did. -/
def fnExactMemoForSpec : ChangeSpec := { name := "fnExactMemoFor", fn := fun _ => fun
  | [d1, d2, d3, d4, d5] => { results := [.lit (.bool true)], args := [d1, d2, d3, d4, d5] }
  | _ => none }
def fnExactMemoForRow : OpenClaim := { program := "ytenbloaopcfdlaa", sum := "5db2e95aaf42ce7678843624edf7fd529c3fcc559afcf3072755d743cfb7c61a", func := "loop.example/g00972/laws.FnExactMemoFor", spec := "fnExactMemoFor", apart := false }
def FnExactMemoForSaid : Prop := fnExactMemoForRow.holds Try.pinned (OpenSpec.ofChange fnExactMemoForSpec)

/-- ITS FALSE NEIGHBOUR: 'it returns false'. Refute it at one input. -/
def fnExactMemoForWrong : ChangeSpec := { name := "fnExactMemoFor", fn := fun _ => fun
  | [d1, d2, d3, d4, d5] => { results := [.lit (.bool false)], args := [d1, d2, d3, d4, d5] }
  | _ => none }
def FnExactMemoForWrongFalsely : Prop := fnExactMemoForRow.holds Try.pinned (OpenSpec.ofChange fnExactMemoForWrong)

/-- 'laws.FnExactAbsolute': WHATEVER THE INPUT: true; the input reads as it did. -/
def fnExactAbsoluteSpec : ChangeSpec := { name := "fnExactAbsolute", fn := fun _ => fun
  | [d1, d2] => { results := [.lit (.bool true)], args := [d1, d2] }
  | _ => none }
def fnExactAbsoluteRow : OpenClaim := { program := "ytenbloaopcfdlaa", sum := "5db2e95aaf42ce7678843624edf7fd529c3fcc559afcf3072755d743cfb7c61a", func := "loop.example/g00972/laws.FnExactAbsolute", spec := "fnExactAbsolute", apart := false }
def FnExactAbsoluteSaid : Prop := fnExactAbsoluteRow.holds Try.pinned (OpenSpec.ofChange fnExactAbsoluteSpec)

/-- ITS FALSE NEIGHBOUR: 'it returns false'. Refute it at one input. -/
def fnExactAbsoluteWrong : ChangeSpec := { name := "fnExactAbsolute", fn := fun _ => fun
  | [d1, d2] => { results := [.lit (.bool false)], args := [d1, d2] }
  | _ => none }
def FnExactAbsoluteWrongFalsely : Prop := fnExactAbsoluteRow.holds Try.pinned (OpenSpec.ofChange fnExactAbsoluteWrong)

/-- 'laws.FnExactForget': WHATEVER THE INPUT: true; the input reads as it did. -/
def fnExactForgetSpec : ChangeSpec := { name := "fnExactForget", fn := fun _ => fun
  | [d1, d2, d3] => { results := [.lit (.bool true)], args := [d1, d2, d3] }
  | _ => none }
def fnExactForgetRow : OpenClaim := { program := "ytenbloaopcfdlaa", sum := "5db2e95aaf42ce7678843624edf7fd529c3fcc559afcf3072755d743cfb7c61a", func := "loop.example/g00972/laws.FnExactForget", spec := "fnExactForget", apart := false }
def FnExactForgetSaid : Prop := fnExactForgetRow.holds Try.pinned (OpenSpec.ofChange fnExactForgetSpec)

/-- ITS FALSE NEIGHBOUR: 'it returns false'. Refute it at one input. -/
def fnExactForgetWrong : ChangeSpec := { name := "fnExactForget", fn := fun _ => fun
  | [d1, d2, d3] => { results := [.lit (.bool false)], args := [d1, d2, d3] }
  | _ => none }
def FnExactForgetWrongFalsely : Prop := fnExactForgetRow.holds Try.pinned (OpenSpec.ofChange fnExactForgetWrong)

/- THE SECOND FORM. 'bulk': how many values and letters a reading holds, each counted each time it is reached (what is shared counts as often as it is met; a slice's spare places count too). A statement '..UptoSaid' is the law's where the arguments, and the package variables that the reading takes, are together of bulk at most 1048576: NARROWER than '..Said'. Prove '..Said' where nothing that the law and all that it calls make is longer than what came in: it says more and counts as full. Else prove '..UptoSaid'. A law counts once. -/
mutual
def uptoBulk {H : Type} : DataW H → Nat
  | .lit (.string bytes) => bytes.length + 1
  | .lit _ => 1
  | .nil => 1
  | .ptr d => uptoBulk d + 1
  | .slice elems spare => uptoBulkAll elems + uptoBulkAll spare + 1
  | .agg parts => uptoBulkAll parts + 1
  | .iface _ d => uptoBulk d + 1
  | .map entries => uptoBulkEntries entries + 1
  | .held _ => 1
def uptoBulkAll {H : Type} : List (DataW H) → Nat
  | [] => 0
  | d :: r => uptoBulk d + uptoBulkAll r
def uptoBulkEntries {H : Type} : List (Lit × DataW H) → Nat
  | [] => 0
  | x :: r => uptoBulkEntry x + uptoBulkEntries r
def uptoBulkEntry {H : Type} : Lit × DataW H → Nat
  | (.string bytes, d) => bytes.length + uptoBulk d + 1
  | (_, d) => uptoBulk d + 1
 end
def uptoSmall : (H : Type) → List (DataW H) → Bool := fun _ ds => decide (uptoBulkAll ds ≤ 1048576)
def OpenSpec.upto (s : _root_.Go.ChangeSpec) : _root_.Go.OpenSpec := { _root_.Go.OpenSpec.ofChange s with cond := some uptoSmall }

/-- 'laws.FnExactMemoFor', WHERE WHAT IT READS IS OF BULK AT MOST 1048576: true; the input reads as it did. -/
def fnExactMemoForUptoRow : OpenClaim := { program := "ytenbloaopcfdlaa", sum := "5db2e95aaf42ce7678843624edf7fd529c3fcc559afcf3072755d743cfb7c61a", func := "loop.example/g00972/laws.FnExactMemoFor", spec := "fnExactMemoFor", apart := false, narrowed := true }
def FnExactMemoForUptoSaid : Prop := fnExactMemoForUptoRow.holds Try.pinned (OpenSpec.upto fnExactMemoForSpec)

/-- 'laws.FnExactAbsolute', WHERE WHAT IT READS IS OF BULK AT MOST 1048576: true; the input reads as it did. -/
def fnExactAbsoluteUptoRow : OpenClaim := { program := "ytenbloaopcfdlaa", sum := "5db2e95aaf42ce7678843624edf7fd529c3fcc559afcf3072755d743cfb7c61a", func := "loop.example/g00972/laws.FnExactAbsolute", spec := "fnExactAbsolute", apart := false, narrowed := true }
def FnExactAbsoluteUptoSaid : Prop := fnExactAbsoluteUptoRow.holds Try.pinned (OpenSpec.upto fnExactAbsoluteSpec)

/-- 'laws.FnExactForget', WHERE WHAT IT READS IS OF BULK AT MOST 1048576: true; the input reads as it did. -/
def fnExactForgetUptoRow : OpenClaim := { program := "ytenbloaopcfdlaa", sum := "5db2e95aaf42ce7678843624edf7fd529c3fcc559afcf3072755d743cfb7c61a", func := "loop.example/g00972/laws.FnExactForget", spec := "fnExactForget", apart := false, narrowed := true }
def FnExactForgetUptoSaid : Prop := fnExactForgetUptoRow.holds Try.pinned (OpenSpec.upto fnExactForgetSpec)

end Rows
end Go.Proofs.Ytenbloaopcfdlaa
