/- Tables, nodes of a tree, their depth. -/
import Derived.Test.YtcohgnecmgcajaaN3
namespace Go.Proofs.Ytcohgnecmgcajaa
open Go.ChangeShapes Go.WideShapes Go.ChangeAt Go.RowKit Am
set_option linter.unusedVariables false
set_option linter.unusedSimpArgs false
set_option maxRecDepth 100000

def ruOk (r : GRule) : Bool := rng r.room (-1) 1048576 && (rng r.wide 0 1048576 && rng r.high 0 1048576)
def taOk (rs : List GRule) : Bool := rng (rs.length : Int) 1 6 && rs.all ruOk
theorem ru_to {xs : List GRule} {z M : Int} (hM : M = (xs.length : Int)) (hz : M ≤ z) (h : ∀ (i : Nat) (v : GRule), i < z.toNat → xs[i]? = some v → ruOk v = true) : xs.all ruOk = true := by
  rw [List.all_eq_true]
  exact all_upto hM hz h
theorem ru_no {xs : List GRule} {i : Nat} {v : GRule} (h : xs[i]? = some v) (hv : ruOk v = false) : xs.all ruOk = false := by
  rw [List.all_eq_false]
  exact ⟨v, List.mem_of_getElem? h, by rw [hv]; decide⟩
def isN (ns : List NNode) (n : Int) : Bool := rng n 1 (ns.length : Int)
def upN (ns : List NNode) (n : Int) : Int := match ns[(n - 1).toNat]? with | some x => x.up | none => 0
def depF (ns : List NNode) : Nat → Int → Int → Int
  | 0, k, n => if n = 0 then k else 0
  | f + 1, k, n => if n = 0 then k else if isN ns n = true then depF ns f (k + 1) (upN ns n) else 0
def depN (ns : List NNode) (n : Int) : Int := depF ns ns.length 0 n
theorem dep_zero (ns : List NNode) (f : Nat) (k : Int) : depF ns f k 0 = k := by cases f <;> simp [depF]
theorem dep_out (ns : List NNode) (f : Nat) (k n : Int) (h0 : n ≠ 0) (h : isN ns n = false) : depF ns f k n = 0 := by cases f <;> simp [depF, h0, h]
theorem dep_step (ns : List NNode) {f : Nat} {k n : Int} (h0 : n ≠ 0) (h : isN ns n = true) : depF ns (f + 1) k n = depF ns f (k + 1) (upN ns n) := by simp [depF, h0, h]
theorem dep_end (ns : List NNode) {k n : Int} (h0 : n ≠ 0) : depF ns 0 k n = 0 := by simp [depF, h0]
theorem isN_at {ns : List NNode} {n : Int} (h : isN ns n = true) : 1 ≤ n ∧ n ≤ (ns.length : Int) ∧ ∃ x, ns[(n - 1).toNat]? = some x := by
  simp only [isN, rng, Bool.and_eq_true, decide_eq_true_eq] at h
  exact ⟨h.1, h.2, ns[(n - 1).toNat]'(by omega), List.getElem?_eq_getElem _⟩
theorem upN_at {ns : List NNode} {n : Int} {x : NNode} (h : ns[(n - 1).toNat]? = some x) : upN ns n = x.up := by unfold upN; rw [h]
/-- The fuel that is left at a depth. -/
theorem dep_fuel {M d : Int} {L : Nat} (hM : M = (L : Int)) (h0 : 0 ≤ d) (h1 : d < M) : L - d.toNat = (L - (d + 1).toNat) + 1 := by omega
theorem dep_fuel0 {M d : Int} {L : Nat} (hM : M = (L : Int)) (h : d = M) : L - d.toNat = 0 := by omega
def cnt (xs : List Int) (n : Int) : Int := (xs.map fun k => if k = n then 1 else 0).sum

end Go.Proofs.Ytcohgnecmgcajaa
