/- Valid trees. -/
import Derived.Test.YtenbloaopcfdlaaN4
namespace Go.Proofs.Ytenbloaopcfdlaa
open Go.ChangeShapes Go.WideShapes Go.ChangeAt Go.RowKit Am
set_option linter.unusedVariables false
set_option linter.unusedSimpArgs false
set_option maxRecDepth 100000

def kidsN (ns : List NNode) (n : Int) : List Int := match ns[(n - 1).toNat]? with | some x => x.kids | none => []
def kidOk (ns : List NNode) (n : Int) (k : Int) : Bool := isN ns k && decide (upN ns k = n)
def tabE (x : NNode) : Bool := !((x.measured && (!taOk x.table.rules || decide ((0 : Int) < (x.kids.length : Int)))) || (!x.measured && decide ((0 : Int) < (x.table.rules.length : Int))))
def upOk (ns : List NNode) (n up : Int) : Bool := decide (up = 0) || decide (cnt (kidsN ns up) n = 1)
def nodeOk (ns : List NNode) (n : Int) (x : NNode) : Bool := stOk x.style && (rng (depN ns n) 1 4 && (upOk ns n x.up && (x.kids.all (kidOk ns n) && tabE x)))
def goT (ns : List NNode) : List NNode → Int → Bool
  | [], _ => true
  | x :: xs, i => nodeOk ns (i + 1) x && goT ns xs (i + 1)
def treeB (ns : List NNode) : Bool := decide ((ns.length : Int) ≤ 12) && goT ns ns 0
theorem goT_iff (ns : List NNode) : ∀ (xs : List NNode) (k : Int), goT ns xs k = true ↔ ∀ (i : Nat) (x : NNode), xs[i]? = some x → nodeOk ns (k + (i : Int) + 1) x = true
  | [], k => by simp [goT]
  | x :: xs, k => by
    simp only [goT, Bool.and_eq_true]
    rw [goT_iff ns xs (k + 1)]
    constructor
    · rintro ⟨h1, h2⟩ i y hy
      cases i with
      | zero => simp at hy; subst hy; simpa using h1
      | succ i => have := h2 i y (by simpa using hy); rw [show k + ((i + 1 : Nat) : Int) + 1 = k + 1 + (i : Int) + 1 by omega]; exact this
    · intro h
      refine ⟨by simpa using h 0 x rfl, fun i y hy => ?_⟩
      have := h (i + 1) y (by simpa using hy)
      rw [show k + ((i + 1 : Nat) : Int) + 1 = k + 1 + (i : Int) + 1 by omega] at this
      exact this
theorem tree_no {ns : List NNode} {z : Int} {x : NNode} (h0 : 0 ≤ z) (hx : ns[z.toNat]? = some x) (h : nodeOk ns (z + 1) x = false) : treeB ns = false := by
  cases hg : goT ns ns 0
  · simp [treeB, hg]
  · have := (goT_iff ns ns 0).1 hg z.toNat x hx
    rw [show (0 : Int) + ((z.toNat : Nat) : Int) + 1 = z + 1 by omega, h] at this
    cases this
theorem tree_yes {ns : List NNode} {z M : Int} (hM : M = (ns.length : Int)) (h12 : M ≤ 12) (hz : M ≤ z) (h : ∀ (i : Nat) (x : NNode), i < z.toNat → ns[i]? = some x → nodeOk ns ((i : Int) + 1) x = true) : treeB ns = true := by
  have hg : goT ns ns 0 = true := (goT_iff ns ns 0).2 fun i x hx => by
    have hi := (List.getElem?_eq_some_iff.1 hx).1
    have := h i x (by omega) hx
    rwa [show (0 : Int) + (i : Int) + 1 = (i : Int) + 1 by omega]
  simp only [treeB, hg, Bool.and_true, decide_eq_true_eq]
  omega
theorem tree_big {ns : List NNode} {M : Int} (hM : M = (ns.length : Int)) (h : ¬ M ≤ 12) : treeB ns = false := by
  simp only [treeB, Bool.and_eq_false_iff, decide_eq_false_iff_not]
  left; omega
/-- A node at a depth of one and more has a node above it, or none. -/
theorem dep_up {ns : List NNode} {n : Int} {x : NNode} (h0 : n ≠ 0) (hn : isN ns n = true) (hx : ns[(n - 1).toNat]? = some x) (hd : rng (depN ns n) 1 4 = true) (hu : x.up ≠ 0) : isN ns x.up = true := by
  cases hi : isN ns x.up
  · exfalso
    have hl : ns.length ≠ 0 := fun h => by
      have := (isN_at hn).2.1
      have := (isN_at hn).1
      omega
    obtain ⟨L, hL⟩ : ∃ L, ns.length = L + 1 := ⟨ns.length - 1, by omega⟩
    rw [depN, hL, dep_step ns h0 hn, upN_at hx, dep_out ns _ _ _ hu hi] at hd
    simp [rng] at hd
  · rfl
theorem kids_no {ns : List NNode} {n : Int} {xs : List Int} {i : Nat} {k : Int} (h : xs[i]? = some k) (hk : kidOk ns n k = false) : xs.all (kidOk ns n) = false := by
  rw [List.all_eq_false]
  exact ⟨k, List.mem_of_getElem? h, by rw [hk]; decide⟩
theorem kids_to {ns : List NNode} {n : Int} {xs : List Int} {z M : Int} (hM : M = (xs.length : Int)) (hz : M ≤ z) (h : ∀ (i : Nat) (v : Int), i < z.toNat → xs[i]? = some v → kidOk ns n v = true) : xs.all (kidOk ns n) = true := by
  rw [List.all_eq_true]
  exact all_upto hM hz h
theorem le_viaN {n : Nat} {a z : Int} (h : a = (n : Int)) (hz : z ≤ (n : Int)) : z ≤ a := h ▸ hz
theorem isN_of {ns : List NNode} {z M : Int} (hM : M = (ns.length : Int)) (h0 : 0 ≤ z) (h1 : z < M) : isN ns (z + 1) = true := by
  simp only [isN, rng, Bool.and_eq_true, decide_eq_true_eq]; omega
theorem at_of {ns : List NNode} {z : Int} {x : NNode} (h : ns[z.toNat]? = some x) : ns[(z + 1 - 1).toNat]? = some x := by rw [show z + 1 - 1 = z by omega]; exact h
theorem len_pos {α : Type} {c : α → Array Value} {xs : List α} {V : List (List AC)} (hV : V = vw c xs) : lenI V = (xs.length : Int) := by rw [hV, lenI_eq, vw_length]

end Go.Proofs.Ytenbloaopcfdlaa
