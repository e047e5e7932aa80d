/- The laws' own helpers, as maps of data: copies, comparisons, sizes. -/
import Derived.Test.YtcohgnecmgcajaaBr
import Derived.Test.YtcohgnecmgcajaaTab
namespace Go.Proofs.Ytcohgnecmgcajaa
open Go.ChangeShapes Go.WideShapes Go.ChangeAt Go.RowKit Am
set_option linter.unusedVariables false
set_option linter.unusedSimpArgs false
set_option maxRecDepth 100000

abbrev ai (n : Int) : AT := .c (.imm (.int .i64 n))
abbrev abl (b : Bool) : AT := .c (.imm (.bool b))
theorem lc_len (a : Array Value) : (lc a).length = a.size := by simp [lc]
theorem lc_plain (a : Array Value) : (lc a).all plain = true := by simp [lc, plain]
theorem vw_plain {α : Type} (c : α → Array Value) (xs : List α) : plainE (vw c xs) = true := by
  simp only [plainE, vw, List.all_map, List.all_eq_true]
  intro x _
  exact lc_plain _
theorem set_at {α : Type} {es : List α} {j i : Nat} {x : α} (hj : j < es.length) : (es.set j x)[i]? = if i = j then some x else es[i]? := by
  rw [List.getElem?_set]
  by_cases h : j = i
  · subst h; simp [hj]
  · rw [if_neg h, if_neg (fun h' => h h'.symm)]
/-- A row that is filled from its start on. -/
structure Fill (k : Nat) (V es : List (List AC)) (z : Int) : Prop where
  z0 : 0 ≤ z
  z1 : z ≤ lenI V
  len : es.length = V.length
  ks : ∀ e ∈ es, e.length = k
  pl : plainE es = true
  eq : ∀ i : Nat, i < z.toNat → es[i]? = V[i]?
theorem Fill.start {k : Nat} {V : List (List AC)} {z : List AC} (hk : z.length = k) (hp : z.all plain = true) {n : Int} (hn : n = lenI V) : Fill k V (List.replicate n.toNat z) 0 :=
  ⟨by omega, by have := lenI_eq V; omega, by have := lenI_eq V; simp; omega, fun e he => by rw [(List.mem_replicate.1 he).2]; exact hk, by simp [plainE, hp], fun i hi => by simp at hi⟩
theorem Fill.step {k : Nat} {V es : List (List AC)} {z : Int} {j : Nat} {y : List AC} (h : Fill k V es z) (hz : z < lenI V) (hj : j = z.toNat) (hy : V[z.toNat]? = some y) (hk : y.length = k) (hp : y.all plain = true) : Fill k V (es.set j y) (z + 1) := by
  have := h.z0
  have := h.len
  have := lenI_eq V
  refine ⟨by omega, by omega, by simpa using h.len, fun e he => ?_, ?_, fun i hi => ?_⟩
  · rcases List.mem_or_eq_of_mem_set he with h1 | rfl
    · exact h.ks e h1
    · exact hk
  · rw [plainE, List.all_eq_true]
    intro e he
    rcases List.mem_or_eq_of_mem_set he with h1 | rfl
    · exact List.all_eq_true.1 h.pl e h1
    · exact hp
  · rw [set_at (by omega)]
    by_cases hij : i = j
    · rw [if_pos hij, hij, hj, hy]
    · rw [if_neg hij]; exact h.eq i (by omega)
theorem Fill.done {k : Nat} {V es : List (List AC)} {z : Int} (h : Fill k V es z) (hz : ¬ z < lenI V) : es = V := by
  have := lenI_eq V
  have := h.z1
  have := h.len
  refine List.ext_getElem? fun i => ?_
  by_cases hi : i < V.length
  · exact h.eq i (by omega)
  · rw [List.getElem?_eq_none (by omega), List.getElem?_eq_none (by omega)]
theorem Fill.mem {k : Nat} {V es : List (List AC)} {z : Int} (h : Fill k V es z) {j : Nat} (hj : j < es.length) : ∃ e, es[j]? = some e ∧ e.length = k := ⟨es[j], List.getElem?_eq_getElem hj, h.ks _ (List.getElem_mem hj)⟩
def szR (n left : Int) : Int := if left - n < 0 then -1 else left - n
theorem wrap_small (n : Int) (h : -9223372036854775808 ≤ n ∧ n ≤ 9223372036854775807) : wrap64 n = n := IntWalk.wrap64_in n h

end Go.Proofs.Ytcohgnecmgcajaa
