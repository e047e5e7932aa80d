/- Lines of items: lengths within bounds, sums over a line. -/
import Derived.Test.YtdnnffbbhijmkaaGreatC1
namespace Go.Proofs.YtdnnffbbhijmkaaGreat
open Go.ChangeShapes Go.WideShapes Go.ChangeAt Go.RowKit Am
set_option linter.unusedVariables false
set_option linter.unusedSimpArgs false
set_option maxRecDepth 100000

def within (n l m : Int) : Int := if (if m < 0 then n else if m < n then m else n) < l then l else if m < 0 then n else if m < n then m else n
def psum {α : Type} (f : α → Int) (xs : List α) (n : Nat) : Int := ((xs.take n).map f).sum
theorem psum_zero {α : Type} (f : α → Int) (xs : List α) : psum f xs 0 = 0 := by simp [psum]
theorem psum_succ {α : Type} (f : α → Int) {xs : List α} {n : Nat} {x : α} (h : xs[n]? = some x) : psum f xs (n + 1) = psum f xs n + f x := by
  simp [psum, List.take_add_one, h]
theorem psum_all {α : Type} (f : α → Int) {xs : List α} {n : Nat} (h : xs.length ≤ n) : psum f xs n = (xs.map f).sum := by
  rw [psum, List.take_of_length_le h]
theorem wrap_l (a b : Int) : wrap64 (wrap64 a + b) = wrap64 (a + b) := by unfold wrap64; omega
theorem wrap_ls (a b : Int) : wrap64 (wrap64 a - b) = wrap64 (a - b) := by unfold wrap64; omega
theorem wrap_r (a b : Int) : wrap64 (a + wrap64 b) = wrap64 (a + b) := by unfold wrap64; omega
theorem vw_k {α : Type} {c : α → Array Value} {k : Nat} (hk : ∀ x, (c x).size = k) {xs : List α} : ∀ y ∈ vw c xs, y.length = k := by
  intro y hy
  simp only [vw, List.mem_map] at hy
  obtain ⟨x, _, rfl⟩ := hy
  rw [lc_len]; exact hk x
theorem lc_dat (a : Array Value) : (lc a).all dat = true := by simp [lc, dat]
theorem vw_dat {α : Type} {c : α → Array Value} {xs : List α} : ∀ y ∈ vw c xs, y.all dat = true := by
  intro y hy
  simp only [vw, List.mem_map] at hy
  obtain ⟨x, _, rfl⟩ := hy
  exact lc_dat _
def hyp (x : GItem) : Int := within x.base x.least x.most
def spreadE (xs : List GItem) (ys : List Int) : Int := (ys.map id).sum - (xs.map hyp).sum
theorem spec_Within_a (n l m : Int) : PCon Tryz.prog 201 [ai n, ai l, ai m] fun res rows => res = .t (ai (within n l m)) ∧ rows = [] := by
  refine pcon_run (c := body Tryz.f201) fits Tryz.func201 (by kernel_rfl) (by kernel_rfl) (by rfl) (by kernel_rfl) fun g F hg hF => ?_
  cbv
  cases e1 : g .q .geq m 0
  · rw [goGeq hg, decide_eq_false_iff_not] at e1
    cbv
    cases e3 : g .q .lss n l
    · rw [goLss hg, decide_eq_false_iff_not] at e3
      cbv
      exact fin0i hF (by unfold within; omega)
    · rw [goLss hg, decide_eq_true_eq] at e3
      cbv
      exact fin0i hF (by unfold within; omega)
  · rw [goGeq hg, decide_eq_true_eq] at e1
    cbv
    cases e2 : g .q .gtr n m
    · rw [goGtr hg, decide_eq_false_iff_not] at e2
      cbv
      cases e3 : g .q .lss n l
      · rw [goLss hg, decide_eq_false_iff_not] at e3
        cbv
        exact fin0i hF (by unfold within; omega)
      · rw [goLss hg, decide_eq_true_eq] at e3
        cbv
        exact fin0i hF (by unfold within; omega)
    · rw [goGtr hg, decide_eq_true_eq] at e2
      cbv
      cases e3 : g .q .lss m l
      · rw [goLss hg, decide_eq_false_iff_not] at e3
        cbv
        exact fin0i hF (by unfold within; omega)
      · rw [goLss hg, decide_eq_true_eq] at e3
        cbv
        exact fin0i hF (by unfold within; omega)
theorem impl_Within_a (n l m : Int) : PCon Tryz.prog 214 [ai n, ai l, ai m] fun res rows => res = .t (ai (within n l m)) ∧ rows = [] := by
  refine pcon_run (c := body Tryz.f214) fits Tryz.func214 (by kernel_rfl) (by kernel_rfl) (by rfl) (by kernel_rfl) fun g F hg hF => ?_
  cbv
  cases e1 : g .q .geq m 0
  · rw [goGeq hg, decide_eq_false_iff_not] at e1
    cbv
    exact fin0i hF (by rw [goMx hg]; unfold within; omega)
  · rw [goGeq hg, decide_eq_true_eq] at e1
    cbv
    exact fin0i hF (by rw [goMx hg, goMn hg]; unfold within; omega)
theorem spec_HypOf_a (x : GItem) : PCon Tryz.prog 341 [.agg (lc (GItem.c x))] fun res rows => res = .t (ai (hyp x)) ∧ rows = [] := by
  obtain ⟨a0, a1, a2, a3, a4, a5, a6, a7, a8⟩ := x
  obtain ⟨R, hR⟩ : ∃ R, R = within a0 a1 a2 := ⟨_, rfl⟩
  have hc := spec_Within_a a0 a1 a2
  rw [← hR] at hc
  refine pcon_run (c := body Tryz.f341) fits Tryz.func341 (by kernel_rfl) (by kernel_rfl) (by rfl) (by kernel_rfl) fun g F hg hF => ?_
  cbv
  refine call0 hg hc rfl rfl ?_
  cbv
  exact fin0i hF (by rw [hR]; rfl)
theorem impl_HypOf_a (x : GItem) : PCon Tryz.prog 310 [.agg (lc (GItem.c x))] fun res rows => res = .t (ai (hyp x)) ∧ rows = [] := by
  obtain ⟨a0, a1, a2, a3, a4, a5, a6, a7, a8⟩ := x
  obtain ⟨R, hR⟩ : ∃ R, R = within a0 a1 a2 := ⟨_, rfl⟩
  have hc := impl_Within_a a0 a1 a2
  rw [← hR] at hc
  refine pcon_run (c := body Tryz.f310) fits Tryz.func310 (by kernel_rfl) (by kernel_rfl) (by rfl) (by kernel_rfl) fun g F hg hF => ?_
  cbv
  refine call0 hg hc rfl rfl ?_
  cbv
  exact fin0i hF (by rw [hR]; rfl)

end Go.Proofs.YtdnnffbbhijmkaaGreat
