/- Lines of items: lengths within bounds, sums over a line. -/
import Derived.Test.YtcohgnecmgcajaaC1
namespace Go.Proofs.Ytcohgnecmgcajaa
open Go.ChangeShapes Go.WideShapes Go.ChangeAt Go.RowKit Am
set_option linter.unusedVariables false
set_option linter.unusedSimpArgs false
set_option maxRecDepth 100000

def within (n l m : Int) : Int := if (if m < 0 then n else if m < n then m else n) < l then l else if m < 0 then n else if m < n then m else n
def psum {α : Type} (f : α → Int) (xs : List α) (n : Nat) : Int := ((xs.take n).map f).sum
theorem psum_zero {α : Type} (f : α → Int) (xs : List α) : psum f xs 0 = 0 := by simp [psum]
theorem psum_succ {α : Type} (f : α → Int) {xs : List α} {n : Nat} {x : α} (h : xs[n]? = some x) : psum f xs (n + 1) = psum f xs n + f x := by
  simp [psum, List.take_add_one, h]
theorem psum_all {α : Type} (f : α → Int) {xs : List α} {n : Nat} (h : xs.length ≤ n) : psum f xs n = (xs.map f).sum := by
  rw [psum, List.take_of_length_le h]
theorem wrap_l (a b : Int) : wrap64 (wrap64 a + b) = wrap64 (a + b) := by unfold wrap64; omega
theorem wrap_ls (a b : Int) : wrap64 (wrap64 a - b) = wrap64 (a - b) := by unfold wrap64; omega
theorem wrap_r (a b : Int) : wrap64 (a + wrap64 b) = wrap64 (a + b) := by unfold wrap64; omega
theorem vw_k {α : Type} {c : α → Array Value} {k : Nat} (hk : ∀ x, (c x).size = k) {xs : List α} : ∀ y ∈ vw c xs, y.length = k := by
  intro y hy
  simp only [vw, List.mem_map] at hy
  obtain ⟨x, _, rfl⟩ := hy
  rw [lc_len]; exact hk x
theorem lc_dat (a : Array Value) : (lc a).all dat = true := by simp [lc, dat]
theorem vw_dat {α : Type} {c : α → Array Value} {xs : List α} : ∀ y ∈ vw c xs, y.all dat = true := by
  intro y hy
  simp only [vw, List.mem_map] at hy
  obtain ⟨x, _, rfl⟩ := hy
  exact lc_dat _
def hyp (x : GItem) : Int := within x.base x.least x.most
def spreadE (xs : List GItem) (ys : List Int) : Int := (ys.map id).sum - (xs.map hyp).sum
theorem spec_Within_a (n l m : Int) : PCon Try.prog 56 [ai n, ai l, ai m] fun res rows => res = .t (ai (within n l m)) ∧ rows = [] := by
  refine pcon_run (c := body Try.f56) fits Try.func56 (by kernel_rfl) (by kernel_rfl) (by rfl) (by kernel_rfl) fun g F hg hF => ?_
  cbv
  cases e1 : g .q .geq m 0
  · rw [goGeq hg, decide_eq_false_iff_not] at e1
    cbv
    cases e3 : g .q .lss n l
    · rw [goLss hg, decide_eq_false_iff_not] at e3
      cbv
      exact fin0i hF (by unfold within; omega)
    · rw [goLss hg, decide_eq_true_eq] at e3
      cbv
      exact fin0i hF (by unfold within; omega)
  · rw [goGeq hg, decide_eq_true_eq] at e1
    cbv
    cases e2 : g .q .gtr n m
    · rw [goGtr hg, decide_eq_false_iff_not] at e2
      cbv
      cases e3 : g .q .lss n l
      · rw [goLss hg, decide_eq_false_iff_not] at e3
        cbv
        exact fin0i hF (by unfold within; omega)
      · rw [goLss hg, decide_eq_true_eq] at e3
        cbv
        exact fin0i hF (by unfold within; omega)
    · rw [goGtr hg, decide_eq_true_eq] at e2
      cbv
      cases e3 : g .q .lss m l
      · rw [goLss hg, decide_eq_false_iff_not] at e3
        cbv
        exact fin0i hF (by unfold within; omega)
      · rw [goLss hg, decide_eq_true_eq] at e3
        cbv
        exact fin0i hF (by unfold within; omega)
theorem impl_Within_a (n l m : Int) : PCon Try.prog 58 [ai n, ai l, ai m] fun res rows => res = .t (ai (within n l m)) ∧ rows = [] := by
  refine pcon_run (c := body Try.f58) fits Try.func58 (by kernel_rfl) (by kernel_rfl) (by rfl) (by kernel_rfl) fun g F hg hF => ?_
  cbv
  cases e1 : g .q .geq m 0
  · rw [goGeq hg, decide_eq_false_iff_not] at e1
    cbv
    exact fin0i hF (by rw [goMx hg]; unfold within; omega)
  · rw [goGeq hg, decide_eq_true_eq] at e1
    cbv
    exact fin0i hF (by rw [goMx hg, goMn hg]; unfold within; omega)
theorem spec_HypOf_a (x : GItem) : PCon Try.prog 38 [.agg (lc (GItem.c x))] fun res rows => res = .t (ai (hyp x)) ∧ rows = [] := by
  obtain ⟨a0, a1, a2, a3, a4, a5, a6, a7, a8⟩ := x
  obtain ⟨R, hR⟩ : ∃ R, R = within a0 a1 a2 := ⟨_, rfl⟩
  have hc := spec_Within_a a0 a1 a2
  rw [← hR] at hc
  refine pcon_run (c := body Try.f38) fits Try.func38 (by kernel_rfl) (by kernel_rfl) (by rfl) (by kernel_rfl) fun g F hg hF => ?_
  cbv
  refine call0 hg hc rfl rfl ?_
  cbv
  exact fin0i hF (by rw [hR]; rfl)
theorem impl_HypOf_a (x : GItem) : PCon Try.prog 44 [.agg (lc (GItem.c x))] fun res rows => res = .t (ai (hyp x)) ∧ rows = [] := by
  obtain ⟨a0, a1, a2, a3, a4, a5, a6, a7, a8⟩ := x
  obtain ⟨R, hR⟩ : ∃ R, R = within a0 a1 a2 := ⟨_, rfl⟩
  have hc := impl_Within_a a0 a1 a2
  rw [← hR] at hc
  refine pcon_run (c := body Try.f44) fits Try.func44 (by kernel_rfl) (by kernel_rfl) (by rfl) (by kernel_rfl) fun g F hg hF => ?_
  cbv
  refine call0 hg hc rfl rfl ?_
  cbv
  exact fin0i hF (by rw [hR]; rfl)
theorem spec_SpreadOf_a (xs : List GItem) (ys : List Int) (hx : xs.length ≤ 1048576) (hy : ys.length ≤ 1048576) : PCon Try.prog 23 [.c (.view (vw GItem.c xs)), .c (.view (vw intC ys))] fun res rows => res = .t (ai (wrap64 (spreadE xs ys))) ∧ rows = [] := by
  obtain ⟨V, hV⟩ : ∃ V, V = vw GItem.c xs := ⟨_, rfl⟩
  obtain ⟨W, hW⟩ : ∃ W, W = vw intC ys := ⟨_, rfl⟩
  have hVl : V.length = xs.length := by rw [hV, vw_length]
  have hWl : W.length = ys.length := by rw [hW, vw_length]
  rw [← hV, ← hW]
  refine pcon_run (c := body Try.f23) fits Try.func23 (by kernel_rfl) (by kernel_rfl) (by rfl) (by kernel_rfl) fun g F hg hF => ?_
  cbv
  refine loop_run hg fits (by kernel_rfl) (fun s : Int × Int => [(0, .t (.c (.view V))), (1, .t (.c (.view W))), (5, .t (ai s.2)), (6, .t (ai s.1))]) (fun _ => []) (fun s => 0 ≤ s.1 ∧ s.1 ≤ lenI W ∧ s.2 = wrap64 (psum id ys s.1.toNat)) (fun s => W.length - s.1.toNat)
    (0, 0) [] ⟨Int.le_refl 0, by have := lenI_eq W; simp only; omega, by rw [show ((0, 0) : Int × Int).1.toNat = 0 from rfl, psum_zero]; exact (wrap_small 0 (by omega)).symm⟩ (wk0 ⟨rfl, rfl, rfl, rfl, trivial⟩) (fun s B hs hB => ?_)
  obtain ⟨z, a⟩ := s
  obtain ⟨h0, h1, h2⟩ := hs
  simp only at h0 h1 h2
  cbv
  cases hc : g .q .lss z (g .ln W)
  · rw [goLss hg, goLn hg, decide_eq_false_iff_not] at hc
    cbv
    have ha : a = wrap64 ((ys.map id).sum) := by rw [h2, psum_all id (by have := lenI_eq W; omega)]
    refine loop_run hg fits (by kernel_rfl) (fun s : Int × Int => [(0, .t (.c (.view V))), (5, .t (ai s.2)), (7, .t (ai s.1))]) (fun _ => []) (fun s => 0 ≤ s.1 ∧ s.1 ≤ lenI V ∧ s.2 = wrap64 ((ys.map id).sum - psum hyp xs s.1.toNat)) (fun s => V.length - s.1.toNat)
      (0, a) [] ⟨Int.le_refl 0, by have := lenI_eq V; simp only; omega, by rw [show ((0, a) : Int × Int).1.toNat = 0 from rfl, psum_zero, Int.sub_zero]; exact ha⟩ (wk0 ⟨rfl, rfl, rfl, trivial⟩) (fun s B2 hs hB2 => ?_)
    obtain ⟨y, b⟩ := s
    obtain ⟨k0, k1, k2⟩ := hs
    simp only at k0 k1 k2
    cbv
    cases hd : g .q .lss y (g .ln V)
    · rw [goLss hg, goLn hg, decide_eq_false_iff_not] at hd
      cbv
      exact fin0i hF (by rw [k2, psum_all hyp (by have := lenI_eq V; omega)]; rfl)
    · rw [goLss hg, goLn hg, decide_eq_true_eq] at hd
      cbv
      have hle := lenI_eq V
      obtain ⟨x, hxx⟩ := at_z (xs := xs) k0 (by omega)
      have hyy : V[y.toNat]? = some (lc (GItem.c x)) := by rw [hV]; exact vw_at hxx
      have hs2 := psum_succ hyp hxx
      obtain ⟨R, hR⟩ : ∃ R, R = hyp x := ⟨_, rfl⟩
      have hcc := spec_HypOf_a x
      rw [← hR] at hcc hs2
      obtain ⟨a0, a1, a2, a3, a4, a5, a6, a7, a8⟩ := x
      refine goX hg _ k0 hyy rfl ?_
      cbv
      refine call0 hg hcc rfl rfl ?_
      cbv
      have hle := lenI_eq V
      have e1 : g .w .add .i64 y 1 = y + 1 := by rw [goAdd hg, wrap_small _ (by omega)]
      rw [e1, goSub hg]
      refine back hB2 (y + 1, _) [] (wk0 ⟨rfl, rfl, rfl, trivial⟩) ⟨by simp only; omega, by simp only; omega, ?_⟩ (by show V.length - (y + 1).toNat < V.length - y.toNat; omega)
      show wrap64 (b - R) = _
      rw [show (y + 1).toNat = y.toNat + 1 by omega, hs2, k2, wrap_ls, Int.sub_sub]
  · rw [goLss hg, goLn hg, decide_eq_true_eq] at hc
    cbv
    have hle := lenI_eq W
    obtain ⟨x, hxx⟩ := at_z (xs := ys) h0 (by omega)
    have hyy : W[z.toNat]? = some (lc (intC x)) := by rw [hW]; exact vw_at hxx
    refine goX hg _ h0 hyy rfl ?_
    cbv
    have hle := lenI_eq W
    have e1 : g .w .add .i64 z 1 = z + 1 := by rw [goAdd hg, wrap_small _ (by omega)]
    rw [e1, goAdd hg]
    refine back hB (z + 1, _) [] (wk0 ⟨rfl, rfl, rfl, rfl, trivial⟩) ⟨by simp only; omega, by simp only; omega, ?_⟩ (by show W.length - (z + 1).toNat < W.length - z.toNat; omega)
    show wrap64 (a + x) = _
    rw [show (z + 1).toNat = z.toNat + 1 by omega, psum_succ id hxx, h2, wrap_l]; rfl
theorem impl_SpreadOf_a (xs : List GItem) (ys : List Int) (hx : xs.length ≤ 1048576) (hy : ys.length ≤ 1048576) : PCon Try.prog 22 [.c (.view (vw GItem.c xs)), .c (.view (vw intC ys))] fun res rows => res = .t (ai (wrap64 (spreadE xs ys))) ∧ rows = [] := by
  obtain ⟨V, hV⟩ : ∃ V, V = vw GItem.c xs := ⟨_, rfl⟩
  obtain ⟨W, hW⟩ : ∃ W, W = vw intC ys := ⟨_, rfl⟩
  have hVl : V.length = xs.length := by rw [hV, vw_length]
  have hWl : W.length = ys.length := by rw [hW, vw_length]
  rw [← hV, ← hW]
  refine pcon_run (c := body Try.f22) fits Try.func22 (by kernel_rfl) (by kernel_rfl) (by rfl) (by kernel_rfl) fun g F hg hF => ?_
  cbv
  refine loop_run hg fits (by kernel_rfl) (fun s : Int × Int => [(0, .t (.c (.view V))), (5, .t (ai s.2)), (10, .t (.c (.view W))), (11, .t (ai (g .ln W))), (12, .t (ai s.1))]) (fun _ => []) (fun s => 0 ≤ s.1 ∧ s.1 ≤ lenI W ∧ s.2 = wrap64 (psum id ys s.1.toNat)) (fun s => W.length - s.1.toNat)
    (0, 0) [] ⟨Int.le_refl 0, by have := lenI_eq W; simp only; omega, by rw [show ((0, 0) : Int × Int).1.toNat = 0 from rfl, psum_zero]; exact (wrap_small 0 (by omega)).symm⟩ (wk0 ⟨rfl, rfl, rfl, rfl, rfl, trivial⟩) (fun s B hs hB => ?_)
  obtain ⟨z, a⟩ := s
  obtain ⟨h0, h1, h2⟩ := hs
  simp only at h0 h1 h2
  cbv
  cases hc : g .q .lss z (g .ln W)
  · rw [goLss hg, goLn hg, decide_eq_false_iff_not] at hc
    cbv
    have ha : a = wrap64 ((ys.map id).sum) := by rw [h2, psum_all id (by have := lenI_eq W; omega)]
    refine loop_run hg fits (by kernel_rfl) (fun s : Int × Int => [(5, .t (ai s.2)), (20, .t (.c (.view V))), (21, .t (ai (g .ln V))), (22, .t (ai s.1))]) (fun _ => []) (fun s => 0 ≤ s.1 ∧ s.1 ≤ lenI V ∧ s.2 = wrap64 ((ys.map id).sum - psum hyp xs s.1.toNat)) (fun s => V.length - s.1.toNat)
      (0, a) [] ⟨Int.le_refl 0, by have := lenI_eq V; simp only; omega, by rw [show ((0, a) : Int × Int).1.toNat = 0 from rfl, psum_zero, Int.sub_zero]; exact ha⟩ (wk0 ⟨rfl, rfl, rfl, rfl, trivial⟩) (fun s B2 hs hB2 => ?_)
    obtain ⟨y, b⟩ := s
    obtain ⟨k0, k1, k2⟩ := hs
    simp only at k0 k1 k2
    cbv
    cases hd : g .q .lss y (g .ln V)
    · rw [goLss hg, goLn hg, decide_eq_false_iff_not] at hd
      cbv
      exact fin0i hF (by rw [k2, psum_all hyp (by have := lenI_eq V; omega)]; rfl)
    · rw [goLss hg, goLn hg, decide_eq_true_eq] at hd
      cbv
      have hle := lenI_eq V
      obtain ⟨x, hxx⟩ := at_z (xs := xs) k0 (by omega)
      have hyy : V[y.toNat]? = some (lc (GItem.c x)) := by rw [hV]; exact vw_at hxx
      have hs2 := psum_succ hyp hxx
      obtain ⟨R, hR⟩ : ∃ R, R = hyp x := ⟨_, rfl⟩
      have hcc := impl_HypOf_a x
      rw [← hR] at hcc hs2
      obtain ⟨a0, a1, a2, a3, a4, a5, a6, a7, a8⟩ := x
      refine goX hg _ k0 hyy rfl ?_
      cbv
      refine call0 hg hcc rfl rfl ?_
      cbv
      have hle := lenI_eq V
      have e1 : g .w .add .i64 y 1 = y + 1 := by rw [goAdd hg, wrap_small _ (by omega)]
      rw [e1, goSub hg]
      refine back hB2 (y + 1, _) [] (wkS [] (by decide) trivial ⟨rfl, rfl, rfl, rfl, trivial⟩) ⟨by simp only; omega, by simp only; omega, ?_⟩ (by show V.length - (y + 1).toNat < V.length - y.toNat; omega)
      show wrap64 (b - R) = _
      rw [show (y + 1).toNat = y.toNat + 1 by omega, hs2, k2, wrap_ls, Int.sub_sub]
  · rw [goLss hg, goLn hg, decide_eq_true_eq] at hc
    cbv
    have hle := lenI_eq W
    obtain ⟨x, hxx⟩ := at_z (xs := ys) h0 (by omega)
    have hyy : W[z.toNat]? = some (lc (intC x)) := by rw [hW]; exact vw_at hxx
    refine goX hg _ h0 hyy rfl ?_
    cbv
    have hle := lenI_eq W
    have e1 : g .w .add .i64 z 1 = z + 1 := by rw [goAdd hg, wrap_small _ (by omega)]
    rw [e1, goAdd hg]
    refine back hB (z + 1, _) [] (wk0 ⟨rfl, rfl, rfl, rfl, rfl, trivial⟩) ⟨by simp only; omega, by simp only; omega, ?_⟩ (by show W.length - (z + 1).toNat < W.length - z.toNat; omega)
    show wrap64 (a + x) = _
    rw [show (z + 1).toNat = z.toNat + 1 by omega, psum_succ id hxx, h2, wrap_l]; rfl

end Go.Proofs.Ytcohgnecmgcajaa
