/- Lines: their length, how much they are spread, whether they are filled. -/
import Derived.Test.YtdnnffbbhijmkaaGreatC5
namespace Go.Proofs.YtdnnffbbhijmkaaGreat
open Go.ChangeShapes Go.WideShapes Go.ChangeAt Go.RowKit Am
set_option linter.unusedVariables false
set_option linter.unusedSimpArgs false
set_option maxRecDepth 100000

theorem RepS.len {α : Type} {k : Nat} {c : α → Array Value} {w : World} {v : Value} {xs : List α} (h : RepS k c w v xs) : xs.length ≤ 9223372036854775807 := by
  obtain ⟨p, cap, _, h1, h2, _⟩ := h
  exact Nat.le_trans h1 (Nat.le_trans h2 (by decide))
theorem toRow {P : Program} {f : FuncId} {args : List AT} {ab0 : AB} {q : AB → Prop} (hc : PCon P f args fun res rows => ∃ ab, res = .t (.c (.own 0)) ∧ rows = [ab] ∧ q ab ∧ ab = ab0) : PCon P f args fun res rows => res = .t (.c (.own 0)) ∧ rows = [ab0] :=
  Con.mono hc fun res h' ⟨rows, h1, ab, h2, h3, _, h4⟩ => ⟨rows, h1, h2, by rw [h3, h4]⟩
theorem vw_imm {α : Type} (c : α → Array Value) (xs : List α) : immE (vw c xs) = true := by
  simp only [immE, vw, List.all_map, List.all_eq_true]
  intro x _
  simp [lc]
def gapS (gap z : Int) : Int := if 0 < z then gap * (z - 1) else 0
def lenB (x : GItem) : Int := x.before + x.behind
def outer (xs : List GItem) (ys : List Int) (gap : Int) : Int := (xs.map lenB).sum + gapS gap xs.length + (ys.map id).sum
theorem gapS_succ {gap z : Int} (hz : 0 ≤ z) : gapS gap (z + 1) = gapS gap z + if 0 < z then gap else 0 := by
  unfold gapS
  rw [if_pos (by omega)]
  by_cases h : 0 < z
  · rw [if_pos h, if_pos h, show z + 1 - 1 = (z - 1) + 1 by omega, Int.mul_add, Int.mul_one]
  · rw [if_neg h, if_neg h, show z + 1 - 1 = 0 by omega, Int.mul_zero]; rfl
theorem spec_OuterOf_a (xs : List GItem) (ys : List Int) (gap : Int) (hx : xs.length ≤ 1048576) (hy : ys.length ≤ 1048576) : PCon Tryz.prog 338 [.c (.view (vw GItem.c xs)), .c (.view (vw intC ys)), ai gap] fun res rows => res = .t (ai (wrap64 (outer xs ys gap))) ∧ rows = [] := by
  obtain ⟨V, hV⟩ : ∃ V, V = vw GItem.c xs := ⟨_, rfl⟩
  obtain ⟨W, hW⟩ : ∃ W, W = vw intC ys := ⟨_, rfl⟩
  have hVl : V.length = xs.length := by rw [hV, vw_length]
  have hWl : W.length = ys.length := by rw [hW, vw_length]
  rw [← hV, ← hW]
  refine pcon_run (c := body Tryz.f338) fits Tryz.func338 (by kernel_rfl) (by kernel_rfl) (by rfl) (by kernel_rfl) fun g F hg hF => ?_
  cbv
  refine loop_run hg fits (by kernel_rfl) (fun s : Int × Int => [(0, .t (.c (.view V))), (1, .t (.c (.view W))), (2, .t (ai gap)), (7, .t (ai s.2)), (8, .t (ai s.1))]) (fun _ => []) (fun s => 0 ≤ s.1 ∧ s.1 ≤ lenI V ∧ s.2 = wrap64 (psum lenB xs s.1.toNat + gapS gap s.1)) (fun s => V.length - s.1.toNat)
    (0, 0) [] ⟨Int.le_refl 0, by have := lenI_eq V; simp only; omega, by rw [show ((0, 0) : Int × Int).1.toNat = 0 from rfl, psum_zero]; exact (wrap_small 0 (by omega)).symm⟩ (wk0 ⟨rfl, rfl, rfl, rfl, rfl, trivial⟩) (fun s B hs hB => ?_)
  obtain ⟨z, a⟩ := s
  obtain ⟨h0, h1, h2⟩ := hs
  simp only at h0 h1 h2
  cbv
  cases hc : g .q .lss z (g .ln V)
  · rw [goLss hg, goLn hg, decide_eq_false_iff_not] at hc
    cbv
    have ha : a = wrap64 ((xs.map lenB).sum + gapS gap xs.length) := by rw [h2, psum_all lenB (by have := lenI_eq V; omega), show z = (xs.length : Int) by have := lenI_eq V; omega]
    refine loop_run hg fits (by kernel_rfl) (fun s : Int × Int => [(1, .t (.c (.view W))), (7, .t (ai s.2)), (9, .t (ai s.1))]) (fun _ => []) (fun s => 0 ≤ s.1 ∧ s.1 ≤ lenI W ∧ s.2 = wrap64 ((xs.map lenB).sum + gapS gap xs.length + psum id ys s.1.toNat)) (fun s => W.length - s.1.toNat)
      (0, a) [] ⟨Int.le_refl 0, by have := lenI_eq W; simp only; omega, by rw [show ((0, a) : Int × Int).1.toNat = 0 from rfl, psum_zero, Int.add_zero]; exact ha⟩ (wk0 ⟨rfl, rfl, rfl, trivial⟩) (fun s B2 hs hB2 => ?_)
    obtain ⟨y, b⟩ := s
    obtain ⟨k0, k1, k2⟩ := hs
    simp only at k0 k1 k2
    cbv
    cases hd : g .q .lss y (g .ln W)
    · rw [goLss hg, goLn hg, decide_eq_false_iff_not] at hd
      cbv
      exact fin0i hF (by rw [k2, psum_all id (by have := lenI_eq W; omega)]; rfl)
    · rw [goLss hg, goLn hg, decide_eq_true_eq] at hd
      cbv
      have hle := lenI_eq W
      obtain ⟨x, hxx⟩ := at_z (xs := ys) k0 (by omega)
      have hyy : W[y.toNat]? = some (lc (intC x)) := by rw [hW]; exact vw_at hxx
      refine goX hg _ k0 hyy rfl ?_
      cbv
      have hle := lenI_eq W
      have e1 : g .w .add .i64 y 1 = y + 1 := by rw [goAdd hg, wrap_small _ (by omega)]
      rw [e1, goAdd hg]
      refine back hB2 (y + 1, _) [] (wk0 ⟨rfl, rfl, rfl, trivial⟩) ⟨by simp only; omega, by simp only; omega, ?_⟩ (by show W.length - (y + 1).toNat < W.length - y.toNat; omega)
      show wrap64 (b + x) = _
      rw [show (y + 1).toNat = y.toNat + 1 by omega, psum_succ id hxx, k2, wrap_l, Int.add_assoc]; rfl
  · rw [goLss hg, goLn hg, decide_eq_true_eq] at hc
    cbv
    have hle := lenI_eq V
    obtain ⟨x, hxx⟩ := at_z (xs := xs) h0 (by omega)
    have hyy : V[z.toNat]? = some (lc (GItem.c x)) := by rw [hV]; exact vw_at hxx
    have hs2 := psum_succ lenB hxx
    obtain ⟨a0, a1, a2, a3, a4, a5, a6, a7, a8⟩ := x
    refine goX hg _ h0 hyy rfl ?_
    cbv
    refine goX hg _ h0 hyy rfl ?_
    cbv
    have hle := lenI_eq V
    have e1 : g .w .add .i64 z 1 = z + 1 := by rw [goAdd hg, wrap_small _ (by omega)]
    have hg2 := gapS_succ (gap := gap) h0
    cases hp : g .q .gtr z 0
    · rw [goGtr hg, decide_eq_false_iff_not] at hp
      rw [if_neg (by omega), Int.add_zero] at hg2
      cbv
      rw [e1, goAdd hg, goAdd hg]
      refine back hB (z + 1, _) [] (wk0 ⟨rfl, rfl, rfl, rfl, rfl, trivial⟩) ⟨by simp only; omega, by simp only; omega, ?_⟩ (by have := lenI_eq V; show V.length - (z + 1).toNat < V.length - z.toNat; omega)
      show wrap64 (wrap64 (a + a5) + a6) = _
      rw [show (z + 1).toNat = z.toNat + 1 by omega, hs2, hg2, h2]
      simp only [wrap_l]
      exact congrArg wrap64 (by simp only [lenB]; omega)
    · rw [goGtr hg, decide_eq_true_eq] at hp
      rw [if_pos (by omega)] at hg2
      cbv
      rw [e1, goAdd hg, goAdd hg, goAdd hg]
      refine back hB (z + 1, _) [] (wk0 ⟨rfl, rfl, rfl, rfl, rfl, trivial⟩) ⟨by simp only; omega, by simp only; omega, ?_⟩ (by have := lenI_eq V; show V.length - (z + 1).toNat < V.length - z.toNat; omega)
      show wrap64 (wrap64 (wrap64 (a + a5) + a6) + gap) = _
      rw [show (z + 1).toNat = z.toNat + 1 by omega, hs2, hg2, h2]
      simp only [wrap_l]
      exact congrArg wrap64 (by simp only [lenB]; omega)
theorem impl_OuterOf_a (xs : List GItem) (ys : List Int) (gap : Int) (hx : xs.length ≤ 1048576) (hy : ys.length ≤ 1048576) : PCon Tryz.prog 252 [.c (.view (vw GItem.c xs)), .c (.view (vw intC ys)), ai gap] fun res rows => res = .t (ai (wrap64 (outer xs ys gap))) ∧ rows = [] := by
  obtain ⟨V, hV⟩ : ∃ V, V = vw GItem.c xs := ⟨_, rfl⟩
  obtain ⟨W, hW⟩ : ∃ W, W = vw intC ys := ⟨_, rfl⟩
  have hVl : V.length = xs.length := by rw [hV, vw_length]
  have hWl : W.length = ys.length := by rw [hW, vw_length]
  rw [← hV, ← hW]
  refine pcon_run (c := body Tryz.f252) fits Tryz.func252 (by kernel_rfl) (by kernel_rfl) (by rfl) (by kernel_rfl) fun g F hg hF => ?_
  cbv
  refine loop_run hg fits (by kernel_rfl) (fun s : Int × Int => [(0, .t (.c (.view V))), (2, .t (ai gap)), (7, .t (ai s.2)), (12, .t (.c (.view W))), (13, .t (ai (g .ln W))), (14, .t (ai s.1))]) (fun _ => []) (fun s => 0 ≤ s.1 ∧ s.1 ≤ lenI W ∧ s.2 = wrap64 (psum id ys s.1.toNat)) (fun s => W.length - s.1.toNat)
    (0, 0) [] ⟨Int.le_refl 0, by have := lenI_eq W; simp only; omega, by rw [show ((0, 0) : Int × Int).1.toNat = 0 from rfl, psum_zero]; exact (wrap_small 0 (by omega)).symm⟩ (wk0 ⟨rfl, rfl, rfl, rfl, rfl, rfl, trivial⟩) (fun s B hs hB => ?_)
  obtain ⟨z, a⟩ := s
  obtain ⟨h0, h1, h2⟩ := hs
  simp only at h0 h1 h2
  cbv
  cases hc : g .q .lss z (g .ln W)
  · rw [goLss hg, goLn hg, decide_eq_false_iff_not] at hc
    cbv
    have ha : a = wrap64 ((ys.map id).sum) := by rw [h2, psum_all id (by have := lenI_eq W; omega)]
    refine loop_run hg fits (by kernel_rfl) (fun s : Int × Int => [(0, .t (.c (.view V))), (2, .t (ai gap)), (7, .t (ai s.2)), (22, .t (.c (.view V))), (23, .t (ai (g .ln V))), (24, .t (ai s.1))]) (fun _ => []) (fun s => 0 ≤ s.1 ∧ s.1 ≤ lenI V ∧ s.2 = wrap64 ((ys.map id).sum + psum lenB xs s.1.toNat)) (fun s => V.length - s.1.toNat)
      (0, a) [] ⟨Int.le_refl 0, by have := lenI_eq V; simp only; omega, by rw [show ((0, a) : Int × Int).1.toNat = 0 from rfl, psum_zero, Int.add_zero]; exact ha⟩ (wk0 ⟨rfl, rfl, rfl, rfl, rfl, rfl, trivial⟩) (fun s B2 hs hB2 => ?_)
    obtain ⟨y, b⟩ := s
    obtain ⟨k0, k1, k2⟩ := hs
    simp only at k0 k1 k2
    cbv
    cases hd : g .q .lss y (g .ln V)
    · rw [goLss hg, goLn hg, decide_eq_false_iff_not] at hd
      cbv
      have kb : b = wrap64 ((ys.map id).sum + (xs.map lenB).sum) := by rw [k2, psum_all lenB (by have := lenI_eq V; omega)]
      have hle := lenI_eq V
      cases he : g .q .gtr (g .ln V) 0
      · rw [goGtr hg, goLn hg, decide_eq_false_iff_not] at he
        cbv
        have hle := lenI_eq V
        exact fin0i hF (by rw [kb]; unfold outer gapS; rw [if_neg (by omega)]; exact congrArg wrap64 (by omega))
      · rw [goGtr hg, goLn hg, decide_eq_true_eq] at he
        cbv
        have hle := lenI_eq V
        exact fin0i hF (by
          rw [goAdd hg, goMul hg, goSub hg, goLn hg, wrap_small (lenI V - 1) (by omega), kb, wrap_l, wrap_r]
          unfold outer gapS
          rw [if_pos (by omega), show lenI V = (xs.length : Int) by omega]
          exact congrArg wrap64 (by omega))
    · rw [goLss hg, goLn hg, decide_eq_true_eq] at hd
      cbv
      have hle := lenI_eq V
      obtain ⟨x, hxx⟩ := at_z (xs := xs) k0 (by omega)
      have hyy : V[y.toNat]? = some (lc (GItem.c x)) := by rw [hV]; exact vw_at hxx
      have hs2 := psum_succ lenB hxx
      obtain ⟨a0, a1, a2, a3, a4, a5, a6, a7, a8⟩ := x
      refine goX hg _ k0 hyy rfl ?_
      cbv
      have hle := lenI_eq V
      have e1 : g .w .add .i64 y 1 = y + 1 := by rw [goAdd hg, wrap_small _ (by omega)]
      rw [e1, goAdd hg, goAdd hg]
      refine back hB2 (y + 1, _) [] (wkS [] (by decide) trivial ⟨rfl, rfl, rfl, rfl, rfl, rfl, trivial⟩) ⟨by simp only; omega, by simp only; omega, ?_⟩ (by show V.length - (y + 1).toNat < V.length - y.toNat; omega)
      show wrap64 (b + wrap64 (a5 + a6)) = _
      rw [show (y + 1).toNat = y.toNat + 1 by omega, hs2, k2, wrap_l, wrap_r]
      exact congrArg wrap64 (by simp only [lenB]; omega)
  · rw [goLss hg, goLn hg, decide_eq_true_eq] at hc
    cbv
    have hle := lenI_eq W
    obtain ⟨x, hxx⟩ := at_z (xs := ys) h0 (by omega)
    have hyy : W[z.toNat]? = some (lc (intC x)) := by rw [hW]; exact vw_at hxx
    refine goX hg _ h0 hyy rfl ?_
    cbv
    have hle := lenI_eq W
    have e1 : g .w .add .i64 z 1 = z + 1 := by rw [goAdd hg, wrap_small _ (by omega)]
    rw [e1, goAdd hg]
    refine back hB (z + 1, _) [] (wk0 ⟨rfl, rfl, rfl, rfl, rfl, rfl, trivial⟩) ⟨by simp only; omega, by simp only; omega, ?_⟩ (by show W.length - (z + 1).toNat < W.length - z.toNat; omega)
    show wrap64 (a + x) = _
    rw [show (z + 1).toNat = z.toNat + 1 by omega, psum_succ id hxx, h2, wrap_l]; rfl


end Go.Proofs.YtdnnffbbhijmkaaGreat
