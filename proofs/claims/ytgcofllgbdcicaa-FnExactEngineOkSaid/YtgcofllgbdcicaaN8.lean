/- Valid engines: the law. -/
import Derived.Test.YtgcofllgbdcicaaN6
import Derived.Test.YtgcofllgbdcicaaN7
namespace Go.Proofs.Ytgcofllgbdcicaa
open Go.ChangeShapes Go.WideShapes Go.ChangeAt Go.RowKit Am
set_option linter.unusedVariables false
set_option linter.unusedSimpArgs false
set_option maxRecDepth 100000

set_option maxHeartbeats 8000000 in
theorem spec_EngineOk_a (x : NEngine) (hs : x.small) : PCon Try.prog 5 [.agg x.ac] fun res rows => res = .t (abl (treeB x.tree.nodes)) ∧ rows = [] := by
  obtain ⟨⟨a0⟩, ⟨a1, a2⟩, a3, a4, a5, a6, a7⟩ := x
  obtain ⟨sa0, ua0, -⟩ := hs
  have cT := spec_TreeOk_a a0 sa0 ua0
  show PCon _ _ [.agg [.view (vwA NNode.ac a0), .view (vwA NMemo.ac a1), .view (vw GAsked.c a2), .view (vw GFrame.c a3), .imm (.int .i64 a4), .imm (.int .i64 a5), .imm (.int .i64 a6), .imm (.bool a7)]] (fun res rows => res = .t (abl (treeB a0)) ∧ rows = [])
  obtain ⟨R, hR⟩ : ∃ R, R = treeB a0 := ⟨_, rfl⟩
  obtain ⟨Va0, hVa0⟩ : ∃ V, V = vwA NNode.ac a0 := ⟨_, rfl⟩
  obtain ⟨Va1, hVa1⟩ : ∃ V, V = vwA NMemo.ac a1 := ⟨_, rfl⟩
  obtain ⟨Va2, hVa2⟩ : ∃ V, V = vw GAsked.c a2 := ⟨_, rfl⟩
  obtain ⟨Va3, hVa3⟩ : ∃ V, V = vw GFrame.c a3 := ⟨_, rfl⟩
  rw [← hR, ← hVa0] at cT
  rw [← hVa0, ← hVa1, ← hVa2, ← hVa3, ← hR]
  refine pcon_run (c := body Try.f5) fits Try.func5 (by kernel_rfl) (by kernel_rfl) (by rfl) (by kernel_rfl) fun g F hg hF => ?_
  cbv
  (first | refine call0 hg cT rfl rfl ?_ | refine call0P hg cT rfl rfl ?_)
  cbv
  exact fin0b hF rfl
set_option maxHeartbeats 8000000 in
theorem impl_EngineOk_a (x : NEngine) (hs : x.small) : PCon Try.prog 7 [.agg x.ac] fun res rows => res = .t (abl (treeB x.tree.nodes)) ∧ rows = [] := by
  obtain ⟨⟨a0⟩, ⟨a1, a2⟩, a3, a4, a5, a6, a7⟩ := x
  obtain ⟨sa0, ua0, -⟩ := hs
  have cT := impl_TreeOk_a a0 sa0 ua0
  show PCon _ _ [.agg [.view (vwA NNode.ac a0), .view (vwA NMemo.ac a1), .view (vw GAsked.c a2), .view (vw GFrame.c a3), .imm (.int .i64 a4), .imm (.int .i64 a5), .imm (.int .i64 a6), .imm (.bool a7)]] (fun res rows => res = .t (abl (treeB a0)) ∧ rows = [])
  obtain ⟨R, hR⟩ : ∃ R, R = treeB a0 := ⟨_, rfl⟩
  obtain ⟨Va0, hVa0⟩ : ∃ V, V = vwA NNode.ac a0 := ⟨_, rfl⟩
  obtain ⟨Va1, hVa1⟩ : ∃ V, V = vwA NMemo.ac a1 := ⟨_, rfl⟩
  obtain ⟨Va2, hVa2⟩ : ∃ V, V = vw GAsked.c a2 := ⟨_, rfl⟩
  obtain ⟨Va3, hVa3⟩ : ∃ V, V = vw GFrame.c a3 := ⟨_, rfl⟩
  rw [← hR, ← hVa0] at cT
  rw [← hVa0, ← hVa1, ← hVa2, ← hVa3, ← hR]
  refine pcon_run (c := body Try.f7) fits Try.func7 (by kernel_rfl) (by kernel_rfl) (by rfl) (by kernel_rfl) fun g F hg hF => ?_
  cbv
  (first | refine call0 hg cT rfl rfl ?_ | refine call0P hg cT rfl rfl ?_)
  cbv
  exact fin0b hF rfl
set_option maxHeartbeats 8000000 in
theorem laws_FnExactEngineOk_a (x : NEngine) (hf : x.fit) : PCon Try.prog 3 [.agg x.ac] fun res rows => res = .t (abl true) ∧ rows = [] := by
  have cz := laws_szEngine_n x 1048576 hf (by decide) (by decide)
  have ct := fun hs => laws_toEngine_n x hs
  have ce := fun hs => laws_eqEngine_n x hs
  have cs := fun hs => spec_EngineOk_a x hs
  have ci := fun hs => impl_EngineOk_a x hs
  obtain ⟨S, hS⟩ : ∃ S : Prop, S = x.small := ⟨_, rfl⟩
  obtain ⟨R, hR⟩ : ∃ R, R = treeB x.tree.nodes := ⟨_, rfl⟩
  rw [← hS] at cz ct ce cs ci
  rw [← hR] at cs ci
  clear hS hR hf
  obtain ⟨⟨a0⟩, ⟨a1, a2⟩, a3, a4, a5, a6, a7⟩ := x
  obtain ⟨Va0, hVa0⟩ : ∃ V, V = vwA NNode.ac a0 := ⟨_, rfl⟩
  obtain ⟨Va1, hVa1⟩ : ∃ V, V = vwA NMemo.ac a1 := ⟨_, rfl⟩
  obtain ⟨Va2, hVa2⟩ : ∃ V, V = vw GAsked.c a2 := ⟨_, rfl⟩
  obtain ⟨Va3, hVa3⟩ : ∃ V, V = vw GFrame.c a3 := ⟨_, rfl⟩
  have hac : NEngine.ac ⟨⟨a0⟩, ⟨a1, a2⟩, a3, a4, a5, a6, a7⟩ = [.view Va0, .view Va1, .view Va2, .view Va3, .imm (.int .i64 a4), .imm (.int .i64 a5), .imm (.int .i64 a6), .imm (.bool a7)] := by rw [hVa0, hVa1, hVa2, hVa3]; rfl
  rw [hac] at cz ct ce cs ci ⊢
  refine pcon_run (c := body Try.f3) fits Try.func3 (by kernel_rfl) (by kernel_rfl) (by rfl) (by kernel_rfl) fun g F hg hF => ?_
  cbv
  refine callZ hg cz rfl (fun Z hZ => ?_)
  obtain ⟨_, hZ⟩ := hZ
  cbv
  cases e : g .q .lss Z 0
  case true =>
    cbv
    exact fin0b hF rfl
  rw [goLss hg, decide_eq_false_iff_not] at e
  have hs := hZ (by omega)
  replace ct := ct hs
  replace ce := ce hs
  replace cs := cs hs
  replace ci := ci hs
  have eq : g .qb .neq R R = false := by rw [goNeqB hg]; simp
  cbv
  repeat' (first | (refine call0 hg ct rfl rfl ?_; cbv) | (refine call0P hg ct rfl rfl ?_; cbv) | (refine call0 hg cs rfl rfl ?_; cbv) | (refine call0 hg ci rfl rfl ?_; cbv) | (refine call0P hg cs rfl rfl ?_; cbv) | (refine call0P hg ci rfl rfl ?_; cbv) | (refine call0 hg ce rfl rfl ?_; cbv) | (refine call0P hg ce rfl rfl ?_; cbv) | (rw [eq]; cbv))
  exact fin0b hF rfl

end Go.Proofs.Ytgcofllgbdcicaa
