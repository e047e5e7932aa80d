/- A node's style is set. Engines in which a node's style is set. Engines of one's own making; marks on engines, and what is found of them. -/
import Derived.Test.YtenbloaopcfdlaaGreatKbg
namespace Go.Proofs.YtenbloaopcfdlaaGreat
open Go.ChangeShapes Go.WideShapes Go.ChangeAt Go.RowKit Am
set_option linter.unusedVariables false
set_option linter.unusedSimpArgs false
set_option maxRecDepth 100000
def seN (ns : List NNode) (n : Int) (s : GStyle) : List NNode := match setO ns n && stOk s, ns[(n - 1).toNat]? with | true, some x => ns.set (n - 1).toNat { x with style := s } | _, _ => ns
def seI (ns : List NNode) (n : Int) (s : GStyle) : Int := if setO ns n = true then (if stOk s = true then 0 else 4) else 1
set_option maxHeartbeats 16000000 in
theorem impl_SetStyle_t (ns : List NNode) (hl : ns.length ≤ 1048576) (hs : ∀ y ∈ ns, NNode.small y) (n : Int) (s : GStyle) : TCon Tryz.prog 63 [.agg [.view (vwA NNode.ac ns)], ai n, .agg (lc (GStyle.c s))] fun lo res rows => (∃ b0, res = .tup [.agg [.fv b0 (vwA NNode.ac (seN ns n s))], ai (seI ns n s)] ∧ NewB lo b0) ∧ plainV res = true ∧ rows = [] := by
  have ck := impl_copyTree_t ns hl hs
  have cT := impl_TreeOk_a ns hl hs
  have cS := impl_StyleOk_a s
  obtain ⟨M, hM⟩ : ∃ M, M = vwA NNode.ac ns := ⟨_, rfl⟩
  have hMx : lenI M = (ns.length : Int) := by rw [lenI_eq, hM, vwA_length]
  have cn := impl_isNode_a M n
  have hin : isN ns n = rng n 1 (lenI M) := by rw [hMx]; rfl
  rw [← hin] at cn
  obtain ⟨W, hW⟩ : ∃ W, W = vwA NNode.ac (seN ns n s) := ⟨_, rfl⟩
  obtain ⟨AI, hAI⟩ : ∃ W, W = seI ns n s := ⟨_, rfl⟩
  have hq1 : setO ns n = false → W = M ∧ AI = 1 := fun h => ⟨by rw [hW, hM]; unfold seN; rw [h]; rfl, by rw [hAI]; unfold seI; rw [if_neg (by rw [h]; decide)]⟩
  have hq2 : setO ns n = true → stOk s = false → W = M ∧ AI = 4 := fun h h' => ⟨by rw [hW, hM]; unfold seN; rw [h, h']; rfl, by rw [hAI]; unfold seI; rw [if_pos h, if_neg (by rw [h']; decide)]⟩
  have hq3 : setO ns n = true → stOk s = true → AI = 0 ∧ 0 ≤ n - 1 ∧ (n - 1).toNat < M.length ∧ n ≤ 1048576 ∧ ∃ u K R t m, M[(n - 1).toNat]? = some (nodeA u K R t m) ∧ W = M.set (n - 1).toNat (nodeA u K R s m) := fun h h' => by
    have hi : isN ns n = true := by unfold setO at h; simp only [Bool.and_eq_true] at h; exact h.2
    obtain ⟨i1, i2, x, hx⟩ := isN_at hi
    refine ⟨by rw [hAI]; unfold seI; rw [if_pos h, if_pos h'], by omega, by rw [hM, vwA_length]; exact (List.getElem?_eq_some_iff.1 hx).1, by omega, x.up, vw intC x.kids, vw GRule.c x.table.rules, x.style, x.measured, by rw [hM]; exact vwA_at hx, ?_⟩
    rw [hW, hM]; unfold seN; rw [h, h', hx]; exact vwA_set ns _ _
  rw [← hM] at ck cT
  rw [← hM, ← hW, ← hAI]
  clear hin hMx hM hW hAI
  refine tcon_run ([]) ([]) (c := body Tryz.f63) fits Tryz.func63 (by kernel_rfl) (by kernel_rfl) (by rfl) (by kernel_rfl) fun β g eff hd F heff hhd hg hF => ?_
  cbv
  refine callTR1 hg ck (dwA_same rfl) (fun lo E h => bare_plainE h.bare) (fun lo E q1 q2 q3 hE => ?_)
  clear q2 q3
  replace hE : CopyE 64 E M β.lo := ⟨hE.kk, hE.bare, hE.eq, hE.new.mono q1⟩
  clear q1
  cbv
  cases hTB : treeB ns
  case false =>
    rw [hTB] at cT
    refine call0 hg cT rfl rfl ?_
    cbv
    obtain ⟨h1, h2⟩ := hq1 (by unfold setO; rw [hTB]; rfl)
    rw [h1, h2] at hF
    refine finTS hF fun bl hbl => ⟨[.agg [.fv (hd1 (bl 3) E ++ fpE E) M], ai 1], .agg (.cons (ress_copy rfl hE) .nil) (.c (.imm _) .nil), ⟨_, rfl, blk_row hbl (r := 3) (ab := ⟨_, _, E⟩) rfl hE.new⟩, rfl, rfl⟩
  rw [hTB] at cT
  refine call0 hg cT rfl rfl ?_
  cbv
  cases hN : isN ns n
  case false =>
    rw [hN] at cn
    refine call0 hg cn rfl rfl ?_
    cbv
    obtain ⟨h1, h2⟩ := hq1 (by unfold setO; rw [hTB, hN]; rfl)
    rw [h1, h2] at hF
    refine finTS hF fun bl hbl => ⟨[.agg [.fv (hd1 (bl 3) E ++ fpE E) M], ai 1], .agg (.cons (ress_copy rfl hE) .nil) (.c (.imm _) .nil), ⟨_, rfl, blk_row hbl (r := 3) (ab := ⟨_, _, E⟩) rfl hE.new⟩, rfl, rfl⟩
  rw [hN] at cn
  refine call0 hg cn rfl rfl ?_
  cbv
  cases hSO : stOk s
  case false =>
    rw [hSO] at cS
    refine call0 hg cS rfl rfl ?_
    cbv
    obtain ⟨h1, h2⟩ := hq2 (by unfold setO; rw [hTB, hN]; rfl) hSO
    rw [h1, h2] at hF
    refine finTS hF fun bl hbl => ⟨[.agg [.fv (hd1 (bl 3) E ++ fpE E) M], ai 4], .agg (.cons (ress_copy rfl hE) .nil) (.c (.imm _) .nil), ⟨_, rfl, blk_row hbl (r := 3) (ab := ⟨_, _, E⟩) rfl hE.new⟩, rfl, rfl⟩
  rw [hSO] at cS
  refine call0 hg cS rfl rfl ?_
  cbv
  obtain ⟨hA, z0, z1, z2, u, K, R, t, m, hMj, hW⟩ := hq3 (by unfold setO; rw [hTB, hN]; rfl) hSO
  clear hq1 hq2 hq3
  obtain ⟨b1, b2, he⟩ := hE.node hMj
  have hE2 := hE.set (y := nodeE u K R s m b1 b2) (v := nodeA u K R s m) he rfl rfl rfl rfl
  rw [← hW] at hE2
  have es : g .w .sub .i64 n 1 = n - 1 := by rw [goSub hg, wrap_small _ (by omega)]
  rw [es]
  refine goYt hg z0 rfl (by rw [hE.len]; exact z1) ?_
  cbv
  refine ⟨_, he, ?_⟩
  cbv
  rw [goSt hg]
  rw [hA] at hF
  obtain ⟨E2, he2⟩ : ∃ E2, E2 = E.set (n - 1).toNat (nodeE u K R s m b1 b2) := ⟨_, rfl⟩
  rw [← he2] at hE2
  refine finTS hF fun bl hbl => ⟨[.agg [.fv (hd1 (bl 3) E2 ++ fpE E2) W], ai 0], .agg (.cons (ress_copy (t := 106) (k := 64) (by rw [he2]; rfl) hE2) .nil) (.c (.imm _) .nil), ⟨_, rfl, blk_row hbl (r := 3) (ab := ⟨106, 64, E2⟩) (by rw [he2]; rfl) hE2.new⟩, rfl, rfl⟩
set_option maxHeartbeats 16000000 in
theorem spec_SetStyle_t (ns : List NNode) (hl : ns.length ≤ 1048576) (hs : ∀ y ∈ ns, NNode.small y) (n : Int) (s : GStyle) : TCon Tryz.prog 62 [.agg [.view (vwA NNode.ac ns)], ai n, .agg (lc (GStyle.c s))] fun lo res rows => (∃ b0, res = .tup [.agg [.fv b0 (vwA NNode.ac (seN ns n s))], ai (seI ns n s)] ∧ NewB lo b0) ∧ plainV res = true ∧ rows = [] := by
  have ck := spec_l10Copy_t ns hl hs
  have cT := spec_TreeOk_a ns hl hs
  have cS := spec_StyleOk_a s
  obtain ⟨M, hM⟩ : ∃ M, M = vwA NNode.ac ns := ⟨_, rfl⟩
  have hMx : lenI M = (ns.length : Int) := by rw [lenI_eq, hM, vwA_length]
  have cn := spec_l10Is_a M n
  have hin : isN ns n = rng n 1 (lenI M) := by rw [hMx]; rfl
  rw [← hin] at cn
  obtain ⟨W, hW⟩ : ∃ W, W = vwA NNode.ac (seN ns n s) := ⟨_, rfl⟩
  obtain ⟨AI, hAI⟩ : ∃ W, W = seI ns n s := ⟨_, rfl⟩
  have hq1 : setO ns n = false → W = M ∧ AI = 1 := fun h => ⟨by rw [hW, hM]; unfold seN; rw [h]; rfl, by rw [hAI]; unfold seI; rw [if_neg (by rw [h]; decide)]⟩
  have hq2 : setO ns n = true → stOk s = false → W = M ∧ AI = 4 := fun h h' => ⟨by rw [hW, hM]; unfold seN; rw [h, h']; rfl, by rw [hAI]; unfold seI; rw [if_pos h, if_neg (by rw [h']; decide)]⟩
  have hq3 : setO ns n = true → stOk s = true → AI = 0 ∧ 0 ≤ n - 1 ∧ (n - 1).toNat < M.length ∧ n ≤ 1048576 ∧ ∃ u K R t m, M[(n - 1).toNat]? = some (nodeA u K R t m) ∧ W = M.set (n - 1).toNat (nodeA u K R s m) := fun h h' => by
    have hi : isN ns n = true := by unfold setO at h; simp only [Bool.and_eq_true] at h; exact h.2
    obtain ⟨i1, i2, x, hx⟩ := isN_at hi
    refine ⟨by rw [hAI]; unfold seI; rw [if_pos h, if_pos h'], by omega, by rw [hM, vwA_length]; exact (List.getElem?_eq_some_iff.1 hx).1, by omega, x.up, vw intC x.kids, vw GRule.c x.table.rules, x.style, x.measured, by rw [hM]; exact vwA_at hx, ?_⟩
    rw [hW, hM]; unfold seN; rw [h, h', hx]; exact vwA_set ns _ _
  rw [← hM] at ck cT
  rw [← hM, ← hW, ← hAI]
  clear hin hMx hM hW hAI
  refine tcon_run ([]) ([]) (c := body Tryz.f62) fits Tryz.func62 (by kernel_rfl) (by kernel_rfl) (by rfl) (by kernel_rfl) fun β g eff hd F heff hhd hg hF => ?_
  cbv
  refine callTR1 hg ck (dwA_same rfl) (fun lo E h => bare_plainE h.bare) (fun lo E q1 q2 q3 hE => ?_)
  clear q2 q3
  replace hE : CopyE 64 E M β.lo := ⟨hE.kk, hE.bare, hE.eq, hE.new.mono q1⟩
  clear q1
  cbv
  cases hTB : treeB ns
  case false =>
    rw [hTB] at cT
    refine call0 hg cT rfl rfl ?_
    cbv
    obtain ⟨h1, h2⟩ := hq1 (by unfold setO; rw [hTB]; rfl)
    rw [h1, h2] at hF
    refine finTS hF fun bl hbl => ⟨[.agg [.fv (hd1 (bl 3) E ++ fpE E) M], ai 1], .agg (.cons (ress_copy rfl hE) .nil) (.c (.imm _) .nil), ⟨_, rfl, blk_row hbl (r := 3) (ab := ⟨_, _, E⟩) rfl hE.new⟩, rfl, rfl⟩
  rw [hTB] at cT
  refine call0 hg cT rfl rfl ?_
  cbv
  cases hN : isN ns n
  case false =>
    rw [hN] at cn
    refine call0 hg cn rfl rfl ?_
    cbv
    obtain ⟨h1, h2⟩ := hq1 (by unfold setO; rw [hTB, hN]; rfl)
    rw [h1, h2] at hF
    refine finTS hF fun bl hbl => ⟨[.agg [.fv (hd1 (bl 3) E ++ fpE E) M], ai 1], .agg (.cons (ress_copy rfl hE) .nil) (.c (.imm _) .nil), ⟨_, rfl, blk_row hbl (r := 3) (ab := ⟨_, _, E⟩) rfl hE.new⟩, rfl, rfl⟩
  rw [hN] at cn
  refine call0 hg cn rfl rfl ?_
  cbv
  cases hSO : stOk s
  case false =>
    rw [hSO] at cS
    refine call0 hg cS rfl rfl ?_
    cbv
    obtain ⟨h1, h2⟩ := hq2 (by unfold setO; rw [hTB, hN]; rfl) hSO
    rw [h1, h2] at hF
    refine finTS hF fun bl hbl => ⟨[.agg [.fv (hd1 (bl 3) E ++ fpE E) M], ai 4], .agg (.cons (ress_copy rfl hE) .nil) (.c (.imm _) .nil), ⟨_, rfl, blk_row hbl (r := 3) (ab := ⟨_, _, E⟩) rfl hE.new⟩, rfl, rfl⟩
  rw [hSO] at cS
  refine call0 hg cS rfl rfl ?_
  cbv
  obtain ⟨hA, z0, z1, z2, u, K, R, t, m, hMj, hW⟩ := hq3 (by unfold setO; rw [hTB, hN]; rfl) hSO
  clear hq1 hq2 hq3
  obtain ⟨b1, b2, he⟩ := hE.node hMj
  have hE2 := hE.set (y := nodeE u K R s m b1 b2) (v := nodeA u K R s m) he rfl rfl rfl rfl
  rw [← hW] at hE2
  have es : g .w .sub .i64 n 1 = n - 1 := by rw [goSub hg, wrap_small _ (by omega)]
  rw [es]
  refine goYt hg z0 rfl (by rw [hE.len]; exact z1) ?_
  cbv
  refine ⟨_, he, ?_⟩
  cbv
  rw [goSt hg]
  rw [hA] at hF
  obtain ⟨E2, he2⟩ : ∃ E2, E2 = E.set (n - 1).toNat (nodeE u K R s m b1 b2) := ⟨_, rfl⟩
  rw [← he2] at hE2
  refine finTS hF fun bl hbl => ⟨[.agg [.fv (hd1 (bl 3) E2 ++ fpE E2) W], ai 0], .agg (.cons (ress_copy (t := 106) (k := 64) (by rw [he2]; rfl) hE2) .nil) (.c (.imm _) .nil), ⟨_, rfl, blk_row hbl (r := 3) (ab := ⟨106, 64, E2⟩) (by rw [he2]; rfl) hE2.new⟩, rfl, rfl⟩
end Go.Proofs.YtenbloaopcfdlaaGreat
namespace Go.Proofs.YtenbloaopcfdlaaGreat
open Go.ChangeShapes Go.WideShapes Go.ChangeAt Go.RowKit Am
set_option linter.unusedVariables false
set_option linter.unusedSimpArgs false
set_option maxRecDepth 100000
theorem seN_at (ns : List NNode) (hl : ns.length ≤ 1048576) (hs : ∀ y ∈ ns, NNode.small y) (n : Int) (s : GStyle) : (seN ns n s).length ≤ 1048576 ∧ (∀ y ∈ seN ns n s, NNode.small y) ∧ (seI ns n s ≠ 0 → seN ns n s = ns) := by
  unfold seN seI
  cases h1 : setO ns n <;> cases h2 : stOk s <;> cases h3 : ns[(n - 1).toNat]? <;> first | exact ⟨hl, hs, fun _ => rfl⟩ | skip
  rename_i x
  refine ⟨by simpa using hl, fun y hy => ?_, fun h => absurd rfl h⟩
  rcases List.mem_or_eq_of_mem_set hy with h | h
  · exact hs y h
  · rw [h]; exact node_style (hs x (List.mem_of_getElem? h3))
set_option maxHeartbeats 16000000 in
theorem impl_EngStyle_t (x : NEngine) (hs : x.small) (n : Int) (s : GStyle) : TCon Tryz.prog 20 [.agg x.ac, ai n, .agg (lc (GStyle.c s))] (fun lo res rows => (∃ b0 b1 b2 b3, res = .tup [.agg (engR b0 b1 b2 b3 (setT x (seN x.tree.nodes n s) (seI x.tree.nodes n s) n)), ai (seI x.tree.nodes n s)] ∧ NewB lo (b0 ++ b1 ++ b2 ++ b3)) ∧ plainV res = true ∧ rows = []) := by
  have hsx := hs
  have hx0 := x
  obtain ⟨hl', hs', hc'⟩ : (seN x.tree.nodes n s).length ≤ 1048576 ∧ (∀ y ∈ seN x.tree.nodes n s, NNode.small y) ∧ (seI x.tree.nodes n s ≠ 0 → seN x.tree.nodes n s = x.tree.nodes) := by
    obtain ⟨⟨ns⟩, ⟨ms, qs⟩, fs, x0, x1, x2, x3⟩ := x
    obtain ⟨s0, s1, s2, s3, s4, s5, -⟩ := hs
    exact seN_at ns s0 s1 n s
  have c3 := fun bt => impl_changed_t x hs bt _ hl' hs' (seI x.tree.nodes n s) n hc'
  obtain ⟨⟨ns⟩, ⟨ms, qs⟩, fs, x0, x1, x2, x3⟩ := x
  obtain ⟨s0, s1, s2, s3, s4, s5, -⟩ := hs
  have c2 := impl_SetStyle_t ns s0 s1 n s
  simp only at hl' hs' hc'
  obtain ⟨N, hN⟩ : ∃ V, V = vwA NNode.ac ns := ⟨_, rfl⟩
  obtain ⟨M, hM⟩ : ∃ V, V = vwA NMemo.ac ms := ⟨_, rfl⟩
  obtain ⟨Q, hQ⟩ : ∃ V, V = vw GAsked.c qs := ⟨_, rfl⟩
  obtain ⟨V, hV⟩ : ∃ V, V = vw GFrame.c fs := ⟨_, rfl⟩
  obtain ⟨T, hT⟩ : ∃ V, V = vwA NNode.ac (seN ns n s) := ⟨_, rfl⟩
  obtain ⟨C, hC⟩ : ∃ V, V = seI ns n s := ⟨_, rfl⟩
  obtain ⟨MC, hMC⟩ : ∃ V, V = vwA NMemo.ac (kpM (seN ns n s) ms (seI ns n s) n) := ⟨_, rfl⟩
  replace c2 : TCon Tryz.prog 63 [.agg [.view N], ai n, .agg (lc (GStyle.c s))] (fun lo res rows => (∃ b0, res = .tup [.agg [.fv b0 T], ai C] ∧ NewB lo b0) ∧ plainV res = true ∧ rows = []) := by rw [hN, hT, hC]; exact c2
  replace c3 : ∀ bt, TCon Tryz.prog 60 [.agg [.view N, .view M, .view Q, .view V, .imm (.int .i64 x0), .imm (.int .i64 x1), .imm (.int .i64 x2), .imm (.bool x3)], .agg [.fv bt T], ai C, ai n] (fun lo res rows => (∃ b0 b1 b2 b3, res = .tup [.agg [.fv b0 T, .fv b1 MC, .fv b2 Q, .fv b3 V, .imm (.int .i64 x0), .imm (.int .i64 x1), .imm (.int .i64 x2), .imm (.bool x3)], ai C] ∧ ∀ l0, NewB l0 bt → l0 ≤ lo → (∀ b ∈ bt, b < lo) → NewB l0 (b0 ++ b1 ++ b2 ++ b3)) ∧ plainV res = true ∧ rows = []) := fun bt => by rw [hN, hM, hQ, hV, hT, hC, hMC]; exact c3 bt
  show TCon _ _ [.agg [.view (vwA NNode.ac ns), .view (vwA NMemo.ac ms), .view (vw GAsked.c qs), .view (vw GFrame.c fs), .imm (.int .i64 x0), .imm (.int .i64 x1), .imm (.int .i64 x2), .imm (.bool x3)], ai n, .agg (lc (GStyle.c s))] (fun lo res rows => (∃ b0 b1 b2 b3, res = .tup [.agg [.fv b0 (vwA NNode.ac (seN ns n s)), .fv b1 (vwA NMemo.ac (kpM (seN ns n s) ms (seI ns n s) n)), .fv b2 (vw GAsked.c qs), .fv b3 (vw GFrame.c fs), .imm (.int .i64 x0), .imm (.int .i64 x1), .imm (.int .i64 x2), .imm (.bool x3)], ai (seI ns n s)] ∧ NewB lo (b0 ++ b1 ++ b2 ++ b3)) ∧ plainV res = true ∧ rows = [])
  rw [← hN, ← hM, ← hQ, ← hV, ← hMC, ← hT, ← hC]
  clear hN hM hQ hV hT hC hMC  s0 s1 s2 s3 s4 s5 hl' hs' hc' hsx hx0
  refine tcon_run ([]) ([]) (c := body Tryz.f20) fits Tryz.func20 (by kernel_rfl) (by kernel_rfl) (by rfl) (by kernel_rfl) fun β g eff hd F heff hhd hg hF => ?_
  cbv
  refine callT0 hg c2 (dwA_same rfl) (fun l1 res p1 p2 p3 ⟨bt, hres, hn⟩ => ?_)
  subst hres
  clear p2 p3
  cbv
  refine callT0 hg (c3 bt) (dwA_same rfl) (fun l2 res q1 q2 q3 ⟨b0, b1, b2, b3, hres, hn2⟩ => ?_)
  subst hres
  have u1 : ∀ b ∈ bt, b < l2 := fun b hb => q2 b (by simp [fpH, fpL, fpC, hb])
  clear q2 q3
  cbv
  exact finT0 hF rfl ⟨⟨b0, b1, b2, b3, rfl, hn2 _ (hn.mono p1) q1 u1⟩, rfl, rfl⟩
set_option maxHeartbeats 16000000 in
theorem spec_EngStyle_t (x : NEngine) (hs : x.small) (n : Int) (s : GStyle) : TCon Tryz.prog 19 [.agg x.ac, ai n, .agg (lc (GStyle.c s))] (fun lo res rows => (∃ b0 b1 b2 b3, res = .tup [.agg (engR b0 b1 b2 b3 (setT x (seN x.tree.nodes n s) (seI x.tree.nodes n s) n)), ai (seI x.tree.nodes n s)] ∧ NewB lo (b0 ++ b1 ++ b2 ++ b3)) ∧ plainV res = true ∧ rows = []) := by
  have c0 := spec_l22Copy_t x hs
  have hsx := hs
  have hx0 := x
  obtain ⟨hl', hs', hc'⟩ : (seN x.tree.nodes n s).length ≤ 1048576 ∧ (∀ y ∈ seN x.tree.nodes n s, NNode.small y) ∧ (seI x.tree.nodes n s ≠ 0 → seN x.tree.nodes n s = x.tree.nodes) := by
    obtain ⟨⟨ns⟩, ⟨ms, qs⟩, fs, x0, x1, x2, x3⟩ := x
    obtain ⟨s0, s1, s2, s3, s4, s5, -⟩ := hs
    exact seN_at ns s0 s1 n s
  obtain ⟨⟨ns⟩, ⟨ms, qs⟩, fs, x0, x1, x2, x3⟩ := x
  obtain ⟨s0, s1, s2, s3, s4, s5, -⟩ := hs
  have c2 := spec_SetStyle_t ns s0 s1 n s
  simp only at hl' hs' hc'
  have c3 := fun d0 d1 d2 d3 => spec_l22Forget_t ⟨⟨seN ns n s⟩, ⟨ms, qs⟩, fs, x0, x1, x2, x3⟩ ⟨hl', hs', s2, s3, s4, s5, trivial⟩ d0 d1 d2 d3 n (seI ns n s)
  obtain ⟨N, hN⟩ : ∃ V, V = vwA NNode.ac ns := ⟨_, rfl⟩
  obtain ⟨M, hM⟩ : ∃ V, V = vwA NMemo.ac ms := ⟨_, rfl⟩
  obtain ⟨Q, hQ⟩ : ∃ V, V = vw GAsked.c qs := ⟨_, rfl⟩
  obtain ⟨V, hV⟩ : ∃ V, V = vw GFrame.c fs := ⟨_, rfl⟩
  obtain ⟨T, hT⟩ : ∃ V, V = vwA NNode.ac (seN ns n s) := ⟨_, rfl⟩
  obtain ⟨C, hC⟩ : ∃ V, V = seI ns n s := ⟨_, rfl⟩
  obtain ⟨MC, hMC⟩ : ∃ V, V = vwA NMemo.ac (kpM (seN ns n s) ms (seI ns n s) n) := ⟨_, rfl⟩
  replace c0 : TCon Tryz.prog 34 [.agg [.view N, .view M, .view Q, .view V, .imm (.int .i64 x0), .imm (.int .i64 x1), .imm (.int .i64 x2), .imm (.bool x3)]] (fun lo res rows => (∃ b0 b1 b2 b3, res = .t (.agg [.fv b0 N, .fv b1 M, .fv b2 Q, .fv b3 V, .imm (.int .i64 x0), .imm (.int .i64 x1), .imm (.int .i64 x2), .imm (.bool x3)]) ∧ NewB lo (b0 ++ b1 ++ b2 ++ b3)) ∧ plainV res = true ∧ rows = []) := by rw [hN, hM, hQ, hV]; exact c0
  replace c2 : TCon Tryz.prog 62 [.agg [.view N], ai n, .agg (lc (GStyle.c s))] (fun lo res rows => (∃ b0, res = .tup [.agg [.fv b0 T], ai C] ∧ NewB lo b0) ∧ plainV res = true ∧ rows = []) := by rw [hN, hT, hC]; exact c2
  replace c3 : ∀ d0 d1 d2 d3 : List Nat, TCon Tryz.prog 56 [.agg [.fv d0 T, .fv d1 M, .fv d2 Q, .fv d3 V, .imm (.int .i64 x0), .imm (.int .i64 x1), .imm (.int .i64 x2), .imm (.bool x3)], ai n, ai C] (fun lo res rows => (∃ b0 b1 b2 b3, res = .tup [.agg [.fv b0 T, .fv b1 MC, .fv b2 Q, .fv b3 V, .imm (.int .i64 x0), .imm (.int .i64 x1), .imm (.int .i64 x2), .imm (.bool x3)], ai C] ∧ ∀ l0, NewB l0 (d0 ++ d1 ++ d2 ++ d3) → l0 ≤ lo → (∀ b ∈ d0 ++ d1 ++ d2 ++ d3, b < lo) → NewB l0 (b0 ++ b1 ++ b2 ++ b3)) ∧ plainV res = true ∧ rows = []) := fun d0 d1 d2 d3 => by rw [hM, hQ, hV, hT, hC, hMC]; exact c3 d0 d1 d2 d3
  show TCon _ _ [.agg [.view (vwA NNode.ac ns), .view (vwA NMemo.ac ms), .view (vw GAsked.c qs), .view (vw GFrame.c fs), .imm (.int .i64 x0), .imm (.int .i64 x1), .imm (.int .i64 x2), .imm (.bool x3)], ai n, .agg (lc (GStyle.c s))] (fun lo res rows => (∃ b0 b1 b2 b3, res = .tup [.agg [.fv b0 (vwA NNode.ac (seN ns n s)), .fv b1 (vwA NMemo.ac (kpM (seN ns n s) ms (seI ns n s) n)), .fv b2 (vw GAsked.c qs), .fv b3 (vw GFrame.c fs), .imm (.int .i64 x0), .imm (.int .i64 x1), .imm (.int .i64 x2), .imm (.bool x3)], ai (seI ns n s)] ∧ NewB lo (b0 ++ b1 ++ b2 ++ b3)) ∧ plainV res = true ∧ rows = [])
  rw [← hN, ← hM, ← hQ, ← hV, ← hMC, ← hT, ← hC]
  clear hN hM hQ hV hT hC hMC  s0 s1 s2 s3 s4 s5 hl' hs' hc' hsx hx0
  refine tcon_run ([]) ([]) (c := body Tryz.f19) fits Tryz.func19 (by kernel_rfl) (by kernel_rfl) (by rfl) (by kernel_rfl) fun β g eff hd F heff hhd hg hF => ?_
  cbv
  refine callT0 hg c0 (dwA_same rfl) (fun l1 res p1 p2 p3 ⟨b0, b1, b2, b3, hres, hn⟩ => ?_)
  subst hres
  clear p2 p3
  cbv
  refine callT0 hg c2 ⟨⟨.inl rfl, trivial⟩, rfl, dwL_same rfl, trivial⟩ (fun l2 res q1 q2 q3 ⟨b4, hres, hn2⟩ => ?_)
  subst hres
  have u1 : ∀ b ∈ b1 ++ b2 ++ b3, b < l2 := fun b hb => q2 b (by simp only [List.mem_append] at hb; rcases hb with (h | h) | h <;> simp [fpH, fpL, fpC, h])
  clear q2 q3
  have hn3 : NewB β.lo (b4 ++ b1 ++ b2 ++ b3) := by
    have h1 : NewB l1 (b1 ++ b2 ++ b3) := hn.sub (by rw [List.append_assoc, List.append_assoc, List.append_assoc]; exact List.sublist_append_right _ _)
    exact ((h1.mono p1).app q1 hn2 u1).perm (List.perm_iff_count.2 fun a => by simp only [List.count_append]; omega)
  cbv
  refine callT0 hg (c3 b4 b1 b2 b3) (dwA_same rfl) (fun l3 res r1 r2 r3 ⟨e0, e1, e2, e3, hres, hn4⟩ => ?_)
  subst hres
  have u2 : ∀ b ∈ b4 ++ b1 ++ b2 ++ b3, b < l3 := fun b hb => r2 b (by simp only [List.mem_append] at hb; rcases hb with ((h | h) | h) | h <;> simp [fpH, fpL, fpC, h])
  clear r2 r3
  cbv
  exact finT0 hF rfl ⟨⟨e0, e1, e2, e3, rfl, hn4 _ hn3 r1 u2⟩, rfl, rfl⟩
end Go.Proofs.YtenbloaopcfdlaaGreat
namespace Go.Proofs.YtenbloaopcfdlaaGreat
open Go.ChangeShapes Go.WideShapes Go.ChangeAt Go.RowKit Am
set_option linter.unusedVariables false
set_option linter.unusedSimpArgs false
set_option maxRecDepth 100000
theorem styT_small (x : NEngine) (code n : Int) (s : GStyle) (hs : x.small) : (setT x (seN x.tree.nodes n s) code n).small := by
  have := seN_at x.tree.nodes (by obtain ⟨⟨ms0⟩, ⟨ms, qs⟩, fs, x0, x1, x2, x3⟩ := x; exact hs.1) (by obtain ⟨⟨ms0⟩, ⟨ms, qs⟩, fs, x0, x1, x2, x3⟩ := x; exact hs.2.1) n s
  exact setT_small x _ code n hs this.1 this.2.1
end Go.Proofs.YtenbloaopcfdlaaGreat
