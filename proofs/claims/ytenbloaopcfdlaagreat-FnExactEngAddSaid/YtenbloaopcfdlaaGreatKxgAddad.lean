/- A node is added. Engines to which a node is added. Engines of one's own making; marks on engines, and what is found of them. -/
import Derived.Test.YtenbloaopcfdlaaGreatKxgAddac
namespace Go.Proofs.YtenbloaopcfdlaaGreat
open Go.ChangeShapes Go.WideShapes Go.ChangeAt Go.RowKit Am
set_option linter.unusedVariables false
set_option linter.unusedSimpArgs false
set_option maxRecDepth 100000
def newN (s : GStyle) : NNode := ⟨0, [], s, false, ⟨[]⟩⟩
def addO (ns : List NNode) (s : GStyle) : Bool := treeB ns && (stOk s && decide (ns.length < 12))
def addN (ns : List NNode) (s : GStyle) : List NNode := if addO ns s = true then ns ++ [newN s] else ns
def addI (ns : List NNode) (s : GStyle) : Int := if addO ns s = true then (ns.length : Int) + 1 else 0
def newE (s : GStyle) : List AC := .imm (.int .i64 0) :: .fv [] [] :: (lc (GStyle.c s) ++ [.imm (.bool false), .fv [] []])
def newZ (s : GStyle) : List AC := .imm (.int .i64 0) :: .imm (.slice none 0 0) :: (lc (GStyle.c s) ++ [.imm (.bool false), .imm (.slice none 0 0)])
theorem CopyE.snoc {k lo : Nat} {E V : List (List AC)} {y v : List AC} (h : CopyE k E V lo) (hy : y.map vwC = v) (hk : y.length = k) (hb : y.all bareF = true) (hf : fpL y = []) : CopyE k (E ++ [y]) (V ++ [v]) lo :=
  ⟨fun e he => (List.mem_append.1 he).elim (h.kk e) fun h1 => by rw [List.mem_singleton.1 h1]; exact hk, fun e he => (List.mem_append.1 he).elim (h.bare e) fun h1 => by rw [List.mem_singleton.1 h1]; exact hb,
    by rw [List.map_append, h.eq, ← hy]; rfl, by rw [fpE_app, show fpE [y] = fpL y from List.append_nil _, hf, List.append_nil]; exact h.new⟩
theorem snoc_set {α : Type} (E : List α) (y y' : α) : E ++ [y'] = (E ++ [y]).set E.length y' ∧ (E ++ [y])[E.length]? = some y := by
  constructor
  · rw [List.set_append_right _ _ (Nat.le_refl _), Nat.sub_self]; rfl
  · rw [List.getElem?_append_right (Nat.le_refl _), Nat.sub_self]; rfl
theorem vwA_snoc (ns : List NNode) (x : NNode) : vwA NNode.ac (ns ++ [x]) = vwA NNode.ac ns ++ [x.ac] := by simp [vwA]
set_option maxHeartbeats 16000000 in
theorem impl_AddNode_t (ns : List NNode) (hl : ns.length ≤ 1048576) (hs : ∀ y ∈ ns, NNode.small y) (s : GStyle) : TCon Tryz.prog 43 [.agg [.view (vwA NNode.ac ns)], .agg (lc (GStyle.c s))] fun lo res rows => (∃ b0, res = .tup [.agg [.fv b0 (vwA NNode.ac (addN ns s))], ai (addI ns s)] ∧ NewB lo b0) ∧ plainV res = true ∧ rows = [] := by
  have ck := impl_copyTree_t ns hl hs
  have cT := impl_TreeOk_a ns hl hs
  have cS := impl_StyleOk_a s
  obtain ⟨M, hM⟩ : ∃ M, M = vwA NNode.ac ns := ⟨_, rfl⟩
  have hMx : lenI M = (ns.length : Int) := by rw [lenI_eq, hM, vwA_length]
  obtain ⟨W, hW⟩ : ∃ W, W = vwA NNode.ac (addN ns s) := ⟨_, rfl⟩
  obtain ⟨AI, hAI⟩ : ∃ W, W = addI ns s := ⟨_, rfl⟩
  rw [← hM] at ck cT
  have hq1 : lenI M ≥ 12 → decide (ns.length < 12) = false := fun h => decide_eq_false (by omega)
  have hq2 : ¬ lenI M ≥ 12 → decide (ns.length < 12) = true := fun h => decide_eq_true (by omega)
  rw [← hM, ← hW, ← hAI]
  refine tcon_run ([(4, .hand), (5, .hand)]) ([]) (c := body Tryz.f43) fits Tryz.func43 (by kernel_rfl) (by kernel_rfl) (by rfl) (by kernel_rfl) fun β g eff hd F heff hhd hg hF => ?_
  cbv
  refine callTR1 hg ck (dwA_same rfl) (fun lo E h => bare_plainE h.bare) (fun lo E q1 q2 q3 hE => ?_)
  clear q2 q3
  replace hE : CopyE 64 E M β.lo := ⟨hE.kk, hE.bare, hE.eq, hE.new.mono q1⟩
  clear q1
  cbv
  have pE := bare_plainE hE.bare
  have hno : addO ns s = false → W = M ∧ AI = 0 := fun h => ⟨by rw [hW, hM]; unfold addN; rw [if_neg (by rw [h]; decide)], by rw [hAI]; unfold addI; rw [if_neg (by rw [h]; decide)]⟩
  have hyes : addO ns s = true → W = M ++ [(newN s).ac] ∧ AI = (ns.length : Int) + 1 := fun h => ⟨by rw [hW, hM]; unfold addN; rw [if_pos h, vwA_snoc], by rw [hAI]; unfold addI; rw [if_pos h]⟩
  cases hTB : treeB ns
  case false =>
    rw [hTB] at cT
    refine call0 hg cT rfl rfl ?_
    cbv
    obtain ⟨h1, h2⟩ := hno (by unfold addO; rw [hTB]; rfl)
    rw [h1, h2] at hF
    refine finTS hF fun bl hbl => ⟨[.agg [.fv (hd1 (bl 3) E ++ fpE E) M], ai 0], .agg (.cons (ress_copy rfl hE) .nil) (.c (.imm _) .nil), ⟨_, rfl, blk_row hbl (r := 3) (ab := ⟨_, _, E⟩) rfl hE.new⟩, rfl, rfl⟩
  rw [hTB] at cT
  refine call0 hg cT rfl rfl ?_
  cbv
  cases hSO : stOk s
  case false =>
    rw [hSO] at cS
    refine call0 hg cS rfl rfl ?_
    cbv
    obtain ⟨h1, h2⟩ := hno (by unfold addO; rw [hTB, hSO]; rfl)
    rw [h1, h2] at hF
    refine finTS hF fun bl hbl => ⟨[.agg [.fv (hd1 (bl 3) E ++ fpE E) M], ai 0], .agg (.cons (ress_copy rfl hE) .nil) (.c (.imm _) .nil), ⟨_, rfl, blk_row hbl (r := 3) (ab := ⟨_, _, E⟩) rfl hE.new⟩, rfl, rfl⟩
  rw [hSO] at cS
  refine call0 hg cS rfl rfl ?_
  cbv
  cases hL : g .q .geq (g .ln M) 12
  case true =>
    rw [goGeq hg, goLn hg, decide_eq_true_eq] at hL
    cbv
    obtain ⟨h1, h2⟩ := hno (by unfold addO; rw [hTB, hSO, hq1 hL]; rfl)
    rw [h1, h2] at hF
    refine finTS hF fun bl hbl => ⟨[.agg [.fv (hd1 (bl 3) E ++ fpE E) M], ai 0], .agg (.cons (ress_copy rfl hE) .nil) (.c (.imm _) .nil), ⟨_, rfl, blk_row hbl (r := 3) (ab := ⟨_, _, E⟩) rfl hE.new⟩, rfl, rfl⟩
  rw [goGeq hg, goLn hg, decide_eq_false_iff_not] at hL
  cbv
  obtain ⟨hW2, hA2⟩ := hyes (by unfold addO; rw [hTB, hSO, hq2 hL]; rfl)
  have hEl : E.length = ns.length := by rw [hE.len, hM, vwA_length]
  have hE2 : CopyE 64 (E ++ [newE s]) W β.lo := by rw [hW2]; exact hE.snoc rfl rfl rfl rfl
  obtain ⟨hz1, hz2⟩ := snoc_set E (newZ s) (newE s)
  have pZ : plainE (E ++ [newZ s]) = true := by
    unfold plainE at pE ⊢
    rw [List.all_append, pE]; rfl
  have pE2 := bare_plainE hE2.bare
  have hA3 : g .ln (E ++ [newE s]) = AI := by rw [goLn hg, lenI_eq, List.length_append, hA2, hEl]; rfl
  refine hand_cut [] [] heff hhd hg fits [(4, .t (.c (.ptr 0 0 0))), (6, .t (.c (.ptr 1 0 0)))] [.bx 43 1 [.imm (.slice none 0 0)], .bx 43 1 [.own 2], .rw ⟨106, 64, E ++ [newE s]⟩] (by kernel_rfl) (fun B hB => ?_) ?_
  · cbv
    refine goNAt hg rfl (by decide) (by omega) ?_
    cbv
    rw [goAp hg]
    refine hB _ _ (Weak.trans (l1 := [(4, .t (.c (.ptr 0 0 0))), (6, .t (.c (.ptr 1 0 0)))]) (h1 := toH [.bx 43 1 [.imm (.slice none 0 0)], .bx 43 1 [.own 2], .rw ⟨106, 64, E ++ [newZ s]⟩]) (Wk.weak (wkG [some 2, some 4, some 6] ⟨rfl, rfl, trivial⟩ ⟨⟨_, _, rfl, rfl, rfl, rfl, .inl ⟨rfl, rfl⟩⟩, ⟨_, _, rfl, rfl, rfl, rfl, .inr ⟨⟨rfl, trivial⟩, trivial⟩⟩, ⟨_, _, rfl, rfl, rfl, rfl, .inl ⟨rfl, pZ⟩⟩, trivial⟩ (by decide) no_lt)) (weak_nm ⟨.inl rfl, .inl rfl, trivial⟩ ⟨⟨rfl, rfl, .inl rfl, trivial⟩, ⟨rfl, rfl, .inl rfl, trivial⟩, .inr ⟨_, _, _, rfl, rfl, hz1, hz2, ⟨.inl rfl, .inr (.inr ⟨rfl, rfl⟩), .inl rfl, .inl rfl, .inl rfl, .inl rfl, .inl rfl, .inl rfl, .inl rfl, .inl rfl, .inl rfl, .inl rfl, .inl rfl, .inl rfl, .inl rfl, .inl rfl, .inl rfl, .inl rfl, .inl rfl, .inl rfl, .inl rfl, .inl rfl, .inl rfl, .inl rfl, .inl rfl, .inl rfl, .inl rfl, .inl rfl, .inl rfl, .inl rfl, .inl rfl, .inl rfl, .inl rfl, .inl rfl, .inl rfl, .inl rfl, .inl rfl, .inl rfl, .inl rfl, .inl rfl, .inl rfl, .inl rfl, .inl rfl, .inl rfl, .inl rfl, .inl rfl, .inl rfl, .inl rfl, .inl rfl, .inl rfl, .inl rfl, .inl rfl, .inl rfl, .inl rfl, .inl rfl, .inl rfl, .inl rfl, .inl rfl, .inl rfl, .inl rfl, .inl rfl, .inl rfl, .inl rfl, .inr (.inr ⟨rfl, rfl⟩), trivial⟩⟩, trivial⟩))
  obtain ⟨E2, he2⟩ : ∃ E2, E2 = E ++ [newE s] := ⟨_, rfl⟩
  rw [← he2] at hE2 hA3 pE2 ⊢
  clear hz1 hz2 pZ he2 hE hEl pE
  refine hand_any hg hhd fits (.op 0 (.op 1 (.op 2 (.op 3 (.op 4 (.op 5 .done .none) .none) (.op 4 (.op 3 (.op 5 .done .none) .none) .none)) (.op 4 (.op 2 (.op 3 (.op 5 .done .none) .none) .none) .none)) (.op 4 (.op 1 (.op 2 (.op 3 (.op 5 .done .none) .none) .none) .none) .none)) (.op 1 (.op 0 (.op 2 (.op 3 (.op 4 (.op 5 .done .none) .none) (.op 4 (.op 3 (.op 5 .done .none) .none) .none)) (.op 4 (.op 2 (.op 3 (.op 5 .done .none) .none) .none) .none)) (.op 2 (.op 0 (.op 3 (.op 4 (.op 5 .done .none) .none) (.op 4 (.op 3 (.op 5 .done .none) .none) .none)) (.op 3 (.op 0 (.op 4 (.op 5 .done .none) .none) .none) .none)) .none)) .none)) (by kernel_rfl) (by kernel_rfl) [(4, .t (.c (.ptr 0 0 0))), (5, .t (ai (AI)))] [.bx 43 1 [.own 1], .rw ⟨106, 64, E2⟩] (fun B hB => ?_) ?_
  · cbv
    rw [hA3]
    repeat' apply And.intro
    all_goals first | exact trivial | exact hB _ _ (Wk.weak (wkG [some 0, some 2] ⟨rfl, rfl, trivial⟩ ⟨⟨_, _, rfl, rfl, rfl, rfl, .inr ⟨⟨rfl, trivial⟩, trivial⟩⟩, ⟨_, _, rfl, rfl, rfl, rfl, .inl ⟨rfl, pE2⟩⟩, trivial⟩ (by decide) no_lt))
  cbv
  refine finTS hF fun bl hbl => ⟨[.agg [.fv (hd1 (bl 1) E2 ++ fpE E2) W], ai AI], .agg (.cons (ress_copy rfl hE2) .nil) (.c (.imm _) .nil), ⟨_, rfl, blk_row hbl (r := 1) (ab := ⟨_, _, E2⟩) rfl hE2.new⟩, rfl, rfl⟩
set_option maxHeartbeats 16000000 in
theorem spec_AddNode_t (ns : List NNode) (hl : ns.length ≤ 1048576) (hs : ∀ y ∈ ns, NNode.small y) (s : GStyle) : TCon Tryz.prog 35 [.agg [.view (vwA NNode.ac ns)], .agg (lc (GStyle.c s))] fun lo res rows => (∃ b0, res = .tup [.agg [.fv b0 (vwA NNode.ac (addN ns s))], ai (addI ns s)] ∧ NewB lo b0) ∧ plainV res = true ∧ rows = [] := by
  have ck := spec_l10Copy_t ns hl hs
  have cT := spec_TreeOk_a ns hl hs
  have cS := spec_StyleOk_a s
  obtain ⟨M, hM⟩ : ∃ M, M = vwA NNode.ac ns := ⟨_, rfl⟩
  have hMx : lenI M = (ns.length : Int) := by rw [lenI_eq, hM, vwA_length]
  obtain ⟨W, hW⟩ : ∃ W, W = vwA NNode.ac (addN ns s) := ⟨_, rfl⟩
  obtain ⟨AI, hAI⟩ : ∃ W, W = addI ns s := ⟨_, rfl⟩
  rw [← hM] at ck cT
  have hq1 : lenI M ≥ 12 → decide (ns.length < 12) = false := fun h => decide_eq_false (by omega)
  have hq2 : ¬ lenI M ≥ 12 → decide (ns.length < 12) = true := fun h => decide_eq_true (by omega)
  rw [← hM, ← hW, ← hAI]
  refine tcon_run ([(4, .hand), (5, .hand)]) ([]) (c := body Tryz.f35) fits Tryz.func35 (by kernel_rfl) (by kernel_rfl) (by rfl) (by kernel_rfl) fun β g eff hd F heff hhd hg hF => ?_
  cbv
  refine callTR1 hg ck (dwA_same rfl) (fun lo E h => bare_plainE h.bare) (fun lo E q1 q2 q3 hE => ?_)
  clear q2 q3
  replace hE : CopyE 64 E M β.lo := ⟨hE.kk, hE.bare, hE.eq, hE.new.mono q1⟩
  clear q1
  cbv
  have pE := bare_plainE hE.bare
  have hno : addO ns s = false → W = M ∧ AI = 0 := fun h => ⟨by rw [hW, hM]; unfold addN; rw [if_neg (by rw [h]; decide)], by rw [hAI]; unfold addI; rw [if_neg (by rw [h]; decide)]⟩
  have hyes : addO ns s = true → W = M ++ [(newN s).ac] ∧ AI = (ns.length : Int) + 1 := fun h => ⟨by rw [hW, hM]; unfold addN; rw [if_pos h, vwA_snoc], by rw [hAI]; unfold addI; rw [if_pos h]⟩
  cases hTB : treeB ns
  case false =>
    rw [hTB] at cT
    refine call0 hg cT rfl rfl ?_
    cbv
    obtain ⟨h1, h2⟩ := hno (by unfold addO; rw [hTB]; rfl)
    rw [h1, h2] at hF
    refine finTS hF fun bl hbl => ⟨[.agg [.fv (hd1 (bl 3) E ++ fpE E) M], ai 0], .agg (.cons (ress_copy rfl hE) .nil) (.c (.imm _) .nil), ⟨_, rfl, blk_row hbl (r := 3) (ab := ⟨_, _, E⟩) rfl hE.new⟩, rfl, rfl⟩
  rw [hTB] at cT
  refine call0 hg cT rfl rfl ?_
  cbv
  cases hSO : stOk s
  case false =>
    rw [hSO] at cS
    refine call0 hg cS rfl rfl ?_
    cbv
    obtain ⟨h1, h2⟩ := hno (by unfold addO; rw [hTB, hSO]; rfl)
    rw [h1, h2] at hF
    refine finTS hF fun bl hbl => ⟨[.agg [.fv (hd1 (bl 3) E ++ fpE E) M], ai 0], .agg (.cons (ress_copy rfl hE) .nil) (.c (.imm _) .nil), ⟨_, rfl, blk_row hbl (r := 3) (ab := ⟨_, _, E⟩) rfl hE.new⟩, rfl, rfl⟩
  rw [hSO] at cS
  refine call0 hg cS rfl rfl ?_
  cbv
  cases hL : g .q .geq (g .ln M) 12
  case true =>
    rw [goGeq hg, goLn hg, decide_eq_true_eq] at hL
    cbv
    obtain ⟨h1, h2⟩ := hno (by unfold addO; rw [hTB, hSO, hq1 hL]; rfl)
    rw [h1, h2] at hF
    refine finTS hF fun bl hbl => ⟨[.agg [.fv (hd1 (bl 3) E ++ fpE E) M], ai 0], .agg (.cons (ress_copy rfl hE) .nil) (.c (.imm _) .nil), ⟨_, rfl, blk_row hbl (r := 3) (ab := ⟨_, _, E⟩) rfl hE.new⟩, rfl, rfl⟩
  rw [goGeq hg, goLn hg, decide_eq_false_iff_not] at hL
  cbv
  obtain ⟨hW2, hA2⟩ := hyes (by unfold addO; rw [hTB, hSO, hq2 hL]; rfl)
  have hEl : E.length = ns.length := by rw [hE.len, hM, vwA_length]
  have hE2 : CopyE 64 (E ++ [newE s]) W β.lo := by rw [hW2]; exact hE.snoc rfl rfl rfl rfl
  obtain ⟨hz1, hz2⟩ := snoc_set E (newZ s) (newE s)
  have pZ : plainE (E ++ [newZ s]) = true := by
    unfold plainE at pE ⊢
    rw [List.all_append, pE]; rfl
  have pE2 := bare_plainE hE2.bare
  have hA3 : g .ln (E ++ [newE s]) = AI := by rw [goLn hg, lenI_eq, List.length_append, hA2, hEl]; rfl
  refine hand_cut [] [] heff hhd hg fits [(4, .t (.c (.ptr 0 0 0))), (6, .t (.c (.ptr 1 0 0)))] [.bx 43 1 [.imm (.slice none 0 0)], .bx 43 1 [.own 2], .rw ⟨106, 64, E ++ [newE s]⟩] (by kernel_rfl) (fun B hB => ?_) ?_
  · cbv
    refine goNAt hg rfl (by decide) (by omega) ?_
    cbv
    rw [goAp hg]
    refine hB _ _ (Weak.trans (l1 := [(4, .t (.c (.ptr 0 0 0))), (6, .t (.c (.ptr 1 0 0)))]) (h1 := toH [.bx 43 1 [.imm (.slice none 0 0)], .bx 43 1 [.own 2], .rw ⟨106, 64, E ++ [newZ s]⟩]) (Wk.weak (wkG [some 2, some 4, some 6] ⟨rfl, rfl, trivial⟩ ⟨⟨_, _, rfl, rfl, rfl, rfl, .inl ⟨rfl, rfl⟩⟩, ⟨_, _, rfl, rfl, rfl, rfl, .inr ⟨⟨rfl, trivial⟩, trivial⟩⟩, ⟨_, _, rfl, rfl, rfl, rfl, .inl ⟨rfl, pZ⟩⟩, trivial⟩ (by decide) no_lt)) (weak_nm ⟨.inl rfl, .inl rfl, trivial⟩ ⟨⟨rfl, rfl, .inl rfl, trivial⟩, ⟨rfl, rfl, .inl rfl, trivial⟩, .inr ⟨_, _, _, rfl, rfl, hz1, hz2, ⟨.inl rfl, .inr (.inr ⟨rfl, rfl⟩), .inl rfl, .inl rfl, .inl rfl, .inl rfl, .inl rfl, .inl rfl, .inl rfl, .inl rfl, .inl rfl, .inl rfl, .inl rfl, .inl rfl, .inl rfl, .inl rfl, .inl rfl, .inl rfl, .inl rfl, .inl rfl, .inl rfl, .inl rfl, .inl rfl, .inl rfl, .inl rfl, .inl rfl, .inl rfl, .inl rfl, .inl rfl, .inl rfl, .inl rfl, .inl rfl, .inl rfl, .inl rfl, .inl rfl, .inl rfl, .inl rfl, .inl rfl, .inl rfl, .inl rfl, .inl rfl, .inl rfl, .inl rfl, .inl rfl, .inl rfl, .inl rfl, .inl rfl, .inl rfl, .inl rfl, .inl rfl, .inl rfl, .inl rfl, .inl rfl, .inl rfl, .inl rfl, .inl rfl, .inl rfl, .inl rfl, .inl rfl, .inl rfl, .inl rfl, .inl rfl, .inl rfl, .inr (.inr ⟨rfl, rfl⟩), trivial⟩⟩, trivial⟩))
  obtain ⟨E2, he2⟩ : ∃ E2, E2 = E ++ [newE s] := ⟨_, rfl⟩
  rw [← he2] at hE2 hA3 pE2 ⊢
  clear hz1 hz2 pZ he2 hE hEl pE
  refine hand_any hg hhd fits (.op 0 (.op 1 (.op 2 (.op 3 (.op 4 (.op 5 .done .none) .none) (.op 4 (.op 3 (.op 5 .done .none) .none) .none)) (.op 4 (.op 2 (.op 3 (.op 5 .done .none) .none) .none) .none)) (.op 4 (.op 1 (.op 2 (.op 3 (.op 5 .done .none) .none) .none) .none) .none)) (.op 1 (.op 0 (.op 2 (.op 3 (.op 4 (.op 5 .done .none) .none) (.op 4 (.op 3 (.op 5 .done .none) .none) .none)) (.op 4 (.op 2 (.op 3 (.op 5 .done .none) .none) .none) .none)) (.op 2 (.op 0 (.op 3 (.op 4 (.op 5 .done .none) .none) (.op 4 (.op 3 (.op 5 .done .none) .none) .none)) (.op 3 (.op 0 (.op 4 (.op 5 .done .none) .none) .none) .none)) .none)) .none)) (by kernel_rfl) (by kernel_rfl) [(4, .t (.c (.ptr 0 0 0))), (5, .t (ai (AI)))] [.bx 43 1 [.own 1], .rw ⟨106, 64, E2⟩] (fun B hB => ?_) ?_
  · cbv
    rw [hA3]
    repeat' apply And.intro
    all_goals first | exact trivial | exact hB _ _ (Wk.weak (wkG [some 0, some 2] ⟨rfl, rfl, trivial⟩ ⟨⟨_, _, rfl, rfl, rfl, rfl, .inr ⟨⟨rfl, trivial⟩, trivial⟩⟩, ⟨_, _, rfl, rfl, rfl, rfl, .inl ⟨rfl, pE2⟩⟩, trivial⟩ (by decide) no_lt))
  cbv
  refine finTS hF fun bl hbl => ⟨[.agg [.fv (hd1 (bl 1) E2 ++ fpE E2) W], ai AI], .agg (.cons (ress_copy rfl hE2) .nil) (.c (.imm _) .nil), ⟨_, rfl, blk_row hbl (r := 1) (ab := ⟨_, _, E2⟩) rfl hE2.new⟩, rfl, rfl⟩
end Go.Proofs.YtenbloaopcfdlaaGreat
namespace Go.Proofs.YtenbloaopcfdlaaGreat
open Go.ChangeShapes Go.WideShapes Go.ChangeAt Go.RowKit Am
set_option linter.unusedVariables false
set_option linter.unusedSimpArgs false
set_option maxRecDepth 100000
def adT : NEngine → GStyle → NEngine
  | ⟨⟨ns⟩, k, fs, x0, x1, x2, x3⟩, s => ⟨⟨addN ns s⟩, k, fs, x0, x1, x2, x3⟩
def adC (x : NEngine) (s : GStyle) : Int := addI x.tree.nodes s
set_option maxHeartbeats 16000000 in
theorem impl_EngAdd_t (x : NEngine) (hs : x.small) (s : GStyle) : TCon Tryz.prog 13 [.agg x.ac, .agg (lc (GStyle.c s))] (fun lo res rows => (∃ b0 b1 b2 b3, res = .tup [.agg (engR b0 b1 b2 b3 (adT x s)), ai (adC x s)] ∧ NewB lo (b0 ++ b1 ++ b2 ++ b3)) ∧ plainV res = true ∧ rows = []) := by
  have c0 := impl_copyEngine_t x hs
  obtain ⟨⟨ns⟩, ⟨ms, qs⟩, fs, x0, x1, x2, x3⟩ := x
  obtain ⟨s0, s1, s2, s3, s4, s5, -⟩ := hs
  have c2 := impl_AddNode_t ns s0 s1 s
  have hno : addI ns s = 0 → addN ns s = ns := fun h => by
    unfold addI at h; unfold addN
    by_cases h1 : addO ns s = true
    · rw [if_pos h1] at h; omega
    · rw [if_neg h1]
  obtain ⟨N, hN⟩ : ∃ V, V = vwA NNode.ac ns := ⟨_, rfl⟩
  obtain ⟨M, hM⟩ : ∃ V, V = vwA NMemo.ac ms := ⟨_, rfl⟩
  obtain ⟨Q, hQ⟩ : ∃ V, V = vw GAsked.c qs := ⟨_, rfl⟩
  obtain ⟨V, hV⟩ : ∃ V, V = vw GFrame.c fs := ⟨_, rfl⟩
  obtain ⟨T, hT⟩ : ∃ V, V = vwA NNode.ac (addN ns s) := ⟨_, rfl⟩
  obtain ⟨C, hC⟩ : ∃ V, V = addI ns s := ⟨_, rfl⟩
  have hno2 : C = 0 → T = N := fun h => by rw [hT, hN, hno (hC ▸ h)]
  replace c0 : TCon Tryz.prog 42 [.agg [.view N, .view M, .view Q, .view V, .imm (.int .i64 x0), .imm (.int .i64 x1), .imm (.int .i64 x2), .imm (.bool x3)]] (fun lo res rows => (∃ b0 b1 b2 b3, res = .t (.agg [.fv b0 N, .fv b1 M, .fv b2 Q, .fv b3 V, .imm (.int .i64 x0), .imm (.int .i64 x1), .imm (.int .i64 x2), .imm (.bool x3)]) ∧ NewB lo (b0 ++ b1 ++ b2 ++ b3)) ∧ plainV res = true ∧ rows = []) := by rw [hN, hM, hQ, hV]; exact c0
  replace c2 : TCon Tryz.prog 43 [.agg [.view N], .agg (lc (GStyle.c s))] (fun lo res rows => (∃ b0, res = .tup [.agg [.fv b0 T], ai C] ∧ NewB lo b0) ∧ plainV res = true ∧ rows = []) := by rw [hN, hT, hC]; exact c2
  show TCon _ _ [.agg [.view (vwA NNode.ac ns), .view (vwA NMemo.ac ms), .view (vw GAsked.c qs), .view (vw GFrame.c fs), .imm (.int .i64 x0), .imm (.int .i64 x1), .imm (.int .i64 x2), .imm (.bool x3)], _] (fun lo res rows => (∃ b0 b1 b2 b3, res = .tup [.agg [.fv b0 (vwA NNode.ac (addN ns s)), .fv b1 (vwA NMemo.ac ms), .fv b2 (vw GAsked.c qs), .fv b3 (vw GFrame.c fs), .imm (.int .i64 x0), .imm (.int .i64 x1), .imm (.int .i64 x2), .imm (.bool x3)], ai (addI ns s)] ∧ NewB lo (b0 ++ b1 ++ b2 ++ b3)) ∧ plainV res = true ∧ rows = [])
  rw [← hN, ← hM, ← hQ, ← hV, ← hT, ← hC]
  clear hno hN hM hQ hV hT hC s0 s1 s2 s3 s4 s5
  refine tcon_run ([]) ([]) (c := body Tryz.f13) fits Tryz.func13 (by kernel_rfl) (by kernel_rfl) (by rfl) (by kernel_rfl) fun β g eff hd F heff hhd hg hF => ?_
  cbv
  refine callT0 hg c0 (dwA_same rfl) (fun l1 res p1 p2 p3 ⟨b0, b1, b2, b3, hres, hn⟩ => ?_)
  subst hres
  clear p2 p3
  cbv
  refine callT0 hg c2 (dwA_same rfl) (fun l2 res q1 q2 q3 ⟨b4, hres, hn2⟩ => ?_)
  subst hres
  have u1 : ∀ b ∈ b1 ++ b2 ++ b3, b < l2 := fun b hb => q2 b (by simp only [List.mem_append] at hb; rcases hb with (h | h) | h <;> simp [fpH, fpL, fpC, h])
  clear q2 q3
  cbv
  have hn3 : NewB β.lo (b4 ++ b1 ++ b2 ++ b3) := by
    have h1 : NewB l1 (b1 ++ b2 ++ b3) := hn.sub (by rw [List.append_assoc, List.append_assoc, List.append_assoc]; exact List.sublist_append_right _ _)
    exact ((h1.mono p1).app q1 hn2 u1).perm (List.perm_iff_count.2 fun a => by simp only [List.count_append]; omega)
  cases hX : g .q .neq C 0
  case false =>
    rw [goNeq hg, bne_eq_false_iff_eq] at hX
    cbv
    refine finT0 hF rfl ⟨⟨b0, b1, b2, b3, by rw [hno2 hX]; rfl, hn.mono p1⟩, rfl, rfl⟩
  cbv
  exact finT0 hF rfl ⟨⟨b4, b1, b2, b3, rfl, hn3⟩, rfl, rfl⟩
set_option maxHeartbeats 16000000 in
theorem spec_EngAdd_t (x : NEngine) (hs : x.small) (s : GStyle) : TCon Tryz.prog 10 [.agg x.ac, .agg (lc (GStyle.c s))] (fun lo res rows => (∃ b0 b1 b2 b3, res = .tup [.agg (engR b0 b1 b2 b3 (adT x s)), ai (adC x s)] ∧ NewB lo (b0 ++ b1 ++ b2 ++ b3)) ∧ plainV res = true ∧ rows = []) := by
  have c0 := spec_l22Copy_t x hs
  obtain ⟨⟨ns⟩, ⟨ms, qs⟩, fs, x0, x1, x2, x3⟩ := x
  obtain ⟨s0, s1, s2, s3, s4, s5, -⟩ := hs
  have c2 := spec_AddNode_t ns s0 s1 s
  have hno : addI ns s = 0 → addN ns s = ns := fun h => by
    unfold addI at h; unfold addN
    by_cases h1 : addO ns s = true
    · rw [if_pos h1] at h; omega
    · rw [if_neg h1]
  obtain ⟨N, hN⟩ : ∃ V, V = vwA NNode.ac ns := ⟨_, rfl⟩
  obtain ⟨M, hM⟩ : ∃ V, V = vwA NMemo.ac ms := ⟨_, rfl⟩
  obtain ⟨Q, hQ⟩ : ∃ V, V = vw GAsked.c qs := ⟨_, rfl⟩
  obtain ⟨V, hV⟩ : ∃ V, V = vw GFrame.c fs := ⟨_, rfl⟩
  obtain ⟨T, hT⟩ : ∃ V, V = vwA NNode.ac (addN ns s) := ⟨_, rfl⟩
  obtain ⟨C, hC⟩ : ∃ V, V = addI ns s := ⟨_, rfl⟩
  have hno2 : C = 0 → T = N := fun h => by rw [hT, hN, hno (hC ▸ h)]
  replace c0 : TCon Tryz.prog 34 [.agg [.view N, .view M, .view Q, .view V, .imm (.int .i64 x0), .imm (.int .i64 x1), .imm (.int .i64 x2), .imm (.bool x3)]] (fun lo res rows => (∃ b0 b1 b2 b3, res = .t (.agg [.fv b0 N, .fv b1 M, .fv b2 Q, .fv b3 V, .imm (.int .i64 x0), .imm (.int .i64 x1), .imm (.int .i64 x2), .imm (.bool x3)]) ∧ NewB lo (b0 ++ b1 ++ b2 ++ b3)) ∧ plainV res = true ∧ rows = []) := by rw [hN, hM, hQ, hV]; exact c0
  replace c2 : TCon Tryz.prog 35 [.agg [.view N], .agg (lc (GStyle.c s))] (fun lo res rows => (∃ b0, res = .tup [.agg [.fv b0 T], ai C] ∧ NewB lo b0) ∧ plainV res = true ∧ rows = []) := by rw [hN, hT, hC]; exact c2
  show TCon _ _ [.agg [.view (vwA NNode.ac ns), .view (vwA NMemo.ac ms), .view (vw GAsked.c qs), .view (vw GFrame.c fs), .imm (.int .i64 x0), .imm (.int .i64 x1), .imm (.int .i64 x2), .imm (.bool x3)], _] (fun lo res rows => (∃ b0 b1 b2 b3, res = .tup [.agg [.fv b0 (vwA NNode.ac (addN ns s)), .fv b1 (vwA NMemo.ac ms), .fv b2 (vw GAsked.c qs), .fv b3 (vw GFrame.c fs), .imm (.int .i64 x0), .imm (.int .i64 x1), .imm (.int .i64 x2), .imm (.bool x3)], ai (addI ns s)] ∧ NewB lo (b0 ++ b1 ++ b2 ++ b3)) ∧ plainV res = true ∧ rows = [])
  rw [← hN, ← hM, ← hQ, ← hV, ← hT, ← hC]
  clear hno hN hM hQ hV hT hC s0 s1 s2 s3 s4 s5
  refine tcon_run ([]) ([]) (c := body Tryz.f10) fits Tryz.func10 (by kernel_rfl) (by kernel_rfl) (by rfl) (by kernel_rfl) fun β g eff hd F heff hhd hg hF => ?_
  cbv
  refine callT0 hg c0 (dwA_same rfl) (fun l1 res p1 p2 p3 ⟨b0, b1, b2, b3, hres, hn⟩ => ?_)
  subst hres
  clear p2 p3
  cbv
  refine callT0 hg c2 ⟨⟨.inl rfl, trivial⟩, dwL_same rfl, trivial⟩ (fun l2 res q1 q2 q3 ⟨b4, hres, hn2⟩ => ?_)
  subst hres
  have u1 : ∀ b ∈ b1 ++ b2 ++ b3, b < l2 := fun b hb => q2 b (by simp only [List.mem_append] at hb; rcases hb with (h | h) | h <;> simp [fpH, fpL, fpC, h])
  clear q2 q3
  cbv
  have hn3 : NewB β.lo (b4 ++ b1 ++ b2 ++ b3) := by
    have h1 : NewB l1 (b1 ++ b2 ++ b3) := hn.sub (by rw [List.append_assoc, List.append_assoc, List.append_assoc]; exact List.sublist_append_right _ _)
    exact ((h1.mono p1).app q1 hn2 u1).perm (List.perm_iff_count.2 fun a => by simp only [List.count_append]; omega)
  exact finT0 hF rfl ⟨⟨b4, b1, b2, b3, rfl, hn3⟩, rfl, rfl⟩
end Go.Proofs.YtenbloaopcfdlaaGreat
namespace Go.Proofs.YtenbloaopcfdlaaGreat
open Go.ChangeShapes Go.WideShapes Go.ChangeAt Go.RowKit Am
set_option linter.unusedVariables false
set_option linter.unusedSimpArgs false
set_option maxRecDepth 100000
theorem adT_small (x : NEngine) (s : GStyle) (hs : x.small) : (adT x s).small := by
  obtain ⟨⟨ns⟩, ⟨ms, qs⟩, fs, x0, x1, x2, x3⟩ := x
  obtain ⟨s0, s1, s2, s3, s4, s5, -⟩ := hs
  refine ⟨?_, ?_, s2, s3, s4, s5, trivial⟩
  · unfold addN
    split
    · rename_i h
      unfold addO at h
      simp only [Bool.and_eq_true, decide_eq_true_eq] at h
      rw [List.length_append]
      show ns.length + 1 ≤ 1048576
      omega
    · exact s0
  · intro y hy
    unfold addN at hy
    split at hy
    · rcases List.mem_append.1 hy with h | h
      · exact s1 y h
      · rw [List.mem_singleton.1 h]
        obtain ⟨d, hd⟩ : ∃ d, d = newN s := ⟨_, rfl⟩
        refine node_style (x := newN s) (s := s) ?_
        exact ⟨by decide, by decide, trivial⟩
    · exact s1 y hy
end Go.Proofs.YtenbloaopcfdlaaGreat
