/- The program's space across of a child. -/
import Derived.Test.YtdnnffbbhijmkaaGreatV4
namespace Go.Proofs.YtdnnffbbhijmkaaGreat
open Go.ChangeShapes Go.WideShapes Go.ChangeAt Go.RowKit Am
set_option linter.unusedVariables false
set_option linter.unusedSimpArgs false
set_option maxRecDepth 100000
set_option maxHeartbeats 16000000 in
theorem layer_kidCross_a (ns : List NNode) (hl : ns.length ≤ 1048576) (kid : Int) (y : NNode) (h1 : isN ns kid = true) (hy : ns[(kid - 1).toNat]? = some y) (rtl : Bool) (n : Int) (s : GStyle) (wd hgh : GSpace) (row : Bool) (iw ih al ac : GSpace) (K : List (List AC)) : PCon Tryz.prog 71 [.agg [.view (vwA NNode.ac ns), .imm (.bool rtl), .imm (.pointer none)], .agg (plL n s wd hgh row iw ih al ac (.view K)), ai kid] fun res rows => res = .t (agP (crsO s y.style rtl row ac (knS iw))) ∧ rows = [] := by
  obtain ⟨Ky, hKy⟩ : ∃ K, K = vw intC y.kids := ⟨_, rfl⟩
  obtain ⟨Ry, hRy⟩ : ∃ R, R = vw GRule.c y.table.rules := ⟨_, rfl⟩
  have b2 := isN_at h1
  obtain ⟨V, hV⟩ : ∃ V, V = vwA NNode.ac ns := ⟨_, rfl⟩
  have cy := impl_node_x ns kid y b2.1 (by have := b2.2.1; omega) hy V Ky Ry hV hKy hRy
  have ck := impl_knownOf_a ac.mode ac.n
  change PCon _ _ _ fun res rows => res = .t (ai (knS ac)) ∧ rows = [] at ck
  have cf := impl_FixedOf_a y.style (!row) (knS ac)
  have cb := fun z => impl_Bounded_a y.style (!row) (knS ac) z
  have cx := fun z => impl_exactly_a z
  have cs := impl_CrossSides_a s rtl
  have cm := fun p q => layer_margins_a V rtl n s y.style wd hgh row iw ih al ac K p q
  have ca := impl_AlignOf_a s y.style
  have ci := fun z => impl_InnerOf_a ac.mode ac.n z
  have cL := impl_Loosened_a
  obtain ⟨R, hR⟩ : ∃ R, R = crsO s y.style rtl row ac (knS iw) := ⟨_, rfl⟩
  rw [← hV, ← hR]
  unfold crsO sdB at hR
  simp only [sdM, Bool.false_eq_true, if_false, filB] at hR
  obtain ⟨p, hp⟩ : ∃ p, p = sd1 (!rowB s) (cBack s rtl) := ⟨_, rfl⟩
  obtain ⟨q, hq⟩ : ∃ p, p = sd2 (!rowB s) (cBack s rtl) := ⟨_, rfl⟩
  rw [← hp, ← hq] at cs hR
  clear hp hq
  have cm := cm p q
  have c1 := impl_AutoSide_a y.style.margin p rtl
  have c2 := impl_AutoSide_a y.style.margin q rtl
  obtain ⟨M1, hM1⟩ : ∃ M, M = marN y.style.margin p rtl (knS iw) := ⟨_, rfl⟩
  obtain ⟨M2, hM2⟩ : ∃ M, M = marN y.style.margin q rtl (knS iw) := ⟨_, rfl⟩
  obtain ⟨A1, hA1⟩ : ∃ M, M = autS y.style.margin p rtl := ⟨_, rfl⟩
  obtain ⟨A2, hA2⟩ : ∃ M, M = autS y.style.margin q rtl := ⟨_, rfl⟩
  rw [← hM1, ← hM2] at cm hR
  rw [← hA1] at c1 hR
  rw [← hA2] at c2 hR
  clear hM1 hM2 hA1 hA2
  obtain ⟨am, an⟩ := ac
  obtain ⟨KN, hKN⟩ : ∃ S, S = knS ⟨am, an⟩ := ⟨_, rfl⟩
  rw [← hKN] at ck cf hR
  simp only [← hKN] at cb
  obtain ⟨FX, hFX⟩ : ∃ S, S = fixO y.style (!row) KN := ⟨_, rfl⟩
  rw [← hFX] at cf hR
  obtain ⟨AL, hAL⟩ : ∃ S, S = algn s y.style := ⟨_, rfl⟩
  rw [← hAL] at ca hR
  clear hAL hFX hKN
  obtain ⟨BB, hBB⟩ : ∃ S, S = wrap64 (M1 + M2) := ⟨_, rfl⟩
  rw [← hBB] at hR
  have ci := ci BB
  change PCon _ _ _ fun res rows => res = .t (agP (innS ⟨am, an⟩ BB)) ∧ rows = [] at ci
  obtain ⟨i1, i2, hI⟩ : ∃ i1 i2, (⟨i1, i2⟩ : GSpace) = innS ⟨am, an⟩ BB := ⟨_, _, rfl⟩
  rw [← hI] at ci hR
  clear hI
  have cL := cL i1 i2
  obtain ⟨l1, l2, hL⟩ : ∃ j1 j2, (⟨j1, j2⟩ : GSpace) = loos ⟨i1, i2⟩ := ⟨_, _, rfl⟩
  rw [← hL] at cL hR
  clear hL
  obtain ⟨ZZ, hZZ⟩ : ∃ S, S = wrap64 (an - BB) := ⟨_, rfl⟩
  have cb1 := cb FX
  have cb2 := cb ZZ
  obtain ⟨B1, hB1⟩ : ∃ S, S = bndO y.style (!row) KN FX := ⟨_, rfl⟩
  obtain ⟨B2, hB2⟩ : ∃ S, S = bndO y.style (!row) KN ZZ := ⟨_, rfl⟩
  rw [← hZZ, ← hB1, ← hB2] at hR
  rw [← hB1] at cb1
  rw [← hB2] at cb2
  clear hB1 hB2 cb
  have cx1 := cx B1
  have cx2 := cx B2
  obtain ⟨wr, hwr⟩ : ∃ w, w = s.wrap := ⟨_, rfl⟩
  rw [← hwr] at hR
  by_cases q1 : FX = -1
  · simp only [q1, ne_eq, not_true_eq_false, if_false] at hR
    subst q1
    have t1 : ∀ g : Gd, g = G0 Tryz.prog 0 Tryz.f71.ntmps → g .q .neq (-1) (-1) = false := fun g hg => by rw [goNeq hg]; rfl
    have t2 : ∀ g : Gd, g = G0 Tryz.prog 0 Tryz.f71.ntmps → g .q .eql s.wrap 1 = decide (wr = 1) := fun g hg => by rw [goEql hg, hwr]; exact Bool.beq_eq_decide_eq _ _
    have t3 : ∀ g : Gd, g = G0 Tryz.prog 0 Tryz.f71.ntmps → g .q .eql am 3 = decide (am = 3) := fun g hg => by rw [goEql hg]; exact Bool.beq_eq_decide_eq _ _
    have t4 : ∀ g : Gd, g = G0 Tryz.prog 0 Tryz.f71.ntmps → g .w .sub .i64 an BB = ZZ := fun g hg => by rw [goSub hg, hZZ]
    have t5 : ∀ g : Gd, g = G0 Tryz.prog 0 Tryz.f71.ntmps → g .q .eql AL 1 = decide (AL = 1) := fun g hg => by rw [goEql hg]; exact Bool.beq_eq_decide_eq _ _
    have t6 : ∀ g : Gd, g = G0 Tryz.prog 0 Tryz.f71.ntmps → g .w .add .i64 M1 M2 = BB := fun g hg => by rw [goAdd hg, hBB]
    clear hwr hZZ hBB
    cases A1 <;> cases A2 <;> by_cases q0 : AL = 1
    by_cases q2 : wr = 1
    by_cases q3 : am = 3
    all_goals
      (try simp only [q2] at hR)
      (try simp only [q3] at hR)
      simp only [q0, decide_true, decide_false, Bool.not_false, Bool.not_true, Bool.and_self, Bool.and_true, Bool.true_and, Bool.and_false, Bool.false_and, Bool.false_eq_true, and_self, and_true, true_and, and_false, false_and, if_true, if_false] at hR
      rw [hR]
      clear hR
      refine pcon_run (c := body Tryz.f71) fits Tryz.func71 (by kernel_rfl) (by kernel_rfl) (by rfl) (by kernel_rfl) fun g F hg hF => ?_
      have t1 := t1 g hg
      have t2 := t2 g hg
      have t3 := t3 g hg
      have t4 := t4 g hg
      have t5 := t5 g hg
      have t6 := t6 g hg
      (try first | rw [decide_eq_true q2] at t2 | rw [decide_eq_false q2] at t2)
      (try first | rw [decide_eq_true q3] at t3 | rw [decide_eq_false q3] at t3)
      first | rw [decide_eq_true q0] at t5 | rw [decide_eq_false q0] at t5
      cbv
      repeat' (first | (refine call0 hg cy rfl rfl ?_; cbv) | (refine call0 hg ck rfl rfl ?_; cbv) | (refine call0 hg cf rfl rfl ?_; cbv) | (rw [t1]; cbv) | (refine call0 hg cs rfl rfl ?_; cbv) | (refine call0 hg cm rfl rfl ?_; cbv) | (refine call0 hg c1 rfl rfl ?_; cbv) | (refine call0 hg c2 rfl rfl ?_; cbv) | (refine call0 hg ca rfl rfl ?_; cbv) | (rw [t5]; cbv) | (rw [t2]; cbv) | (rw [t3]; cbv) | (rw [t6]; first | rw [t4] | skip) | (refine call0 hg cb2 rfl rfl ?_; cbv) | (refine call0 hg cx2 rfl rfl ?_; cbv) | (refine call0 hg ci rfl rfl ?_; cbv) | (refine call0 hg cL rfl rfl ?_; cbv))
      exact fin0v hF ⟨rfl, rfl⟩
  · simp only [q1, ne_eq, not_false_eq_true, if_true] at hR
    rw [hR]
    clear hR
    refine pcon_run (c := body Tryz.f71) fits Tryz.func71 (by kernel_rfl) (by kernel_rfl) (by rfl) (by kernel_rfl) fun g F hg hF => ?_
    have t1 : g .q .neq FX (-1) = true := by rw [goNeq hg]; simp [q1]
    cbv
    repeat' (first | (refine call0 hg cy rfl rfl ?_; cbv) | (refine call0P hg cy rfl rfl ?_; cbv) | (refine call0 hg ck rfl rfl ?_; cbv) | (refine call0P hg ck rfl rfl ?_; cbv) | (refine call0 hg cf rfl rfl ?_; cbv) | (refine call0P hg cf rfl rfl ?_; cbv))
    rw [t1]
    cbv
    repeat' (first | (refine call0 hg cb1 rfl rfl ?_; cbv) | (refine call0P hg cb1 rfl rfl ?_; cbv) | (refine call0 hg cx1 rfl rfl ?_; cbv) | (refine call0P hg cx1 rfl rfl ?_; cbv))
    exact fin0v hF ⟨rfl, rfl⟩

end Go.Proofs.YtdnnffbbhijmkaaGreat
