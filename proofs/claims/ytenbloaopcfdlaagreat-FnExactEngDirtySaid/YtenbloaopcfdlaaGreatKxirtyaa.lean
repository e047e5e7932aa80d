/- Engines of one's own making; marks on engines, and what is found of them. Engines in which a node is to be measured again. The law of EngDirty. -/
import Derived.Test.YtenbloaopcfdlaaGreatKbg
namespace Go.Proofs.YtenbloaopcfdlaaGreat
open Go.ChangeShapes Go.WideShapes Go.ChangeAt Go.RowKit Am
set_option linter.unusedVariables false
set_option linter.unusedSimpArgs false
set_option maxRecDepth 100000
theorem setS_small (x : NEngine) (code n : Int) (hs : x.small) : (setT x x.tree.nodes code n).small := by
  refine setT_small x _ code n hs ?_ ?_ <;> obtain ⟨⟨ms0⟩, ⟨ms, qs⟩, fs, x0, x1, x2, x3⟩ := x
  · exact hs.1
  · exact hs.2.1
end Go.Proofs.YtenbloaopcfdlaaGreat
namespace Go.Proofs.YtenbloaopcfdlaaGreat
open Go.ChangeShapes Go.WideShapes Go.ChangeAt Go.RowKit Am
set_option linter.unusedVariables false
set_option linter.unusedSimpArgs false
set_option maxRecDepth 100000
def msr (ns : List NNode) (n : Int) : Bool := match ns[(n - 1).toNat]? with | some x => x.measured | none => false
def diC (ns : List NNode) (n : Int) : Int := if setO ns n = true then (if msr ns n = true then 0 else 6) else 1
set_option maxHeartbeats 16000000 in
theorem impl_EngDirty_t (x : NEngine) (hs : x.small) (n : Int) : TCon Tryz.prog 18 [.agg x.ac, ai n] (fun lo res rows => (∃ b0 b1 b2 b3, res = .tup [.agg (engR b0 b1 b2 b3 (setT x x.tree.nodes (diC x.tree.nodes n) n)), ai (diC x.tree.nodes n)] ∧ NewB lo (b0 ++ b1 ++ b2 ++ b3)) ∧ plainV res = true ∧ rows = []) := by
  have c3 := fun bt code => impl_changed_t x hs bt x.tree.nodes (by obtain ⟨⟨ns⟩, ⟨ms, qs⟩, fs, x0, x1, x2, x3⟩ := x; exact hs.1) (by obtain ⟨⟨ns⟩, ⟨ms, qs⟩, fs, x0, x1, x2, x3⟩ := x; exact hs.2.1) code n (fun _ => rfl)
  obtain ⟨⟨ns⟩, ⟨ms, qs⟩, fs, x0, x1, x2, x3⟩ := x
  obtain ⟨s0, s1, s2, s3, s4, s5, -⟩ := hs
  have hq1 : setO ns n = false → diC ns n = 1 := fun h => by unfold diC; rw [if_neg (by rw [h]; decide)]
  have hq2 : setO ns n = true → ∃ u K R t m, (vwA NNode.ac ns)[(n - 1).toNat]? = some (nodeA u K R t m) ∧ 1 ≤ n ∧ n ≤ 1048576 ∧ diC ns n = if m = true then 0 else 6 := fun h => by
    have hi : isN ns n = true := by unfold setO at h; simp only [Bool.and_eq_true] at h; exact h.2
    obtain ⟨i1, i2, x, hx⟩ := isN_at hi
    refine ⟨x.up, vw intC x.kids, vw GRule.c x.table.rules, x.style, x.measured, vwA_at hx, by omega, by omega, ?_⟩
    unfold diC msr
    rw [if_pos h, hx]
  have c0 := impl_copyTree_f ns s0 s1
  have cT := impl_TreeOk_a ns s0 s1
  have hN1 : lenI (vwA NNode.ac ns) = (ns.length : Int) := by rw [lenI_eq, vwA_length]
  have cn := impl_isNode_a (vwA NNode.ac ns) n
  have hin : isN ns n = rng n 1 (lenI (vwA NNode.ac ns)) := by rw [hN1]; rfl
  rw [← hin] at cn
  obtain ⟨N, hN⟩ : ∃ V, V = vwA NNode.ac ns := ⟨_, rfl⟩
  obtain ⟨M, hM⟩ : ∃ V, V = vwA NMemo.ac ms := ⟨_, rfl⟩
  obtain ⟨Q, hQ⟩ : ∃ V, V = vw GAsked.c qs := ⟨_, rfl⟩
  obtain ⟨V, hV⟩ : ∃ V, V = vw GFrame.c fs := ⟨_, rfl⟩
  obtain ⟨MC, hMC⟩ : ∃ MC : Int → List (List AC), ∀ c, MC c = vwA NMemo.ac (kpM ns ms c n) := ⟨_, fun _ => rfl⟩
  have hM1 : MC 1 = M := by rw [hMC, hM]; rfl
  have hM6 : MC 6 = M := by rw [hMC, hM]; rfl
  obtain ⟨C, hC⟩ : ∃ V, V = diC ns n := ⟨_, rfl⟩
  rw [← hN] at cT cn hq2
  rw [← hC] at hq1 hq2
  rw [← hN] at c0
  replace c3 : ∀ bt code, TCon Tryz.prog 60 [.agg [.view N, .view M, .view Q, .view V, .imm (.int .i64 x0), .imm (.int .i64 x1), .imm (.int .i64 x2), .imm (.bool x3)], .agg [.fv bt N], ai code, ai n] (fun lo res rows => (∃ b0 b1 b2 b3, res = .tup [.agg [.fv b0 N, .fv b1 (MC code), .fv b2 Q, .fv b3 V, .imm (.int .i64 x0), .imm (.int .i64 x1), .imm (.int .i64 x2), .imm (.bool x3)], ai code] ∧ ∀ l0, NewB l0 bt → l0 ≤ lo → (∀ b ∈ bt, b < lo) → NewB l0 (b0 ++ b1 ++ b2 ++ b3)) ∧ plainV res = true ∧ rows = []) := fun bt code => by rw [hN, hM, hQ, hV, hMC]; exact c3 bt code
  show TCon _ _ [.agg [.view (vwA NNode.ac ns), .view (vwA NMemo.ac ms), .view (vw GAsked.c qs), .view (vw GFrame.c fs), .imm (.int .i64 x0), .imm (.int .i64 x1), .imm (.int .i64 x2), .imm (.bool x3)], _] (fun lo res rows => (∃ b0 b1 b2 b3, res = .tup [.agg [.fv b0 (vwA NNode.ac ns), .fv b1 (vwA NMemo.ac (kpM ns ms (diC ns n) n)), .fv b2 (vw GAsked.c qs), .fv b3 (vw GFrame.c fs), .imm (.int .i64 x0), .imm (.int .i64 x1), .imm (.int .i64 x2), .imm (.bool x3)], ai (diC ns n)] ∧ NewB lo (b0 ++ b1 ++ b2 ++ b3)) ∧ plainV res = true ∧ rows = [])
  rw [← hMC, ← hN, ← hM, ← hQ, ← hV, ← hC]
  clear hin hN1 hN hM hQ hV hC hMC s0 s1 s2 s3 s4 s5
  refine tcon_run ([(6, .hand)]) ([]) (c := body Tryz.f18) fits Tryz.func18 (by kernel_rfl) (by kernel_rfl) (by rfl) (by kernel_rfl) fun β g eff hd F heff hhd hg hF => ?_
  cbv
  cases hTB : treeB ns
  case false =>
    rw [hTB] at cT
    refine call0 hg cT rfl rfl ?_
    cbv
    rw [hq1 (by unfold setO; rw [hTB]; rfl)] at hF
    refine hand_lazy hg hhd fits [0, 1, 2, 4, 5] (.op 3 [] (.op 6 [7, 8] (.op 9 [10] .done .none) .none) .none) (by kernel_rfl) (by kernel_rfl) (S := List Nat × List Nat × List Nat × List Nat) (fun s => NewB β.lo (s.1 ++ s.2.1 ++ s.2.2.1 ++ s.2.2.2)) (fun s => [(4, .t (.c (.ptr 1 0 0))), (5, .t (ai (1)))]) (fun s => [.bx 50 8 [.view N, .view M, .view Q, .view V, .imm (.int .i64 x0), .imm (.int .i64 x1), .imm (.int .i64 x2), .imm (.bool x3)], .bx 50 8 [.fv s.1 N, .fv s.2.1 (MC 1), .fv s.2.2.1 Q, .fv s.2.2.2 V, .imm (.int .i64 x0), .imm (.int .i64 x1), .imm (.int .i64 x2), .imm (.bool x3)]]) (fun B hB => ?_) (fun s hs => ?_)
    · cbv
      repeat' (first | exact trivial | exact rfl | refine And.intro ?_ ?_)
      refine callT0 hg c0 (dwA_same rfl) (fun l1 res p1 p2 p3 ⟨bt, hres, hn⟩ => ?_)
      subst hres
      clear p2 p3
      cbv
      repeat' (first | exact trivial | exact rfl | refine And.intro ?_ ?_)
      refine callT0 hg (c3 bt 1) (dwA_same rfl) (fun l2 res q1 q2 q3 ⟨b0, b1, b2, b3, hres, hn2⟩ => ?_)
      subst hres
      have u1 : ∀ b ∈ bt, b < l2 := fun b hb => q3 b (by simp [fpA, fpL, fpC, AT.cells, hb])
      clear q2 q3
      cbv
      repeat' (first | exact trivial | exact rfl | refine And.intro ?_ ?_)
      exact hB (b0, b1, b2, b3) (hn2 _ (hn.mono p1) q1 u1) _ _ (Wk.weak (wkG [some 0, some 1] ⟨rfl, rfl, trivial⟩ ⟨⟨_, _, rfl, rfl, rfl, rfl, .inl ⟨rfl, rfl⟩⟩, ⟨_, _, rfl, rfl, rfl, rfl, .inl ⟨rfl, rfl⟩⟩, trivial⟩ (by decide) no_lt))
    cbv
    exact finT0 hF rfl ⟨⟨_, _, _, _, rfl, hs⟩, rfl, rfl⟩
  rw [hTB] at cT
  refine call0 hg cT rfl rfl ?_
  cbv
  cases hNN : isN ns n
  case false =>
    rw [hNN] at cn
    refine call0 hg cn rfl rfl ?_
    cbv
    rw [hq1 (by unfold setO; rw [hTB, hNN]; rfl)] at hF
    refine hand_lazy hg hhd fits [0, 1, 2, 4, 5] (.op 3 [] (.op 6 [7, 8] (.op 9 [10] .done .none) .none) .none) (by kernel_rfl) (by kernel_rfl) (S := List Nat × List Nat × List Nat × List Nat) (fun s => NewB β.lo (s.1 ++ s.2.1 ++ s.2.2.1 ++ s.2.2.2)) (fun s => [(4, .t (.c (.ptr 1 0 0))), (5, .t (ai (1)))]) (fun s => [.bx 50 8 [.view N, .view M, .view Q, .view V, .imm (.int .i64 x0), .imm (.int .i64 x1), .imm (.int .i64 x2), .imm (.bool x3)], .bx 50 8 [.fv s.1 N, .fv s.2.1 (MC 1), .fv s.2.2.1 Q, .fv s.2.2.2 V, .imm (.int .i64 x0), .imm (.int .i64 x1), .imm (.int .i64 x2), .imm (.bool x3)]]) (fun B hB => ?_) (fun s hs => ?_)
    · cbv
      repeat' (first | exact trivial | exact rfl | refine And.intro ?_ ?_)
      refine callT0 hg c0 (dwA_same rfl) (fun l1 res p1 p2 p3 ⟨bt, hres, hn⟩ => ?_)
      subst hres
      clear p2 p3
      cbv
      repeat' (first | exact trivial | exact rfl | refine And.intro ?_ ?_)
      refine callT0 hg (c3 bt 1) (dwA_same rfl) (fun l2 res q1 q2 q3 ⟨b0, b1, b2, b3, hres, hn2⟩ => ?_)
      subst hres
      have u1 : ∀ b ∈ bt, b < l2 := fun b hb => q3 b (by simp [fpA, fpL, fpC, AT.cells, hb])
      clear q2 q3
      cbv
      repeat' (first | exact trivial | exact rfl | refine And.intro ?_ ?_)
      exact hB (b0, b1, b2, b3) (hn2 _ (hn.mono p1) q1 u1) _ _ (Wk.weak (wkG [some 0, some 1] ⟨rfl, rfl, trivial⟩ ⟨⟨_, _, rfl, rfl, rfl, rfl, .inl ⟨rfl, rfl⟩⟩, ⟨_, _, rfl, rfl, rfl, rfl, .inl ⟨rfl, rfl⟩⟩, trivial⟩ (by decide) no_lt))
    cbv
    exact finT0 hF rfl ⟨⟨_, _, _, _, rfl, hs⟩, rfl, rfl⟩
  rw [hNN] at cn
  refine call0 hg cn rfl rfl ?_
  cbv
  obtain ⟨u, K, R, t, m, hMj, z1, z2, hCm⟩ := hq2 (by unfold setO; rw [hTB, hNN]; rfl)
  clear hq1 hq2
  refine call0 hg (impl_node_a N n z1 z2 hMj) rfl rfl ?_
  cbv
  cases m
  case false =>
    cbv
    rw [hCm, if_neg (by decide)] at hF
    refine hand_lazy hg hhd fits [0, 1, 2, 4, 5] (.op 3 [] (.op 6 [7, 8] (.op 9 [10] .done .none) .none) .none) (by kernel_rfl) (by kernel_rfl) (S := List Nat × List Nat × List Nat × List Nat) (fun s => NewB β.lo (s.1 ++ s.2.1 ++ s.2.2.1 ++ s.2.2.2)) (fun s => [(4, .t (.c (.ptr 1 0 0))), (5, .t (ai (6)))]) (fun s => [.bx 50 8 [.view N, .view M, .view Q, .view V, .imm (.int .i64 x0), .imm (.int .i64 x1), .imm (.int .i64 x2), .imm (.bool x3)], .bx 50 8 [.fv s.1 N, .fv s.2.1 (MC 6), .fv s.2.2.1 Q, .fv s.2.2.2 V, .imm (.int .i64 x0), .imm (.int .i64 x1), .imm (.int .i64 x2), .imm (.bool x3)]]) (fun B hB => ?_) (fun s hs => ?_)
    · cbv
      repeat' (first | exact trivial | exact rfl | refine And.intro ?_ ?_)
      refine callT0 hg c0 (dwA_same rfl) (fun l1 res p1 p2 p3 ⟨bt, hres, hn⟩ => ?_)
      subst hres
      clear p2 p3
      cbv
      repeat' (first | exact trivial | exact rfl | refine And.intro ?_ ?_)
      refine callT0 hg (c3 bt 6) (dwA_same rfl) (fun l2 res q1 q2 q3 ⟨b0, b1, b2, b3, hres, hn2⟩ => ?_)
      subst hres
      have u1 : ∀ b ∈ bt, b < l2 := fun b hb => q3 b (by simp [fpA, fpL, fpC, AT.cells, hb])
      clear q2 q3
      cbv
      repeat' (first | exact trivial | exact rfl | refine And.intro ?_ ?_)
      exact hB (b0, b1, b2, b3) (hn2 _ (hn.mono p1) q1 u1) _ _ (Wk.weak (wkG [some 0, some 1] ⟨rfl, rfl, trivial⟩ ⟨⟨_, _, rfl, rfl, rfl, rfl, .inl ⟨rfl, rfl⟩⟩, ⟨_, _, rfl, rfl, rfl, rfl, .inl ⟨rfl, rfl⟩⟩, trivial⟩ (by decide) no_lt))
    cbv
    exact finT0 hF rfl ⟨⟨_, _, _, _, rfl, hs⟩, rfl, rfl⟩
  cbv
  rw [hCm, if_pos rfl] at hF
  refine hand_lazy hg hhd fits [0, 1, 2, 4, 5] (.op 3 [] (.op 6 [7, 8] (.op 9 [10] .done .none) .none) .none) (by kernel_rfl) (by kernel_rfl) (S := List Nat × List Nat × List Nat × List Nat) (fun s => NewB β.lo (s.1 ++ s.2.1 ++ s.2.2.1 ++ s.2.2.2)) (fun s => [(4, .t (.c (.ptr 1 0 0))), (5, .t (ai (0)))]) (fun s => [.bx 50 8 [.view N, .view M, .view Q, .view V, .imm (.int .i64 x0), .imm (.int .i64 x1), .imm (.int .i64 x2), .imm (.bool x3)], .bx 50 8 [.fv s.1 N, .fv s.2.1 (MC 0), .fv s.2.2.1 Q, .fv s.2.2.2 V, .imm (.int .i64 x0), .imm (.int .i64 x1), .imm (.int .i64 x2), .imm (.bool x3)]]) (fun B hB => ?_) (fun s hs => ?_)
  · cbv
    repeat' (first | exact trivial | exact rfl | refine And.intro ?_ ?_)
    refine callT0 hg c0 (dwA_same rfl) (fun l1 res p1 p2 p3 ⟨bt, hres, hn⟩ => ?_)
    subst hres
    clear p2 p3
    cbv
    repeat' (first | exact trivial | exact rfl | refine And.intro ?_ ?_)
    refine callT0 hg (c3 bt 0) (dwA_same rfl) (fun l2 res q1 q2 q3 ⟨b0, b1, b2, b3, hres, hn2⟩ => ?_)
    subst hres
    have u1 : ∀ b ∈ bt, b < l2 := fun b hb => q3 b (by simp [fpA, fpL, fpC, AT.cells, hb])
    clear q2 q3
    cbv
    repeat' (first | exact trivial | exact rfl | refine And.intro ?_ ?_)
    exact hB (b0, b1, b2, b3) (hn2 _ (hn.mono p1) q1 u1) _ _ (Wk.weak (wkG [some 0, some 1] ⟨rfl, rfl, trivial⟩ ⟨⟨_, _, rfl, rfl, rfl, rfl, .inl ⟨rfl, rfl⟩⟩, ⟨_, _, rfl, rfl, rfl, rfl, .inl ⟨rfl, rfl⟩⟩, trivial⟩ (by decide) no_lt))
  cbv
  exact finT0 hF rfl ⟨⟨_, _, _, _, rfl, hs⟩, rfl, rfl⟩
set_option maxHeartbeats 16000000 in
theorem spec_EngDirty_t (x : NEngine) (hs : x.small) (n : Int) : TCon Tryz.prog 17 [.agg x.ac, ai n] (fun lo res rows => (∃ b0 b1 b2 b3, res = .tup [.agg (engR b0 b1 b2 b3 (setT x x.tree.nodes (diC x.tree.nodes n) n)), ai (diC x.tree.nodes n)] ∧ NewB lo (b0 ++ b1 ++ b2 ++ b3)) ∧ plainV res = true ∧ rows = []) := by
  have c0 := spec_l22Copy_t x hs
  have c3 := fun d0 d1 d2 d3 => spec_l22Forget_t x hs d0 d1 d2 d3 n 0
  obtain ⟨⟨ns⟩, ⟨ms, qs⟩, fs, x0, x1, x2, x3⟩ := x
  obtain ⟨s0, s1, s2, s3, s4, s5, -⟩ := hs
  have hq1 : setO ns n = false → diC ns n = 1 := fun h => by unfold diC; rw [if_neg (by rw [h]; decide)]
  have hq2 : setO ns n = true → ∃ u K R t m, (vwA NNode.ac ns)[(n - 1).toNat]? = some (nodeA u K R t m) ∧ 1 ≤ n ∧ n ≤ 1048576 ∧ diC ns n = if m = true then 0 else 6 := fun h => by
    have hi : isN ns n = true := by unfold setO at h; simp only [Bool.and_eq_true] at h; exact h.2
    obtain ⟨i1, i2, x, hx⟩ := isN_at hi
    refine ⟨x.up, vw intC x.kids, vw GRule.c x.table.rules, x.style, x.measured, vwA_at hx, by omega, by omega, ?_⟩
    unfold diC msr
    rw [if_pos h, hx]
  have cT := spec_TreeOk_a ns s0 s1
  have hN1 : lenI (vwA NNode.ac ns) = (ns.length : Int) := by rw [lenI_eq, vwA_length]
  have cn := spec_l10Is_a (vwA NNode.ac ns) n
  have hin : isN ns n = rng n 1 (lenI (vwA NNode.ac ns)) := by rw [hN1]; rfl
  rw [← hin] at cn
  obtain ⟨N, hN⟩ : ∃ V, V = vwA NNode.ac ns := ⟨_, rfl⟩
  obtain ⟨M, hM⟩ : ∃ V, V = vwA NMemo.ac ms := ⟨_, rfl⟩
  obtain ⟨Q, hQ⟩ : ∃ V, V = vw GAsked.c qs := ⟨_, rfl⟩
  obtain ⟨V, hV⟩ : ∃ V, V = vw GFrame.c fs := ⟨_, rfl⟩
  obtain ⟨MC, hMC⟩ : ∃ MC : Int → List (List AC), ∀ c, MC c = vwA NMemo.ac (kpM ns ms c n) := ⟨_, fun _ => rfl⟩
  have hM1 : MC 1 = M := by rw [hMC, hM]; rfl
  have hM6 : MC 6 = M := by rw [hMC, hM]; rfl
  obtain ⟨C, hC⟩ : ∃ V, V = diC ns n := ⟨_, rfl⟩
  rw [← hN] at cT cn hq2
  rw [← hC] at hq1 hq2
  replace c0 : TCon Tryz.prog 34 [.agg [.view N, .view M, .view Q, .view V, .imm (.int .i64 x0), .imm (.int .i64 x1), .imm (.int .i64 x2), .imm (.bool x3)]] (fun lo res rows => (∃ b0 b1 b2 b3, res = .t (.agg [.fv b0 N, .fv b1 M, .fv b2 Q, .fv b3 V, .imm (.int .i64 x0), .imm (.int .i64 x1), .imm (.int .i64 x2), .imm (.bool x3)]) ∧ NewB lo (b0 ++ b1 ++ b2 ++ b3)) ∧ plainV res = true ∧ rows = []) := by rw [hN, hM, hQ, hV]; exact c0
  replace c3 : ∀ d0 d1 d2 d3 : List Nat, TCon Tryz.prog 56 [.agg [.fv d0 N, .fv d1 M, .fv d2 Q, .fv d3 V, .imm (.int .i64 x0), .imm (.int .i64 x1), .imm (.int .i64 x2), .imm (.bool x3)], ai n, ai 0] (fun lo res rows => (∃ b0 b1 b2 b3, res = .tup [.agg [.fv b0 N, .fv b1 (MC 0), .fv b2 Q, .fv b3 V, .imm (.int .i64 x0), .imm (.int .i64 x1), .imm (.int .i64 x2), .imm (.bool x3)], ai 0] ∧ ∀ l0, NewB l0 (d0 ++ d1 ++ d2 ++ d3) → l0 ≤ lo → (∀ b ∈ d0 ++ d1 ++ d2 ++ d3, b < lo) → NewB l0 (b0 ++ b1 ++ b2 ++ b3)) ∧ plainV res = true ∧ rows = []) := fun d0 d1 d2 d3 => by rw [hN, hM, hQ, hV, hMC]; exact c3 d0 d1 d2 d3
  show TCon _ _ [.agg [.view (vwA NNode.ac ns), .view (vwA NMemo.ac ms), .view (vw GAsked.c qs), .view (vw GFrame.c fs), .imm (.int .i64 x0), .imm (.int .i64 x1), .imm (.int .i64 x2), .imm (.bool x3)], _] (fun lo res rows => (∃ b0 b1 b2 b3, res = .tup [.agg [.fv b0 (vwA NNode.ac ns), .fv b1 (vwA NMemo.ac (kpM ns ms (diC ns n) n)), .fv b2 (vw GAsked.c qs), .fv b3 (vw GFrame.c fs), .imm (.int .i64 x0), .imm (.int .i64 x1), .imm (.int .i64 x2), .imm (.bool x3)], ai (diC ns n)] ∧ NewB lo (b0 ++ b1 ++ b2 ++ b3)) ∧ plainV res = true ∧ rows = [])
  rw [← hMC, ← hN, ← hM, ← hQ, ← hV, ← hC]
  clear hin hN1 hN hM hQ hV hC hMC s0 s1 s2 s3 s4 s5
  refine tcon_run ([]) ([]) (c := body Tryz.f17) fits Tryz.func17 (by kernel_rfl) (by kernel_rfl) (by rfl) (by kernel_rfl) fun β g eff hd F heff hhd hg hF => ?_
  cbv
  refine callT0 hg c0 (dwA_same rfl) (fun l1 res p1 p2 p3 ⟨b0, b1, b2, b3, hres, hn⟩ => ?_)
  subst hres
  clear p2 p3
  cbv
  cases hTB : treeB ns
  case false =>
    rw [hTB] at cT
    refine call0Dw hg cT ⟨⟨.inl rfl, trivial⟩, trivial⟩ rfl ?_
    cbv
    rw [hq1 (by unfold setO; rw [hTB]; rfl)] at hF
    exact finT0 hF rfl ⟨⟨b0, b1, b2, b3, by rw [hM1]; rfl, hn.mono p1⟩, rfl, rfl⟩
  rw [hTB] at cT
  refine call0Dw hg cT ⟨⟨.inl rfl, trivial⟩, trivial⟩ rfl ?_
  cbv
  cases hNN : isN ns n
  case false =>
    rw [hNN] at cn
    refine call0Dw hg cn ⟨⟨.inl rfl, trivial⟩, rfl, trivial⟩ rfl ?_
    cbv
    rw [hq1 (by unfold setO; rw [hTB, hNN]; rfl)] at hF
    exact finT0 hF rfl ⟨⟨b0, b1, b2, b3, by rw [hM1]; rfl, hn.mono p1⟩, rfl, rfl⟩
  rw [hNN] at cn
  refine call0Dw hg cn ⟨⟨.inl rfl, trivial⟩, rfl, trivial⟩ rfl ?_
  cbv
  obtain ⟨u, K, R, t, m, hMj, z1, z2, hCm⟩ := hq2 (by unfold setO; rw [hTB, hNN]; rfl)
  clear hq1 hq2
  refine call0Dw hg (spec_l10Node_a N n z1 z2 hMj) ⟨⟨.inl rfl, trivial⟩, rfl, trivial⟩ rfl ?_
  cbv
  cases m
  case false =>
    cbv
    rw [hCm, if_neg (by decide)] at hF
    exact finT0 hF rfl ⟨⟨b0, b1, b2, b3, by rw [hM6]; rfl, hn.mono p1⟩, rfl, rfl⟩
  cbv
  rw [hCm, if_pos rfl] at hF
  refine callT0 hg (c3 b0 b1 b2 b3) (dwA_same rfl) (fun l2 res q1 q2 q3 ⟨e0, e1, e2, e3, hres, hn2⟩ => ?_)
  subst hres
  have u1 : ∀ b ∈ b0 ++ b1 ++ b2 ++ b3, b < l2 := fun b hb => q2 b (by simp only [List.mem_append] at hb; rcases hb with ((h | h) | h) | h <;> simp [fpH, fpL, fpC, h])
  clear q2 q3
  cbv
  exact finT0 hF rfl ⟨⟨e0, e1, e2, e3, rfl, hn2 _ (hn.mono p1) q1 u1⟩, rfl, rfl⟩
end Go.Proofs.YtenbloaopcfdlaaGreat
namespace Go.Proofs.YtenbloaopcfdlaaGreat
open Go.ChangeShapes Go.WideShapes Go.ChangeAt Go.RowKit Am
set_option linter.unusedVariables false
set_option linter.unusedSimpArgs false
set_option maxRecDepth 100000
set_option maxHeartbeats 16000000 in
theorem laws_FnExactEngDirty_w (w : World) (a0 : NEngine) (f0 : a0.fit) (v0 : Value) (r0 : RT (fun b => b < w.heap.size) w [] [] (.agg a0.ac) v0) (a1 : Int) :
    Calls Tryz.prog 4 #[v0, .int .i64 a1] w fun e w' => e = .returned (.bool true) ∧ Below w.heap.size w w' := by
  have cz0 := fun (L : Int) (h0 : 0 ≤ L) (h1 : L ≤ 1048576) => laws_szEngine_n a0 L f0 h0 h1
  have ck0 : a0.small → _ := fun hs => laws_toEngine_n a0 hs
  have ct0 : a0.small → _ := fun hs => laws_toEngine_t a0 hs
  have ce0 : a0.small → _ := fun hs => laws_eqEngine_n a0 hs
  have cm0 : a0.small → _ := fun hs => markEngine_m a0 hs
  have cs := fun (hs0 : a0.small) => spec_EngDirty_t a0 hs0 a1
  have ci := fun (hs0 : a0.small) => impl_EngDirty_t a0 hs0 a1
  have hR := fun (hs0 : a0.small) => setS_small a0 (diC a0.tree.nodes a1) a1 hs0
  have eg := fun (hs0 : a0.small) => laws_eqEngine_n _ (hR hs0)
  have cg := fun (hs0 : a0.small) => markEngine_h _ (hR hs0)
  clear hR
  obtain ⟨S0, hS0⟩ : ∃ S : Prop, S = a0.small := ⟨_, rfl⟩
  obtain ⟨⟨a0ns⟩, ⟨a0ms, a0qs⟩, a0fs, a0e0, a0e1, a0e2, a0e3⟩ := a0
  obtain ⟨V00, hV00⟩ : ∃ V, V = vwA NNode.ac a0ns := ⟨_, rfl⟩
  obtain ⟨V01, hV01⟩ : ∃ V, V = vwA NMemo.ac a0ms := ⟨_, rfl⟩
  obtain ⟨V02, hV02⟩ : ∃ V, V = vw GAsked.c a0qs := ⟨_, rfl⟩
  obtain ⟨V03, hV03⟩ : ∃ V, V = vw GFrame.c a0fs := ⟨_, rfl⟩

  obtain ⟨G0, hG0⟩ : ∃ V, V = vwA NNode.ac a0ns := ⟨_, rfl⟩
  obtain ⟨G1, hG1⟩ : ∃ V, V = vwA NMemo.ac (kpM a0ns a0ms (diC a0ns a1) a1) := ⟨_, rfl⟩
  obtain ⟨G2, hG2⟩ : ∃ V, V = vw GAsked.c a0qs := ⟨_, rfl⟩
  obtain ⟨G3, hG3⟩ : ∃ V, V = vw GFrame.c a0fs := ⟨_, rfl⟩
  obtain ⟨X0, hX0⟩ : ∃ X : Int, X = diC a0ns a1 := ⟨_, rfl⟩
  replace r0 : RT (fun b => b < w.heap.size) w [] [] (.agg [.view V00, .view V01, .view V02, .view V03, .imm (.int .i64 a0e0), .imm (.int .i64 a0e1), .imm (.int .i64 a0e2), .imm (.bool a0e3)]) v0 := by rw [hV00, hV01, hV02, hV03]; exact r0
  replace cz0 : ∀ L : Int, 0 ≤ L → L ≤ 1048576 → PCon Tryz.prog 9 [.agg [.view V00, .view V01, .view V02, .view V03, .imm (.int .i64 a0e0), .imm (.int .i64 a0e1), .imm (.int .i64 a0e2), .imm (.bool a0e3)], ai L] (fun res rows => ∃ R : Int, res = .t (ai R) ∧ rows = [] ∧ (R ≤ L ∨ R < 0) ∧ (0 ≤ R → S0)) := by rw [hV00, hV01, hV02, hV03, hS0]; exact cz0
  replace ck0 : S0 → PCon Tryz.prog 11 [.agg [.view V00, .view V01, .view V02, .view V03, .imm (.int .i64 a0e0), .imm (.int .i64 a0e1), .imm (.int .i64 a0e2), .imm (.bool a0e3)]] (fun res rows => res = .t (.agg [.view V00, .view V01, .view V02, .view V03, .imm (.int .i64 a0e0), .imm (.int .i64 a0e1), .imm (.int .i64 a0e2), .imm (.bool a0e3)]) ∧ rows = []) := by rw [hV00, hV01, hV02, hV03, hS0]; exact ck0
  replace ct0 : S0 → TCon Tryz.prog 11 [.agg [.view V00, .view V01, .view V02, .view V03, .imm (.int .i64 a0e0), .imm (.int .i64 a0e1), .imm (.int .i64 a0e2), .imm (.bool a0e3)]] (fun lo res rows => (∃ b0 b1 b2 b3, res = .t (.agg [.fv b0 V00, .fv b1 V01, .fv b2 V02, .fv b3 V03, .imm (.int .i64 a0e0), .imm (.int .i64 a0e1), .imm (.int .i64 a0e2), .imm (.bool a0e3)]) ∧ NewB lo (b0 ++ b1 ++ b2 ++ b3)) ∧ plainV res = true ∧ rows = []) := by rw [hV00, hV01, hV02, hV03, hS0]; exact ct0
  replace ce0 : S0 → PCon Tryz.prog 14 [.agg [.view V00, .view V01, .view V02, .view V03, .imm (.int .i64 a0e0), .imm (.int .i64 a0e1), .imm (.int .i64 a0e2), .imm (.bool a0e3)], .agg [.view V00, .view V01, .view V02, .view V03, .imm (.int .i64 a0e0), .imm (.int .i64 a0e1), .imm (.int .i64 a0e2), .imm (.bool a0e3)]] (fun res rows => res = .t (abl true) ∧ rows = []) := by rw [hV00, hV01, hV02, hV03, hS0]; exact ce0
  replace cm0 : S0 → ∀ k0 : Int, 0 ≤ k0 → k0 ≤ 1000000000000000 → ∃ (R0 R1 R2 R3 : List (List AC)) (K : Int), k0 ≤ K ∧ K ≤ k0 + 100000000000000 ∧ (∀ b0 b1 b2 b3 : List Nat, (b0 ++ b1 ++ b2 ++ b3).Nodup → MCon Tryz.prog 15 [.agg [.fv b0 V00, .fv b1 V01, .fv b2 V02, .fv b3 V03, .imm (.int .i64 a0e0), .imm (.int .i64 a0e1), .imm (.int .i64 a0e2), .imm (.bool a0e3)], ai k0] [(b0, V00, R0), (b1, V01, R1), (b2, V02, R2), (b3, V03, R3)] (.int .i64 K)) := by rw [hV00, hV01, hV02, hV03, hS0]; exact cm0
  replace cs : S0 → TCon Tryz.prog 17 [.agg [.view V00, .view V01, .view V02, .view V03, .imm (.int .i64 a0e0), .imm (.int .i64 a0e1), .imm (.int .i64 a0e2), .imm (.bool a0e3)], ai a1] (fun lo res rows => (∃ b0 b1 b2 b3, res = .tup [.agg [.fv b0 G0, .fv b1 G1, .fv b2 G2, .fv b3 G3, .imm (.int .i64 a0e0), .imm (.int .i64 a0e1), .imm (.int .i64 a0e2), .imm (.bool a0e3)], ai X0] ∧ NewB lo (b0 ++ b1 ++ b2 ++ b3)) ∧ plainV res = true ∧ rows = []) := by rw [hV00, hV01, hV02, hV03, hS0, hG0, hG1, hG2, hG3, hX0]; exact cs
  replace ci : S0 → TCon Tryz.prog 18 [.agg [.view V00, .view V01, .view V02, .view V03, .imm (.int .i64 a0e0), .imm (.int .i64 a0e1), .imm (.int .i64 a0e2), .imm (.bool a0e3)], ai a1] (fun lo res rows => (∃ b0 b1 b2 b3, res = .tup [.agg [.fv b0 G0, .fv b1 G1, .fv b2 G2, .fv b3 G3, .imm (.int .i64 a0e0), .imm (.int .i64 a0e1), .imm (.int .i64 a0e2), .imm (.bool a0e3)], ai X0] ∧ NewB lo (b0 ++ b1 ++ b2 ++ b3)) ∧ plainV res = true ∧ rows = []) := by rw [hV00, hV01, hV02, hV03, hS0, hG0, hG1, hG2, hG3, hX0]; exact ci
  replace eg : S0 → PCon Tryz.prog 14 [.agg [.view G0, .view G1, .view G2, .view G3, .imm (.int .i64 a0e0), .imm (.int .i64 a0e1), .imm (.int .i64 a0e2), .imm (.bool a0e3)], .agg [.view G0, .view G1, .view G2, .view G3, .imm (.int .i64 a0e0), .imm (.int .i64 a0e1), .imm (.int .i64 a0e2), .imm (.bool a0e3)]] (fun res rows => res = .t (abl true) ∧ rows = []) := by rw [hS0, hG0, hG1, hG2, hG3]; exact eg
  replace cg : S0 → ∃ (R0 R1 R2 R3 : List (List AC)) (K : Int), 1 ≤ K ∧ K ≤ 1 + 100000000000000 ∧ (∀ b0 b1 b2 b3 : List Nat, (b0 ++ b1 ++ b2 ++ b3).Nodup → MCon Tryz.prog 15 [.agg [.fv b0 G0, .fv b1 G1, .fv b2 G2, .fv b3 G3, .imm (.int .i64 a0e0), .imm (.int .i64 a0e1), .imm (.int .i64 a0e2), .imm (.bool a0e3)], ai 1] [(b0, G0, R0), (b1, G1, R1), (b2, G2, R2), (b3, G3, R3)] (.int .i64 K)) ∧ PCon Tryz.prog 16 [.agg [.view R0, .view R1, .view R2, .view R3, .imm (.int .i64 a0e0), .imm (.int .i64 a0e1), .imm (.int .i64 a0e2), .imm (.bool a0e3)], ai 1] (fun res rows => res = .t (ai K) ∧ rows = []) := by rw [hS0, hG0, hG1, hG2, hG3]; exact cg
  have cw : S0 → PCon Tryz.prog 17 [.agg [.view V00, .view V01, .view V02, .view V03, .imm (.int .i64 a0e0), .imm (.int .i64 a0e1), .imm (.int .i64 a0e2), .imm (.bool a0e3)], ai a1] (fun res rows => res = .tup [.agg [.view G0, .view G1, .view G2, .view G3, .imm (.int .i64 a0e0), .imm (.int .i64 a0e1), .imm (.int .i64 a0e2), .imm (.bool a0e3)], ai X0] ∧ rows = []) := fun h0 => pcon_of_tcon2 (y := .agg [.view G0, .view G1, .view G2, .view G3, .imm (.int .i64 a0e0), .imm (.int .i64 a0e1), .imm (.int .i64 a0e2), .imm (.bool a0e3)]) (Q := fun _ _ => True) ((cs h0).mono fun lo res rows ⟨⟨b0, b1, b2, b3, h1, h2⟩, h3, h4⟩ => ⟨⟨_, h1, ⟨.inl rfl, .inl rfl, .inl rfl, .inl rfl, rfl, rfl, rfl, rfl, trivial⟩, trivial⟩, h3, h4⟩)
  have ch : S0 → PCon Tryz.prog 18 [.agg [.view V00, .view V01, .view V02, .view V03, .imm (.int .i64 a0e0), .imm (.int .i64 a0e1), .imm (.int .i64 a0e2), .imm (.bool a0e3)], ai a1] (fun res rows => res = .tup [.agg [.view G0, .view G1, .view G2, .view G3, .imm (.int .i64 a0e0), .imm (.int .i64 a0e1), .imm (.int .i64 a0e2), .imm (.bool a0e3)], ai X0] ∧ rows = []) := fun h0 => pcon_of_tcon2 (y := .agg [.view G0, .view G1, .view G2, .view G3, .imm (.int .i64 a0e0), .imm (.int .i64 a0e1), .imm (.int .i64 a0e2), .imm (.bool a0e3)]) (Q := fun _ _ => True) ((ci h0).mono fun lo res rows ⟨⟨b0, b1, b2, b3, h1, h2⟩, h3, h4⟩ => ⟨⟨_, h1, ⟨.inl rfl, .inl rfl, .inl rfl, .inl rfl, rfl, rfl, rfl, rfl, trivial⟩, trivial⟩, h3, h4⟩)
  clear cs hS0 hV00 hV01 hV02 hV03 f0 hG0 hG1 hG2 hG3 hX0
  refine law_cut 5 [(13, .hand), (17, .hand)] [] (S0) (args := fun lo => [.agg [.old lo V00, .old lo V01, .old lo V02, .old lo V03, .imm (.int .i64 a0e0), .imm (.int .i64 a0e1), .imm (.int .i64 a0e2), .imm (.bool a0e3)], ai a1]) (c := body Tryz.f4) (fun lo => [(1, .t (ai a1)), (2, .t (.c (.ptr 0 0 0))), (6, .t (.c (.ptr 1 0 0))), (7, .t (ai X0))]) (fun lo => [.bx 31 8 [.old lo V00, .old lo V01, .old lo V02, .old lo V03, .imm (.int .i64 a0e0), .imm (.int .i64 a0e1), .imm (.int .i64 a0e2), .imm (.bool a0e3)], .bx 50 8 [.view G0, .view G1, .view G2, .view G3, .imm (.int .i64 a0e0), .imm (.int .i64 a0e1), .imm (.int .i64 a0e2), .imm (.bool a0e3)]]) fits Tryz.func4 (by kernel_rfl) (by kernel_rfl) (fun _ => by rfl) (by kernel_rfl) (fun β g eff hd F B hex heff hhd hg hF hB => ?_) (fun β lo g eff hd F hs0 hlo hex heff hhd hg hF => ?_) (vs := [v0, .int .i64 a1]) rfl (argsR_cons (rt_old (xs := [.view V00, .view V01, .view V02, .view V03, .imm (.int .i64 a0e0), .imm (.int .i64 a0e1), .imm (.int .i64 a0e2), .imm (.bool a0e3)]) rfl r0) (argsR_cons (rt_int _) (argsR_nil)))
  · clear r0
    cbv
    refine callDw hg (cz0 1048576 (by decide) (by decide)) ⟨⟨rfl, rfl, rfl, rfl, rfl, rfl, rfl, rfl, trivial⟩, rfl, trivial⟩ (fun res rows ⟨R0, hres, hrows, hz0, hy0⟩ => ?_)
    subst hres hrows
    refine ⟨[], rfl, ?_⟩
    cbv
    cases hl0 : g .q .lss R0 0
    case true =>
      cbv
      rw [hF]
    rw [goLss hg, decide_eq_false_iff_not] at hl0
    have hs0 : S0 := hy0 (by omega)
    cbv
    clear cz0
    repeat' (first | (refine call0DwP hg (ck0 hs0) ⟨⟨rfl, rfl, rfl, rfl, rfl, rfl, rfl, rfl, trivial⟩, trivial⟩ rfl ?_; cbv) | (refine call0Dw hg (ck0 hs0) ⟨⟨rfl, rfl, rfl, rfl, rfl, rfl, rfl, rfl, trivial⟩, trivial⟩ rfl ?_; cbv) | (refine call0DwP hg (cw hs0) (dwA_same rfl) rfl ?_; cbv) | (refine call0Dw hg (cw hs0) (dwA_same rfl) rfl ?_; cbv))
    skip
    exact hB hs0 _ _ (Wk.weak (wkG [some 0, some 1] ⟨rfl, rfl, rfl, rfl, trivial⟩ ⟨⟨_, _, rfl, rfl, rfl, rfl, .inl ⟨rfl, rfl⟩⟩, ⟨_, _, rfl, rfl, rfl, rfl, .inl ⟨rfl, rfl⟩⟩, trivial⟩ (by decide) no_lt))
  · clear r0 cz0 cw
    replace ck0 := ck0 hs0
    replace ct0 := ct0 hs0
    replace ce0 := ce0 hs0
    replace cm0 := cm0 hs0
    replace ci := ci hs0
    replace ch := ch hs0
    replace eg := eg hs0
    replace cg := cg hs0
    cbv
    refine callT0 hg ct0 ⟨⟨rfl, rfl, rfl, rfl, rfl, rfl, rfl, rfl, trivial⟩, trivial⟩ (fun lo0 res q1 q2 q3 ⟨b00, b01, b02, b03, hres, hn0⟩ => ?_)
    subst hres
    have p0 : β.lo ≤ lo0 := q1
    clear q1 q2 q3
    cbv
    have l_b00 : ∀ b ∈ b00, lo0 ≤ b := fun b hb => hn0.2 b (by simp [hb])
    have l_b01 : ∀ b ∈ b01, lo0 ≤ b := fun b hb => hn0.2 b (by simp [hb])
    have l_b02 : ∀ b ∈ b02, lo0 ≤ b := fun b hb => hn0.2 b (by simp [hb])
    have l_b03 : ∀ b ∈ b03, lo0 ≤ b := fun b hb => hn0.2 b (by simp [hb])
    refine callT0 hg ci ⟨⟨.inl rfl, .inl rfl, .inl rfl, .inl rfl, rfl, rfl, rfl, rfl, trivial⟩, rfl, trivial⟩ (fun log res q1 q2 q3 ⟨c0, c1, c2, c3, hres, hng⟩ => ?_)
    subst hres
    have pg : β.lo ≤ log := q1
    have u_g_b00 : ∀ b ∈ b00, b < log := fun b hb => q2 b (by simp [fpH, fpL, fpC, hb])
    have u_g_b01 : ∀ b ∈ b01, b < log := fun b hb => q2 b (by simp [fpH, fpL, fpC, hb])
    have u_g_b02 : ∀ b ∈ b02, b < log := fun b hb => q2 b (by simp [fpH, fpL, fpC, hb])
    have u_g_b03 : ∀ b ∈ b03, b < log := fun b hb => q2 b (by simp [fpH, fpL, fpC, hb])
    clear q1 q2 q3 ci ct0
    cbv
    have l_c0 : ∀ b ∈ c0, log ≤ b := fun b hb => hng.2 b (by simp [hb])
    have l_c1 : ∀ b ∈ c1, log ≤ b := fun b hb => hng.2 b (by simp [hb])
    have l_c2 : ∀ b ∈ c2, log ≤ b := fun b hb => hng.2 b (by simp [hb])
    have l_c3 : ∀ b ∈ c3, log ≤ b := fun b hb => hng.2 b (by simp [hb])
    have eX : g .q .neq (X0) (X0) = false := by rw [goNeq hg]; simp
    refine call0Dw hg eg ⟨⟨.inl rfl, .inl rfl, .inl rfl, .inl rfl, rfl, rfl, rfl, rfl, trivial⟩, ⟨rfl, rfl, rfl, rfl, rfl, rfl, rfl, rfl, trivial⟩, trivial⟩ rfl ?_
    cbv
    rw [eX]
    cbv
    refine call0DwP hg ck0 ⟨⟨rfl, rfl, rfl, rfl, rfl, rfl, rfl, rfl, trivial⟩, trivial⟩ rfl ?_
    cbv
    refine call0DwP hg ce0 ⟨⟨.inl rfl, .inl rfl, .inl rfl, .inl rfl, rfl, rfl, rfl, rfl, trivial⟩, ⟨rfl, rfl, rfl, rfl, rfl, rfl, rfl, rfl, trivial⟩, trivial⟩ rfl ?_
    cbv
    obtain ⟨Z00, Z01, Z02, Z03, K0, hK0, hL0, hm0⟩ := cm0 1 (by decide) (by decide)
    have hU1 : ∀ u ∈ [(b00, V00, Z00), (b01, V01, Z01), (b02, V02, Z02), (b03, V03, Z03)], ∀ b ∈ u.1, lo0 ≤ b := fun u hu => by
      simp only [List.mem_cons, List.mem_nil_iff, or_false, List.not_mem_nil] at hu
      rcases hu with rfl | rfl | rfl | rfl
      · exact l_b00
      · exact l_b01
      · exact l_b02
      · exact l_b03
    have hVg : ∀ u ∈ [(b00, V00, Z00), (b01, V01, Z01), (b02, V02, Z02), (b03, V03, Z03)], ∀ b ∈ u.1, b < log := fun u hu => by
      simp only [List.mem_cons, List.mem_nil_iff, or_false, List.not_mem_nil] at hu
      rcases hu with rfl | rfl | rfl | rfl
      · exact u_g_b00
      · exact u_g_b01
      · exact u_g_b02
      · exact u_g_b03
    have hUm : ∀ u ∈ [(b00, V00, Z00), (b01, V01, Z01), (b02, V02, Z02), (b03, V03, Z03)], ∃ x ∈ ([.agg [.fv b00 V00, .fv b01 V01, .fv b02 V02, .fv b03 V03, .imm (.int .i64 a0e0), .imm (.int .i64 a0e1), .imm (.int .i64 a0e2), .imm (.bool a0e3)], ai 1] : List AT), .fv u.1 u.2.1 ∈ x.cells := fun u hu => by
      simp only [List.mem_cons, List.mem_nil_iff, or_false, List.not_mem_nil] at hu
      rcases hu with rfl | rfl | rfl | rfl
      · exact ⟨_, List.mem_cons_self .., List.mem_cons_self ..⟩
      · exact ⟨_, List.mem_cons_self .., List.mem_cons_of_mem _ (List.mem_cons_self ..)⟩
      · exact ⟨_, List.mem_cons_self .., List.mem_cons_of_mem _ (List.mem_cons_of_mem _ (List.mem_cons_self ..))⟩
      · exact ⟨_, List.mem_cons_self .., List.mem_cons_of_mem _ (List.mem_cons_of_mem _ (List.mem_cons_of_mem _ (List.mem_cons_self ..)))⟩
    refine hand_mark hg hhd fits 2 (by kernel_rfl) (fun mk hmk => ?_)
    cbv
    subst hmk
    refine ⟨_, _, _, [(b00, V00, Z00), (b01, V01, Z01), (b02, V02, Z02), (b03, V03, Z03)], _, [(1, .t (ai a1)), (2, .t (.c (.ptr 0 0 0))), (6, .t (.c (.ptr 1 0 0))), (7, .t (ai X0)), (8, .t (.c (.ptr 2 0 0))), (9, .t (.c (.ptr 3 0 0))), (10, .t (ai X0))], [.bx 31 8 [.old lo V00, .old lo V01, .old lo V02, .old lo V03, .imm (.int .i64 a0e0), .imm (.int .i64 a0e1), .imm (.int .i64 a0e2), .imm (.bool a0e3)], .bx 50 8 [.old β.lo G0, .old β.lo G1, .old β.lo G2, .old β.lo G3, .imm (.int .i64 a0e0), .imm (.int .i64 a0e1), .imm (.int .i64 a0e2), .imm (.bool a0e3)], .bx 50 8 [.dead, .dead, .dead, .dead, .imm (.int .i64 a0e0), .imm (.int .i64 a0e1), .imm (.int .i64 a0e2), .imm (.bool a0e3)], .bx 50 8 [.fv c0 G0, .fv c1 G1, .fv c2 G2, .fv c3 G3, .imm (.int .i64 a0e0), .imm (.int .i64 a0e1), .imm (.int .i64 a0e2), .imm (.bool a0e3)]], rfl, rfl, rfl, rfl, rfl, hm0 b00 b01 b02 b03 hn0.1, fun u hu b hb => hex b (Nat.le_trans p0 (hU1 u hu b hb)), fun u hu => hUm u hu, ⟨.inr (.inl ⟨rfl, trivial⟩), .inr (.inl ⟨rfl, trivial⟩), .inr (.inl ⟨rfl, trivial⟩), .inr (.inl ⟨rfl, trivial⟩), .inr (.inl ⟨rfl, trivial⟩), .inr (.inl ⟨rfl, trivial⟩), .inr (.inl ⟨rfl, trivial⟩), trivial⟩, ⟨⟨rfl, rfl, .inr (.inl ⟨rfl, okM_old (Nat.le_trans hlo p0) hU1⟩), .inr (.inl ⟨rfl, okM_old (Nat.le_trans hlo p0) hU1⟩), .inr (.inl ⟨rfl, okM_old (Nat.le_trans hlo p0) hU1⟩), .inr (.inl ⟨rfl, okM_old (Nat.le_trans hlo p0) hU1⟩), .inr (.inl ⟨rfl, trivial⟩), .inr (.inl ⟨rfl, trivial⟩), .inr (.inl ⟨rfl, trivial⟩), .inr (.inl ⟨rfl, trivial⟩), trivial⟩, ⟨rfl, rfl, .inr (.inl ⟨rfl, okM_old p0 hU1⟩), .inr (.inl ⟨rfl, okM_old p0 hU1⟩), .inr (.inl ⟨rfl, okM_old p0 hU1⟩), .inr (.inl ⟨rfl, okM_old p0 hU1⟩), .inr (.inl ⟨rfl, trivial⟩), .inr (.inl ⟨rfl, trivial⟩), .inr (.inl ⟨rfl, trivial⟩), .inr (.inl ⟨rfl, trivial⟩), trivial⟩, ⟨rfl, rfl, .inl rfl, .inl rfl, .inl rfl, .inl rfl, .inr (.inl ⟨rfl, trivial⟩), .inr (.inl ⟨rfl, trivial⟩), .inr (.inl ⟨rfl, trivial⟩), .inr (.inl ⟨rfl, trivial⟩), trivial⟩, ⟨rfl, rfl, .inr (.inl ⟨rfl, okM_gt l_c0 hVg⟩), .inr (.inl ⟨rfl, okM_gt l_c1 hVg⟩), .inr (.inl ⟨rfl, okM_gt l_c2 hVg⟩), .inr (.inl ⟨rfl, okM_gt l_c3 hVg⟩), .inr (.inl ⟨rfl, trivial⟩), .inr (.inl ⟨rfl, trivial⟩), .inr (.inl ⟨rfl, trivial⟩), .inr (.inl ⟨rfl, trivial⟩), trivial⟩, trivial⟩, ?_⟩
    clear hU1 hUm hVg hm0
    cbv
    have eK : g .q .lss K0 0 = false := by rw [goLss hg]; exact decide_eq_false (by omega)
    rw [eK]
    cbv
    refine call0Dw hg eg ⟨⟨.inl rfl, .inl rfl, .inl rfl, .inl rfl, rfl, rfl, rfl, rfl, trivial⟩, ⟨rfl, rfl, rfl, rfl, rfl, rfl, rfl, rfl, trivial⟩, trivial⟩ rfl ?_
    cbv
    rw [eX]
    cbv
    obtain ⟨Y0, Y1, Y2, Y3, M, hM0, hM1, hmg, hd2⟩ := cg
    have hU1 : ∀ u ∈ [(c0, G0, Y0), (c1, G1, Y1), (c2, G2, Y2), (c3, G3, Y3)], ∀ b ∈ u.1, log ≤ b := fun u hu => by
      simp only [List.mem_cons, List.mem_nil_iff, or_false, List.not_mem_nil] at hu
      rcases hu with rfl | rfl | rfl | rfl
      · exact l_c0
      · exact l_c1
      · exact l_c2
      · exact l_c3
    have hUm : ∀ u ∈ [(c0, G0, Y0), (c1, G1, Y1), (c2, G2, Y2), (c3, G3, Y3)], ∃ x ∈ ([.agg [.fv c0 G0, .fv c1 G1, .fv c2 G2, .fv c3 G3, .imm (.int .i64 a0e0), .imm (.int .i64 a0e1), .imm (.int .i64 a0e2), .imm (.bool a0e3)], ai 1] : List AT), .fv u.1 u.2.1 ∈ x.cells := fun u hu => by
      simp only [List.mem_cons, List.mem_nil_iff, or_false, List.not_mem_nil] at hu
      rcases hu with rfl | rfl | rfl | rfl
      · exact ⟨_, List.mem_cons_self .., List.mem_cons_self ..⟩
      · exact ⟨_, List.mem_cons_self .., List.mem_cons_of_mem _ (List.mem_cons_self ..)⟩
      · exact ⟨_, List.mem_cons_self .., List.mem_cons_of_mem _ (List.mem_cons_of_mem _ (List.mem_cons_self ..))⟩
      · exact ⟨_, List.mem_cons_self .., List.mem_cons_of_mem _ (List.mem_cons_of_mem _ (List.mem_cons_of_mem _ (List.mem_cons_self ..)))⟩
    refine hand_mark hg hhd fits 2 (by kernel_rfl) (fun mk hmk => ?_)
    cbv
    subst hmk
    refine ⟨_, _, _, [(c0, G0, Y0), (c1, G1, Y1), (c2, G2, Y2), (c3, G3, Y3)], _, [(1, .t (ai a1)), (2, .t (.c (.ptr 0 0 0))), (6, .t (.c (.ptr 1 0 0))), (7, .t (ai X0)), (8, .t (.c (.ptr 2 0 0))), (9, .t (.c (.ptr 3 0 0))), (10, .t (ai X0))], [.bx 31 8 [.old lo V00, .old lo V01, .old lo V02, .old lo V03, .imm (.int .i64 a0e0), .imm (.int .i64 a0e1), .imm (.int .i64 a0e2), .imm (.bool a0e3)], .bx 50 8 [.old β.lo G0, .old β.lo G1, .old β.lo G2, .old β.lo G3, .imm (.int .i64 a0e0), .imm (.int .i64 a0e1), .imm (.int .i64 a0e2), .imm (.bool a0e3)], .bx 50 8 [.dead, .dead, .dead, .dead, .imm (.int .i64 a0e0), .imm (.int .i64 a0e1), .imm (.int .i64 a0e2), .imm (.bool a0e3)], .bx 50 8 [.fv c0 Y0, .fv c1 Y1, .fv c2 Y2, .fv c3 Y3, .imm (.int .i64 a0e0), .imm (.int .i64 a0e1), .imm (.int .i64 a0e2), .imm (.bool a0e3)]], rfl, rfl, rfl, rfl, rfl, hmg c0 c1 c2 c3 hng.1, fun u hu b hb => hex b (Nat.le_trans pg (hU1 u hu b hb)), fun u hu => hUm u hu, ⟨.inr (.inl ⟨rfl, trivial⟩), .inr (.inl ⟨rfl, trivial⟩), .inr (.inl ⟨rfl, trivial⟩), .inr (.inl ⟨rfl, trivial⟩), .inr (.inl ⟨rfl, trivial⟩), .inr (.inl ⟨rfl, trivial⟩), .inr (.inl ⟨rfl, trivial⟩), trivial⟩, ⟨⟨rfl, rfl, .inr (.inl ⟨rfl, okM_old (Nat.le_trans hlo pg) hU1⟩), .inr (.inl ⟨rfl, okM_old (Nat.le_trans hlo pg) hU1⟩), .inr (.inl ⟨rfl, okM_old (Nat.le_trans hlo pg) hU1⟩), .inr (.inl ⟨rfl, okM_old (Nat.le_trans hlo pg) hU1⟩), .inr (.inl ⟨rfl, trivial⟩), .inr (.inl ⟨rfl, trivial⟩), .inr (.inl ⟨rfl, trivial⟩), .inr (.inl ⟨rfl, trivial⟩), trivial⟩, ⟨rfl, rfl, .inr (.inl ⟨rfl, okM_old pg hU1⟩), .inr (.inl ⟨rfl, okM_old pg hU1⟩), .inr (.inl ⟨rfl, okM_old pg hU1⟩), .inr (.inl ⟨rfl, okM_old pg hU1⟩), .inr (.inl ⟨rfl, trivial⟩), .inr (.inl ⟨rfl, trivial⟩), .inr (.inl ⟨rfl, trivial⟩), .inr (.inl ⟨rfl, trivial⟩), trivial⟩, ⟨rfl, rfl, .inl rfl, .inl rfl, .inl rfl, .inl rfl, .inr (.inl ⟨rfl, trivial⟩), .inr (.inl ⟨rfl, trivial⟩), .inr (.inl ⟨rfl, trivial⟩), .inr (.inl ⟨rfl, trivial⟩), trivial⟩, ⟨rfl, rfl, .inr (.inr ⟨_, List.mem_cons_self .., rfl, rfl⟩), .inr (.inr ⟨_, List.mem_cons_of_mem _ (List.mem_cons_self ..), rfl, rfl⟩), .inr (.inr ⟨_, List.mem_cons_of_mem _ (List.mem_cons_of_mem _ (List.mem_cons_self ..)), rfl, rfl⟩), .inr (.inr ⟨_, List.mem_cons_of_mem _ (List.mem_cons_of_mem _ (List.mem_cons_of_mem _ (List.mem_cons_self ..))), rfl, rfl⟩), .inr (.inl ⟨rfl, trivial⟩), .inr (.inl ⟨rfl, trivial⟩), .inr (.inl ⟨rfl, trivial⟩), .inr (.inl ⟨rfl, trivial⟩), trivial⟩, trivial⟩, ?_⟩
    clear hU1 hUm hmg
    cbv
    have eM : g .q .lss M 0 = false := by rw [goLss hg]; exact decide_eq_false (by omega)
    have eN : g .q .neq M M = false := by rw [goNeq hg]; simp
    refine call0Dw hg hd2 ⟨⟨.inl rfl, .inl rfl, .inl rfl, .inl rfl, rfl, rfl, rfl, rfl, trivial⟩, rfl, trivial⟩ rfl ?_
    cbv
    rw [eM]
    cbv
    rw [eN]
    cbv
    repeat' (first | (refine call0DwP hg ck0 ⟨⟨rfl, rfl, rfl, rfl, rfl, rfl, rfl, rfl, trivial⟩, trivial⟩ rfl ?_; cbv) | (refine call0Dw hg ck0 ⟨⟨rfl, rfl, rfl, rfl, rfl, rfl, rfl, rfl, trivial⟩, trivial⟩ rfl ?_; cbv) | (refine call0DwP hg ch (dwA_same rfl) rfl ?_; cbv) | (refine call0Dw hg ch (dwA_same rfl) rfl ?_; cbv))
    refine call0Dw hg eg ⟨⟨rfl, rfl, rfl, rfl, rfl, rfl, rfl, rfl, trivial⟩, ⟨rfl, rfl, rfl, rfl, rfl, rfl, rfl, rfl, trivial⟩, trivial⟩ rfl ?_
    cbv
    rw [eX]
    cbv
    refine call0Dw hg hd2 ⟨⟨.inl rfl, .inl rfl, .inl rfl, .inl rfl, rfl, rfl, rfl, rfl, trivial⟩, rfl, trivial⟩ rfl ?_
    cbv
    rw [eM]
    cbv
    rw [eN]
    cbv
    rw [hF]
end Go.Proofs.YtenbloaopcfdlaaGreat
