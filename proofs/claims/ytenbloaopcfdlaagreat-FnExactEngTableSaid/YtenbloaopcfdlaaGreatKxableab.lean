/- A node's table is set. -/
import Derived.Test.YtenbloaopcfdlaaGreatKxableaa
namespace Go.Proofs.YtenbloaopcfdlaaGreat
open Go.ChangeShapes Go.WideShapes Go.ChangeAt Go.RowKit Am
set_option linter.unusedVariables false
set_option linter.unusedSimpArgs false
set_option maxRecDepth 100000
theorem fpL_node (u : Int) (K R : List (List AC)) (s : GStyle) (m : Bool) (b1 b2 : List Nat) : fpL (nodeE u K R s m b1 b2) = b1 ++ b2 := by
  show b1 ++ (b2 ++ []) = _
  rw [List.append_nil]
def nodeO (u : Int) (K : List (List AC)) (s : GStyle) (m : Bool) (b1 : List Nat) (r : Nat) : List AC := .imm (.int .i64 u) :: .fv b1 K :: (lc (GStyle.c s) ++ [.imm (.bool m), .own r])
def tbB (ns : List NNode) (n : Int) (rs : List GRule) : Bool := decide (0 < rs.length) && (!taOk rs || (match ns[(n - 1).toNat]? with | some x => decide (0 < x.kids.length) | none => false))
def tbN (ns : List NNode) (n : Int) (rs : List GRule) : List NNode := match setO ns n && !tbB ns n rs, ns[(n - 1).toNat]? with | true, some x => ns.set (n - 1).toNat { x with measured := decide (0 < rs.length), table := ⟨rs⟩ } | _, _ => ns
def tbI (ns : List NNode) (n : Int) (rs : List GRule) : Int := if setO ns n = true then (if tbB ns n rs = true then 6 else 0) else 1
set_option maxHeartbeats 16000000 in
theorem impl_SetTable_t (ns : List NNode) (hl : ns.length ≤ 1048576) (hs : ∀ y ∈ ns, NNode.small y) (n : Int) (rs : List GRule) (hr : rs.length ≤ 1048576) : TCon Tryz.prog 67 [.agg [.view (vwA NNode.ac ns)], ai n, .agg [.view (vw GRule.c rs)]] fun lo res rows => (∃ b0, res = .tup [.agg [.fv b0 (vwA NNode.ac (tbN ns n rs))], ai (tbI ns n rs)] ∧ NewB lo b0) ∧ plainV res = true ∧ rows = [] := by
  have ck := impl_copyTree_t ns hl hs
  have cT := impl_TreeOk_a ns hl hs
  have cB := impl_TableOk_a rs hr
  have c2 := impl_copyTable_t rs hr
  obtain ⟨M, hM⟩ : ∃ M, M = vwA NNode.ac ns := ⟨_, rfl⟩
  obtain ⟨V, hV⟩ : ∃ V, V = vw GRule.c rs := ⟨_, rfl⟩
  have hVl : V.length = rs.length := by rw [hV, vw_length]
  have iV : immE V = true := by rw [hV]; exact vw_imm _ _
  have kV : ∀ y ∈ V, y.length = 3 := by rw [hV]; exact vw_k (c := GRule.c) (k := 3) fun _ => rfl
  have dV : ∀ y ∈ V, y.all dat = true := by rw [hV]; exact vw_dat
  have hVx : lenI V = (rs.length : Int) := by rw [lenI_eq]; omega
  have hMx : lenI M = (ns.length : Int) := by rw [lenI_eq, hM, vwA_length]
  have cn := impl_isNode_a M n
  have hin : isN ns n = rng n 1 (lenI M) := by rw [hMx]; rfl
  rw [← hin] at cn
  obtain ⟨W, hW⟩ : ∃ W, W = vwA NNode.ac (tbN ns n rs) := ⟨_, rfl⟩
  obtain ⟨AI, hAI⟩ : ∃ W, W = tbI ns n rs := ⟨_, rfl⟩
  have hq1 : setO ns n = false → W = M ∧ AI = 1 := fun h => ⟨by rw [hW, hM]; unfold tbN; rw [h]; rfl, by rw [hAI]; unfold tbI; rw [if_neg (by rw [h]; decide)]⟩
  have hq2 : setO ns n = true → tbB ns n rs = true → W = M ∧ AI = 6 := fun h h' => ⟨by rw [hW, hM]; unfold tbN; rw [h, h']; rfl, by rw [hAI]; unfold tbI; rw [if_pos h, if_pos h']⟩
  have hq3 : setO ns n = true → 0 ≤ n - 1 ∧ (n - 1).toNat < M.length ∧ n ≤ 1048576 ∧ 1 ≤ n ∧ ∃ u K R t m, M[(n - 1).toNat]? = some (nodeA u K R t m) ∧ (tbB ns n rs = (decide (lenI V > 0) && (!taOk rs || decide (lenI K > 0)))) ∧ (tbB ns n rs = false → AI = 0 ∧ W = M.set (n - 1).toNat (nodeA u K V t (decide (lenI V > 0)))) := fun h => by
    have hi : isN ns n = true := by unfold setO at h; simp only [Bool.and_eq_true] at h; exact h.2
    obtain ⟨i1, i2, x, hx⟩ := isN_at hi
    have e1 : decide (lenI V > 0) = decide (0 < rs.length) := decide_eq_decide.2 (by omega)
    refine ⟨by omega, by rw [hM, vwA_length]; exact (List.getElem?_eq_some_iff.1 hx).1, by omega, by omega, x.up, vw intC x.kids, vw GRule.c x.table.rules, x.style, x.measured, by rw [hM]; exact vwA_at hx, ?_, fun h' => ⟨by rw [hAI]; unfold tbI; rw [if_pos h, if_neg (by rw [h']; decide)], ?_⟩⟩
    · unfold tbB
      rw [hx, e1, show decide (lenI (vw intC x.kids) > 0) = decide (0 < x.kids.length) from decide_eq_decide.2 (by rw [lenI_eq, vw_length]; omega)]
    · rw [hW, hM]; unfold tbN; rw [h, h', hx, e1, hV]; exact vwA_set ns _ _
  rw [← hM] at ck cT
  rw [← hV] at cB
  rw [← hV] at c2
  rw [← hM, ← hV, ← hW, ← hAI]
  clear hin hMx hM hW hAI
  refine tcon_run ([(8, .hand)]) ([]) (c := body Tryz.f67) fits Tryz.func67 (by kernel_rfl) (by kernel_rfl) (by rfl) (by kernel_rfl) fun β g eff hd F heff hhd hg hF => ?_
  cbv
  refine callTR1 hg ck (dwA_same rfl) (fun lo E h => bare_plainE h.bare) (fun lo E q1 q2 q3 hE => ?_)
  clear q2 q3
  replace hE : CopyE 64 E M β.lo := ⟨hE.kk, hE.bare, hE.eq, hE.new.mono q1⟩
  clear q1
  cbv
  cases hTB : treeB ns
  case false =>
    rw [hTB] at cT
    refine call0 hg cT rfl rfl ?_
    cbv
    obtain ⟨h1, h2⟩ := hq1 (by unfold setO; rw [hTB]; rfl)
    rw [h1, h2] at hF
    refine finTS hF fun bl hbl => ⟨[.agg [.fv (hd1 (bl 3) E ++ fpE E) M], ai 1], .agg (.cons (ress_copy rfl hE) .nil) (.c (.imm _) .nil), ⟨_, rfl, blk_row hbl (r := 3) (ab := ⟨_, _, E⟩) rfl hE.new⟩, rfl, rfl⟩
  rw [hTB] at cT
  refine call0 hg cT rfl rfl ?_
  cbv
  cases hN : isN ns n
  case false =>
    rw [hN] at cn
    refine call0 hg cn rfl rfl ?_
    cbv
    obtain ⟨h1, h2⟩ := hq1 (by unfold setO; rw [hTB, hN]; rfl)
    rw [h1, h2] at hF
    refine finTS hF fun bl hbl => ⟨[.agg [.fv (hd1 (bl 3) E ++ fpE E) M], ai 1], .agg (.cons (ress_copy rfl hE) .nil) (.c (.imm _) .nil), ⟨_, rfl, blk_row hbl (r := 3) (ab := ⟨_, _, E⟩) rfl hE.new⟩, rfl, rfl⟩
  rw [hN] at cn
  refine call0 hg cn rfl rfl ?_
  cbv
  have hO : setO ns n = true := by unfold setO; rw [hTB, hN]; rfl
  obtain ⟨z0, z1, z2, z3, u, K, R, t, m, hMj, hBB, hW⟩ := hq3 hO
  replace hq2 := hq2 hO
  clear hq1 hq3
  rw [hBB] at hq2 hW
  have es : g .w .sub .i64 n 1 = n - 1 := by rw [goSub hg, wrap_small _ (by omega)]
  obtain ⟨b1, b2, he⟩ := hE.node hMj
  have hMj' := hMj
  obtain ⟨z, hz⟩ : ∃ z, z = n - 1 := ⟨_, rfl⟩
  rw [← hz] at es z0 z1 hW he
  obtain ⟨j, hj⟩ : ∃ j, j = z.toNat := ⟨_, rfl⟩
  rw [← hj] at z1 hW he
  have hgt : g .q .gtr (g .ln V) 0 = decide (lenI V > 0) := by rw [goGtr hg, goLn hg]
  have hgk : g .q .gtr (g .ln K) 0 = decide (lenI K > 0) := by rw [goGtr hg, goLn hg]
  obtain ⟨D, hD⟩ : ∃ D, D = decide (lenI V > 0) := ⟨_, rfl⟩
  obtain ⟨DK, hDK⟩ : ∃ D, D = decide (lenI K > 0) := ⟨_, rfl⟩
  rw [← hD] at hgt hq2 hW
  rw [← hDK] at hgk hq2 hW
  clear hBB hD hDK hz
  rw [hgt]
  cases D
  case false =>
    cbv
    obtain ⟨hA, hW⟩ := hW rfl
    rw [hA] at hF
    have hE1 := hE.set (y := nodeE u K R t false b1 b2) (v := nodeA u K R t false) he rfl rfl rfl rfl
    obtain ⟨E1, he1⟩ : ∃ E1, E1 = E.set j (nodeE u K R t false b1 b2) := ⟨_, rfl⟩
    rw [← he1] at hE1
    have he2 : E1[j]? = some (nodeE u K R t false b1 b2) := by rw [he1]; exact List.getElem?_set_self (by rw [hE.len]; exact z1)
    have hlen : j < E1.length := by rw [he1, List.length_set, hE.len]; exact z1
    have hlen0 : j < E.length := by rw [hE.len]; exact z1
    have key1 : ∀ y, y = nodeE u K R t false b1 b2 → g .st E j y = E1 := fun y h => by rw [h, goSt hg, he1]
    obtain ⟨F2, hF2⟩ : ∃ F2 : List Nat → List (List AC), ∀ b, F2 b = E1.set j (nodeE u K V t false b1 b) := ⟨_, fun _ => rfl⟩
    have hE2 : ∀ (l1 : Nat) (bn : List Nat), NewB l1 bn → β.lo ≤ l1 → (∀ b ∈ fpE E1, b < l1) → CopyE 64 (F2 bn) W β.lo := fun l1 bn h1 h2 h3 => by
      have := hE1.put (y := nodeE u K V t false b1 bn) (v := nodeA u K V t false) he2 rfl rfl rfl (b1 := b1) (bn := bn) (by rw [fpL_node]) (by rw [fpL_node]; exact List.sublist_append_left _ _) h1 h2 h3
      rw [List.set_set] at this
      rw [hF2, hW]; exact this
    clear he1 hW hA
    rw [es]
    refine goYt hg z0 hj hlen0 ?_
    cbv
    refine ⟨_, he, ?_⟩
    cbv
    rw [key1]
    rotate_left
    · first | rfl | (rw [hgt]; rfl)
    have key2 : ∀ b y, y = nodeE u K V t false b1 b → g .st E1 j y = F2 b := fun b y h => by rw [h, goSt hg, hF2]
    refine hand_lazy hg hhd fits [0, 1, 2, 3, 4] (.op 5 [] (.op 6 [7] (.op 8 [] .done .none) .none) .none) (by kernel_rfl) (by kernel_rfl) (S := Nat × List Nat) (fun s => β.lo ≤ s.1 ∧ (∀ b ∈ fpE E1, b < s.1) ∧ NewB s.1 s.2) (fun s => [(6, .t (.c (.ptr 0 0 0))), (8, .t (.c (.ptr 1 0 0)))]) (fun s => [.bx 43 1 [.imm (.slice none 0 0)], .bx 43 1 [.own 2], .rw ⟨106, 64, F2 s.2⟩]) (fun B hB => ?_) (fun ⟨l1, bn⟩ ⟨r1, r2, r3⟩ => ?_)
    · cbv
      try rw [es]
      skip
      repeat' (first | exact trivial | exact rfl | exact congrArg (fun x => AV.t (AT.c (AC.imm (Value.int .i64 x)))) es | refine And.intro ?_ ?_ | (refine callT0 hg c2 (dwA_same rfl) (fun l1 res p1 p2 p3 ⟨bn, hres, hn⟩ => ?_); subst hres; cbv; try rw [es]) | (refine goYt hg z0 hj hlen ?_; cbv; try rw [es]) | (refine ⟨_, he2, ?_⟩; cbv; rw [key2 bn]; rotate_left; rfl) | exact hB (l1, bn) ⟨p1, fun b hb => p2 b (fpH_row _ 3 rfl b hb), hn⟩ _ _ (Wk.weak (wkG [some 2, some 4, some 3] ⟨rfl, rfl, trivial⟩ ⟨⟨_, _, rfl, rfl, rfl, rfl, .inl ⟨rfl, rfl⟩⟩, ⟨_, _, rfl, rfl, rfl, rfl, .inr ⟨⟨rfl, trivial⟩, trivial⟩⟩, ⟨_, _, rfl, rfl, rfl, rfl, .inl ⟨rfl, bare_plainE (hE2 _ _ hn p1 (fun b hb => p2 b (fpH_row _ 3 rfl b hb))).bare⟩⟩, trivial⟩ (by decide) no_lt)))
    simp only at r1 r2 r3
    have hE3 := hE2 l1 bn r3 r1 r2
    cbv
    refine finTS hF fun bl hbl => ⟨[.agg [.fv (hd1 (bl 2) (F2 bn) ++ fpE (F2 bn)) W], ai 0], .agg (.cons (ress_copy (t := 106) (k := 64) rfl hE3) .nil) (.c (.imm _) .nil), ⟨_, rfl, blk_row hbl (r := 2) (ab := ⟨106, 64, F2 bn⟩) rfl hE3.new⟩, rfl, rfl⟩

  cbv
  cases hTO : taOk rs
  case false =>
    rw [hTO] at cB hq2
    refine call0 hg cB rfl rfl ?_
    cbv
    obtain ⟨h1, h2⟩ := hq2 rfl
    rw [h1, h2] at hF
    refine finTS hF fun bl hbl => ⟨[.agg [.fv (hd1 (bl 3) E ++ fpE E) M], ai 6], .agg (.cons (ress_copy rfl hE) .nil) (.c (.imm _) .nil), ⟨_, rfl, blk_row hbl (r := 3) (ab := ⟨_, _, E⟩) rfl hE.new⟩, rfl, rfl⟩
  rw [hTO] at cB hq2 hW
  refine call0 hg cB rfl rfl ?_
  cbv
  refine call0 hg (impl_node_a M n z3 z2 hMj) rfl rfl ?_
  cbv
  rw [hgk]
  cases DK
  case true =>
    cbv
    obtain ⟨h1, h2⟩ := hq2 rfl
    rw [h1, h2] at hF
    refine finTS hF fun bl hbl => ⟨[.agg [.fv (hd1 (bl 3) E ++ fpE E) M], ai 6], .agg (.cons (ress_copy rfl hE) .nil) (.c (.imm _) .nil), ⟨_, rfl, blk_row hbl (r := 3) (ab := ⟨_, _, E⟩) rfl hE.new⟩, rfl, rfl⟩
  cbv
  obtain ⟨hA, hW⟩ := hW rfl
  rw [hA] at hF
  have hE1 := hE.set (y := nodeE u K R t true b1 b2) (v := nodeA u K R t true) he rfl rfl rfl rfl
  obtain ⟨E1, he1⟩ : ∃ E1, E1 = E.set j (nodeE u K R t true b1 b2) := ⟨_, rfl⟩
  rw [← he1] at hE1
  have he2 : E1[j]? = some (nodeE u K R t true b1 b2) := by rw [he1]; exact List.getElem?_set_self (by rw [hE.len]; exact z1)
  have hlen : j < E1.length := by rw [he1, List.length_set, hE.len]; exact z1
  have hlen0 : j < E.length := by rw [hE.len]; exact z1
  have key1 : ∀ y, y = nodeE u K R t true b1 b2 → g .st E j y = E1 := fun y h => by rw [h, goSt hg, he1]
  obtain ⟨F2, hF2⟩ : ∃ F2 : List Nat → List (List AC), ∀ b, F2 b = E1.set j (nodeE u K V t true b1 b) := ⟨_, fun _ => rfl⟩
  have hE2 : ∀ (l1 : Nat) (bn : List Nat), NewB l1 bn → β.lo ≤ l1 → (∀ b ∈ fpE E1, b < l1) → CopyE 64 (F2 bn) W β.lo := fun l1 bn h1 h2 h3 => by
    have := hE1.put (y := nodeE u K V t true b1 bn) (v := nodeA u K V t true) he2 rfl rfl rfl (b1 := b1) (bn := bn) (by rw [fpL_node]) (by rw [fpL_node]; exact List.sublist_append_left _ _) h1 h2 h3
    rw [List.set_set] at this
    rw [hF2, hW]; exact this
  clear he1 hW hA
  rw [es]
  refine goYt hg z0 hj hlen0 ?_
  cbv
  refine ⟨_, he, ?_⟩
  cbv
  rw [key1]
  rotate_left
  · first | rfl | (rw [hgt]; rfl)
  have key2 : ∀ b y, y = nodeE u K V t true b1 b → g .st E1 j y = F2 b := fun b y h => by rw [h, goSt hg, hF2]
  refine hand_lazy hg hhd fits [0, 1, 2, 3, 4] (.op 5 [] (.op 6 [7] (.op 8 [] .done .none) .none) .none) (by kernel_rfl) (by kernel_rfl) (S := Nat × List Nat) (fun s => β.lo ≤ s.1 ∧ (∀ b ∈ fpE E1, b < s.1) ∧ NewB s.1 s.2) (fun s => [(6, .t (.c (.ptr 0 0 0))), (8, .t (.c (.ptr 1 0 0)))]) (fun s => [.bx 43 1 [.imm (.slice none 0 0)], .bx 43 1 [.own 2], .rw ⟨106, 64, F2 s.2⟩]) (fun B hB => ?_) (fun ⟨l1, bn⟩ ⟨r1, r2, r3⟩ => ?_)
  · cbv
    try rw [es]
    skip
    repeat' (first | exact trivial | exact rfl | exact congrArg (fun x => AV.t (AT.c (AC.imm (Value.int .i64 x)))) es | refine And.intro ?_ ?_ | (refine callT0 hg c2 (dwA_same rfl) (fun l1 res p1 p2 p3 ⟨bn, hres, hn⟩ => ?_); subst hres; cbv; try rw [es]) | (refine goYt hg z0 hj hlen ?_; cbv; try rw [es]) | (refine ⟨_, he2, ?_⟩; cbv; rw [key2 bn]; rotate_left; rfl) | exact hB (l1, bn) ⟨p1, fun b hb => p2 b (fpH_row _ 3 rfl b hb), hn⟩ _ _ (Wk.weak (wkG [some 2, some 4, some 3] ⟨rfl, rfl, trivial⟩ ⟨⟨_, _, rfl, rfl, rfl, rfl, .inl ⟨rfl, rfl⟩⟩, ⟨_, _, rfl, rfl, rfl, rfl, .inr ⟨⟨rfl, trivial⟩, trivial⟩⟩, ⟨_, _, rfl, rfl, rfl, rfl, .inl ⟨rfl, bare_plainE (hE2 _ _ hn p1 (fun b hb => p2 b (fpH_row _ 3 rfl b hb))).bare⟩⟩, trivial⟩ (by decide) no_lt)))
  simp only at r1 r2 r3
  have hE3 := hE2 l1 bn r3 r1 r2
  cbv
  refine finTS hF fun bl hbl => ⟨[.agg [.fv (hd1 (bl 2) (F2 bn) ++ fpE (F2 bn)) W], ai 0], .agg (.cons (ress_copy (t := 106) (k := 64) rfl hE3) .nil) (.c (.imm _) .nil), ⟨_, rfl, blk_row hbl (r := 2) (ab := ⟨106, 64, F2 bn⟩) rfl hE3.new⟩, rfl, rfl⟩
set_option maxHeartbeats 16000000 in
theorem spec_SetTable_t (ns : List NNode) (hl : ns.length ≤ 1048576) (hs : ∀ y ∈ ns, NNode.small y) (n : Int) (rs : List GRule) (hr : rs.length ≤ 1048576) : TCon Tryz.prog 65 [.agg [.view (vwA NNode.ac ns)], ai n, .agg [.view (vw GRule.c rs)]] fun lo res rows => (∃ b0, res = .tup [.agg [.fv b0 (vwA NNode.ac (tbN ns n rs))], ai (tbI ns n rs)] ∧ NewB lo b0) ∧ plainV res = true ∧ rows = [] := by
  have ck := spec_l10Copy_t ns hl hs
  have cT := spec_TreeOk_a ns hl hs
  have cB := spec_TableOk_a rs hr
  obtain ⟨M, hM⟩ : ∃ M, M = vwA NNode.ac ns := ⟨_, rfl⟩
  obtain ⟨V, hV⟩ : ∃ V, V = vw GRule.c rs := ⟨_, rfl⟩
  have hVl : V.length = rs.length := by rw [hV, vw_length]
  have iV : immE V = true := by rw [hV]; exact vw_imm _ _
  have kV : ∀ y ∈ V, y.length = 3 := by rw [hV]; exact vw_k (c := GRule.c) (k := 3) fun _ => rfl
  have dV : ∀ y ∈ V, y.all dat = true := by rw [hV]; exact vw_dat
  have hVx : lenI V = (rs.length : Int) := by rw [lenI_eq]; omega
  have hMx : lenI M = (ns.length : Int) := by rw [lenI_eq, hM, vwA_length]
  have cn := spec_l10Is_a M n
  have hin : isN ns n = rng n 1 (lenI M) := by rw [hMx]; rfl
  rw [← hin] at cn
  obtain ⟨W, hW⟩ : ∃ W, W = vwA NNode.ac (tbN ns n rs) := ⟨_, rfl⟩
  obtain ⟨AI, hAI⟩ : ∃ W, W = tbI ns n rs := ⟨_, rfl⟩
  have hq1 : setO ns n = false → W = M ∧ AI = 1 := fun h => ⟨by rw [hW, hM]; unfold tbN; rw [h]; rfl, by rw [hAI]; unfold tbI; rw [if_neg (by rw [h]; decide)]⟩
  have hq2 : setO ns n = true → tbB ns n rs = true → W = M ∧ AI = 6 := fun h h' => ⟨by rw [hW, hM]; unfold tbN; rw [h, h']; rfl, by rw [hAI]; unfold tbI; rw [if_pos h, if_pos h']⟩
  have hq3 : setO ns n = true → 0 ≤ n - 1 ∧ (n - 1).toNat < M.length ∧ n ≤ 1048576 ∧ 1 ≤ n ∧ ∃ u K R t m, M[(n - 1).toNat]? = some (nodeA u K R t m) ∧ (tbB ns n rs = (decide (lenI V > 0) && (!taOk rs || decide (lenI K > 0)))) ∧ (tbB ns n rs = false → AI = 0 ∧ W = M.set (n - 1).toNat (nodeA u K V t (decide (lenI V > 0)))) := fun h => by
    have hi : isN ns n = true := by unfold setO at h; simp only [Bool.and_eq_true] at h; exact h.2
    obtain ⟨i1, i2, x, hx⟩ := isN_at hi
    have e1 : decide (lenI V > 0) = decide (0 < rs.length) := decide_eq_decide.2 (by omega)
    refine ⟨by omega, by rw [hM, vwA_length]; exact (List.getElem?_eq_some_iff.1 hx).1, by omega, by omega, x.up, vw intC x.kids, vw GRule.c x.table.rules, x.style, x.measured, by rw [hM]; exact vwA_at hx, ?_, fun h' => ⟨by rw [hAI]; unfold tbI; rw [if_pos h, if_neg (by rw [h']; decide)], ?_⟩⟩
    · unfold tbB
      rw [hx, e1, show decide (lenI (vw intC x.kids) > 0) = decide (0 < x.kids.length) from decide_eq_decide.2 (by rw [lenI_eq, vw_length]; omega)]
    · rw [hW, hM]; unfold tbN; rw [h, h', hx, e1, hV]; exact vwA_set ns _ _
  rw [← hM] at ck cT
  rw [← hV] at cB
  rw [← hM, ← hV, ← hW, ← hAI]
  clear hin hMx hM hW hAI
  refine tcon_run ([(7, .hand)]) ([]) (c := body Tryz.f65) fits Tryz.func65 (by kernel_rfl) (by kernel_rfl) (by rfl) (by kernel_rfl) fun β g eff hd F heff hhd hg hF => ?_
  cbv
  refine callTR1 hg ck (dwA_same rfl) (fun lo E h => bare_plainE h.bare) (fun lo E q1 q2 q3 hE => ?_)
  clear q2 q3
  replace hE : CopyE 64 E M β.lo := ⟨hE.kk, hE.bare, hE.eq, hE.new.mono q1⟩
  clear q1
  cbv
  cases hTB : treeB ns
  case false =>
    rw [hTB] at cT
    refine call0 hg cT rfl rfl ?_
    cbv
    obtain ⟨h1, h2⟩ := hq1 (by unfold setO; rw [hTB]; rfl)
    rw [h1, h2] at hF
    refine finTS hF fun bl hbl => ⟨[.agg [.fv (hd1 (bl 3) E ++ fpE E) M], ai 1], .agg (.cons (ress_copy rfl hE) .nil) (.c (.imm _) .nil), ⟨_, rfl, blk_row hbl (r := 3) (ab := ⟨_, _, E⟩) rfl hE.new⟩, rfl, rfl⟩
  rw [hTB] at cT
  refine call0 hg cT rfl rfl ?_
  cbv
  cases hN : isN ns n
  case false =>
    rw [hN] at cn
    refine call0 hg cn rfl rfl ?_
    cbv
    obtain ⟨h1, h2⟩ := hq1 (by unfold setO; rw [hTB, hN]; rfl)
    rw [h1, h2] at hF
    refine finTS hF fun bl hbl => ⟨[.agg [.fv (hd1 (bl 3) E ++ fpE E) M], ai 1], .agg (.cons (ress_copy rfl hE) .nil) (.c (.imm _) .nil), ⟨_, rfl, blk_row hbl (r := 3) (ab := ⟨_, _, E⟩) rfl hE.new⟩, rfl, rfl⟩
  rw [hN] at cn
  refine call0 hg cn rfl rfl ?_
  cbv
  have hO : setO ns n = true := by unfold setO; rw [hTB, hN]; rfl
  obtain ⟨z0, z1, z2, z3, u, K, R, t, m, hMj, hBB, hW⟩ := hq3 hO
  replace hq2 := hq2 hO
  clear hq1 hq3
  rw [hBB] at hq2 hW
  have es : g .w .sub .i64 n 1 = n - 1 := by rw [goSub hg, wrap_small _ (by omega)]
  obtain ⟨b1, b2, he⟩ := hE.node hMj
  have hMj' := hMj
  obtain ⟨z, hz⟩ : ∃ z, z = n - 1 := ⟨_, rfl⟩
  rw [← hz] at es z0 z1 hW he
  obtain ⟨j, hj⟩ : ∃ j, j = z.toNat := ⟨_, rfl⟩
  rw [← hj] at z1 hW he
  have hgt : g .q .gtr (g .ln V) 0 = decide (lenI V > 0) := by rw [goGtr hg, goLn hg]
  have hgk : g .q .gtr (g .ln K) 0 = decide (lenI K > 0) := by rw [goGtr hg, goLn hg]
  obtain ⟨D, hD⟩ : ∃ D, D = decide (lenI V > 0) := ⟨_, rfl⟩
  obtain ⟨DK, hDK⟩ : ∃ D, D = decide (lenI K > 0) := ⟨_, rfl⟩
  rw [← hD] at hgt hq2 hW
  rw [← hDK] at hgk hq2 hW
  clear hBB hD hDK hz
  rw [hgt]
  cases D
  case false =>
    cbv
    obtain ⟨hA, hW⟩ := hW rfl
    rw [hA] at hF
    have hE1 := hE.set (y := nodeE u K R t false b1 b2) (v := nodeA u K R t false) he rfl rfl rfl rfl
    obtain ⟨E1, he1⟩ : ∃ E1, E1 = E.set j (nodeE u K R t false b1 b2) := ⟨_, rfl⟩
    rw [← he1] at hE1
    have he2 : E1[j]? = some (nodeE u K R t false b1 b2) := by rw [he1]; exact List.getElem?_set_self (by rw [hE.len]; exact z1)
    have hlen : j < E1.length := by rw [he1, List.length_set, hE.len]; exact z1
    have hlen0 : j < E.length := by rw [hE.len]; exact z1
    have key1 : ∀ y, y = nodeE u K R t false b1 b2 → g .st E j y = E1 := fun y h => by rw [h, goSt hg, he1]
    obtain ⟨F2, hF2⟩ : ∃ F2 : List Nat → List (List AC), ∀ b, F2 b = E1.set j (nodeE u K V t false b1 b) := ⟨_, fun _ => rfl⟩
    have hE2 : ∀ (l1 : Nat) (bn : List Nat), NewB l1 bn → β.lo ≤ l1 → (∀ b ∈ fpE E1, b < l1) → CopyE 64 (F2 bn) W β.lo := fun l1 bn h1 h2 h3 => by
      have := hE1.put (y := nodeE u K V t false b1 bn) (v := nodeA u K V t false) he2 rfl rfl rfl (b1 := b1) (bn := bn) (by rw [fpL_node]) (by rw [fpL_node]; exact List.sublist_append_left _ _) h1 h2 h3
      rw [List.set_set] at this
      rw [hF2, hW]; exact this
    clear he1 hW hA
    rw [es]
    refine goYt hg z0 hj hlen0 ?_
    cbv
    refine ⟨_, he, ?_⟩
    cbv
    rw [key1]
    rotate_left
    · first | rfl | (rw [hgt]; rfl)
    obtain ⟨F3, hF3⟩ : ∃ F3, F3 = E1.set j (nodeO u K t false b1 6) := ⟨_, rfl⟩
    have hz1 : ∀ b, F2 b = F3.set j (nodeE u K V t false b1 b) := fun b => by rw [hF2, hF3, List.set_set]
    have hz2 : F3[j]? = some (nodeO u K t false b1 6) := by rw [hF3]; exact List.getElem?_set_self hlen
    refine hand_nm hhd fits [(7, .hand)] [] 6 V (imm_bareE iV) rfl (by kernel_rfl) (fun g2 eff2 hd2 B2 he3 hh2 hg2 hB2 => ?_)
    have es2 : g2 .w .sub .i64 n 1 = z := by rw [← es, hg2, hg]; rfl
    have key2 : ∀ y, y = nodeO u K t false b1 6 → g2 .st E1 j y = F3 := fun y h => by rw [h, goSt hg2, hF3]
    clear hF3
    cbv
    refine hand_lazy hg2 hh2 fits [0, 1, 2, 3, 5, 6] (.op 4 [] (.op 7 [8] (.op 9 [10] (.op 11 [] .done .none) .none) .none) .none) (by kernel_rfl) (by kernel_rfl) (S := Unit) (fun _ => True) (fun _ => [(6, .t (.c (.ptr 2 0 0))), (8, .t (.c (.ptr 4 0 0)))]) (fun _ => [.bx 43 1 [.view M], .bx 75 1 [.view V], .bx 43 1 [.imm (.slice none 0 0)], .rw ⟨106, 64, F3⟩, .bx 43 1 [.own 3], .gn, .rw ⟨146, 3, V⟩]) (fun B hB => ?_) (fun _ _ => ?_)
    · cbv
      try rw [es2]
      repeat' (first | exact trivial | exact rfl | exact congrArg (fun x => AV.t (AT.c (AC.imm (Value.int .i64 x)))) es2 | refine And.intro ?_ ?_ | (refine goNV0 hg2 kV (by decide) (by rw [hVl]; exact hr) ?_; cbv; rw [goAp hg2, List.nil_append]; try rw [es2]) | (refine goYt hg2 z0 hj hlen ?_; cbv; try rw [es2]) | (refine ⟨_, he2, ?_⟩; cbv; rw [key2]; rotate_left; rfl) | exact hB () trivial _ _ (weak_keep ⟨rfl, rfl, trivial⟩))
    refine hB2 _ _ _ _ rfl rfl (fun l1 b p1 hn1 => ?_)
    rw [fv_imm iV]
    obtain ⟨bn, hbn⟩ : ∃ c, c = hd1 b V := ⟨_, rfl⟩
    rw [← hbn] at hn1 ⊢
    clear hbn
    refine ⟨[(6, .t (.c (.ptr 2 0 0))), (8, .t (.c (.ptr 4 0 0)))], [.bx 43 1 [.view M], .bx 75 1 [.view V], .bx 43 1 [.imm (.slice none 0 0)], .rw ⟨106, 64, F2 bn⟩, .bx 43 1 [.own 3], .gn, .gn], ⟨.inl rfl, .inl rfl, trivial⟩, ⟨⟨rfl, rfl, .inl rfl, trivial⟩, ⟨rfl, rfl, .inl rfl, trivial⟩, ⟨rfl, rfl, .inl rfl, trivial⟩, .inr ⟨_, _, _, rfl, rfl, hz1 bn, hz2, ⟨.inl rfl, .inl rfl, .inl rfl, .inl rfl, .inl rfl, .inl rfl, .inl rfl, .inl rfl, .inl rfl, .inl rfl, .inl rfl, .inl rfl, .inl rfl, .inl rfl, .inl rfl, .inl rfl, .inl rfl, .inl rfl, .inl rfl, .inl rfl, .inl rfl, .inl rfl, .inl rfl, .inl rfl, .inl rfl, .inl rfl, .inl rfl, .inl rfl, .inl rfl, .inl rfl, .inl rfl, .inl rfl, .inl rfl, .inl rfl, .inl rfl, .inl rfl, .inl rfl, .inl rfl, .inl rfl, .inl rfl, .inl rfl, .inl rfl, .inl rfl, .inl rfl, .inl rfl, .inl rfl, .inl rfl, .inl rfl, .inl rfl, .inl rfl, .inl rfl, .inl rfl, .inl rfl, .inl rfl, .inl rfl, .inl rfl, .inl rfl, .inl rfl, .inl rfl, .inl rfl, .inl rfl, .inl rfl, .inl rfl, .inr (.inl ⟨rfl, rfl⟩), trivial⟩⟩, ⟨rfl, rfl, .inl rfl, trivial⟩, trivial, rfl, trivial⟩, ?_⟩
    have hE3 := hE2 l1 bn ⟨hn1.nd, hn1.ge⟩ p1 (fun b hb => hn1.old b (fpH_row _ 3 rfl b hb))
    cbv
    refine finTS hF fun bl hbl => ⟨[.agg [.fv (hd1 (bl 3) (F2 bn) ++ fpE (F2 bn)) W], ai 0], .agg (.cons (ress_copy (t := 106) (k := 64) rfl hE3) .nil) (.c (.imm _) .nil), ⟨_, rfl, blk_row hbl (r := 3) (ab := ⟨106, 64, F2 bn⟩) rfl hE3.new⟩, rfl, rfl⟩

  cbv
  cases hTO : taOk rs
  case false =>
    rw [hTO] at cB hq2
    refine call0 hg cB rfl rfl ?_
    cbv
    obtain ⟨h1, h2⟩ := hq2 rfl
    rw [h1, h2] at hF
    refine finTS hF fun bl hbl => ⟨[.agg [.fv (hd1 (bl 3) E ++ fpE E) M], ai 6], .agg (.cons (ress_copy rfl hE) .nil) (.c (.imm _) .nil), ⟨_, rfl, blk_row hbl (r := 3) (ab := ⟨_, _, E⟩) rfl hE.new⟩, rfl, rfl⟩
  rw [hTO] at cB hq2 hW
  refine call0 hg cB rfl rfl ?_
  cbv
  refine call0 hg (spec_l10Node_a M n z3 z2 hMj) rfl rfl ?_
  cbv
  rw [hgk]
  cases DK
  case true =>
    cbv
    obtain ⟨h1, h2⟩ := hq2 rfl
    rw [h1, h2] at hF
    refine finTS hF fun bl hbl => ⟨[.agg [.fv (hd1 (bl 3) E ++ fpE E) M], ai 6], .agg (.cons (ress_copy rfl hE) .nil) (.c (.imm _) .nil), ⟨_, rfl, blk_row hbl (r := 3) (ab := ⟨_, _, E⟩) rfl hE.new⟩, rfl, rfl⟩
  cbv
  obtain ⟨hA, hW⟩ := hW rfl
  rw [hA] at hF
  have hE1 := hE.set (y := nodeE u K R t true b1 b2) (v := nodeA u K R t true) he rfl rfl rfl rfl
  obtain ⟨E1, he1⟩ : ∃ E1, E1 = E.set j (nodeE u K R t true b1 b2) := ⟨_, rfl⟩
  rw [← he1] at hE1
  have he2 : E1[j]? = some (nodeE u K R t true b1 b2) := by rw [he1]; exact List.getElem?_set_self (by rw [hE.len]; exact z1)
  have hlen : j < E1.length := by rw [he1, List.length_set, hE.len]; exact z1
  have hlen0 : j < E.length := by rw [hE.len]; exact z1
  have key1 : ∀ y, y = nodeE u K R t true b1 b2 → g .st E j y = E1 := fun y h => by rw [h, goSt hg, he1]
  obtain ⟨F2, hF2⟩ : ∃ F2 : List Nat → List (List AC), ∀ b, F2 b = E1.set j (nodeE u K V t true b1 b) := ⟨_, fun _ => rfl⟩
  have hE2 : ∀ (l1 : Nat) (bn : List Nat), NewB l1 bn → β.lo ≤ l1 → (∀ b ∈ fpE E1, b < l1) → CopyE 64 (F2 bn) W β.lo := fun l1 bn h1 h2 h3 => by
    have := hE1.put (y := nodeE u K V t true b1 bn) (v := nodeA u K V t true) he2 rfl rfl rfl (b1 := b1) (bn := bn) (by rw [fpL_node]) (by rw [fpL_node]; exact List.sublist_append_left _ _) h1 h2 h3
    rw [List.set_set] at this
    rw [hF2, hW]; exact this
  clear he1 hW hA
  rw [es]
  refine goYt hg z0 hj hlen0 ?_
  cbv
  refine ⟨_, he, ?_⟩
  cbv
  rw [key1]
  rotate_left
  · first | rfl | (rw [hgt]; rfl)
  obtain ⟨F3, hF3⟩ : ∃ F3, F3 = E1.set j (nodeO u K t true b1 6) := ⟨_, rfl⟩
  have hz1 : ∀ b, F2 b = F3.set j (nodeE u K V t true b1 b) := fun b => by rw [hF2, hF3, List.set_set]
  have hz2 : F3[j]? = some (nodeO u K t true b1 6) := by rw [hF3]; exact List.getElem?_set_self hlen
  refine hand_nm hhd fits [(7, .hand)] [] 6 V (imm_bareE iV) rfl (by kernel_rfl) (fun g2 eff2 hd2 B2 he3 hh2 hg2 hB2 => ?_)
  have es2 : g2 .w .sub .i64 n 1 = z := by rw [← es, hg2, hg]; rfl
  have key2 : ∀ y, y = nodeO u K t true b1 6 → g2 .st E1 j y = F3 := fun y h => by rw [h, goSt hg2, hF3]
  clear hF3
  cbv
  refine hand_lazy hg2 hh2 fits [0, 1, 2, 3, 5, 6] (.op 4 [] (.op 7 [8] (.op 9 [10] (.op 11 [] .done .none) .none) .none) .none) (by kernel_rfl) (by kernel_rfl) (S := Unit) (fun _ => True) (fun _ => [(6, .t (.c (.ptr 2 0 0))), (8, .t (.c (.ptr 4 0 0)))]) (fun _ => [.bx 43 1 [.view M], .bx 75 1 [.view V], .bx 43 1 [.imm (.slice none 0 0)], .rw ⟨106, 64, F3⟩, .bx 43 1 [.own 3], .gn, .rw ⟨146, 3, V⟩]) (fun B hB => ?_) (fun _ _ => ?_)
  · cbv
    try rw [es2]
    repeat' (first | exact trivial | exact rfl | exact congrArg (fun x => AV.t (AT.c (AC.imm (Value.int .i64 x)))) es2 | refine And.intro ?_ ?_ | (refine goNV0 hg2 kV (by decide) (by rw [hVl]; exact hr) ?_; cbv; rw [goAp hg2, List.nil_append]; try rw [es2]) | (refine goYt hg2 z0 hj hlen ?_; cbv; try rw [es2]) | (refine ⟨_, he2, ?_⟩; cbv; rw [key2]; rotate_left; rfl) | exact hB () trivial _ _ (weak_keep ⟨rfl, rfl, trivial⟩))
  refine hB2 _ _ _ _ rfl rfl (fun l1 b p1 hn1 => ?_)
  rw [fv_imm iV]
  obtain ⟨bn, hbn⟩ : ∃ c, c = hd1 b V := ⟨_, rfl⟩
  rw [← hbn] at hn1 ⊢
  clear hbn
  refine ⟨[(6, .t (.c (.ptr 2 0 0))), (8, .t (.c (.ptr 4 0 0)))], [.bx 43 1 [.view M], .bx 75 1 [.view V], .bx 43 1 [.imm (.slice none 0 0)], .rw ⟨106, 64, F2 bn⟩, .bx 43 1 [.own 3], .gn, .gn], ⟨.inl rfl, .inl rfl, trivial⟩, ⟨⟨rfl, rfl, .inl rfl, trivial⟩, ⟨rfl, rfl, .inl rfl, trivial⟩, ⟨rfl, rfl, .inl rfl, trivial⟩, .inr ⟨_, _, _, rfl, rfl, hz1 bn, hz2, ⟨.inl rfl, .inl rfl, .inl rfl, .inl rfl, .inl rfl, .inl rfl, .inl rfl, .inl rfl, .inl rfl, .inl rfl, .inl rfl, .inl rfl, .inl rfl, .inl rfl, .inl rfl, .inl rfl, .inl rfl, .inl rfl, .inl rfl, .inl rfl, .inl rfl, .inl rfl, .inl rfl, .inl rfl, .inl rfl, .inl rfl, .inl rfl, .inl rfl, .inl rfl, .inl rfl, .inl rfl, .inl rfl, .inl rfl, .inl rfl, .inl rfl, .inl rfl, .inl rfl, .inl rfl, .inl rfl, .inl rfl, .inl rfl, .inl rfl, .inl rfl, .inl rfl, .inl rfl, .inl rfl, .inl rfl, .inl rfl, .inl rfl, .inl rfl, .inl rfl, .inl rfl, .inl rfl, .inl rfl, .inl rfl, .inl rfl, .inl rfl, .inl rfl, .inl rfl, .inl rfl, .inl rfl, .inl rfl, .inl rfl, .inr (.inl ⟨rfl, rfl⟩), trivial⟩⟩, ⟨rfl, rfl, .inl rfl, trivial⟩, trivial, rfl, trivial⟩, ?_⟩
  have hE3 := hE2 l1 bn ⟨hn1.nd, hn1.ge⟩ p1 (fun b hb => hn1.old b (fpH_row _ 3 rfl b hb))
  cbv
  refine finTS hF fun bl hbl => ⟨[.agg [.fv (hd1 (bl 3) (F2 bn) ++ fpE (F2 bn)) W], ai 0], .agg (.cons (ress_copy (t := 106) (k := 64) rfl hE3) .nil) (.c (.imm _) .nil), ⟨_, rfl, blk_row hbl (r := 3) (ab := ⟨106, 64, F2 bn⟩) rfl hE3.new⟩, rfl, rfl⟩
end Go.Proofs.YtenbloaopcfdlaaGreat
