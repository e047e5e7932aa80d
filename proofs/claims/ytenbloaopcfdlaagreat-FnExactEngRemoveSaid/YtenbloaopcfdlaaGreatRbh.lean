/- A child is taken out: both programs. Engines in which a child is taken out. -/
import Derived.Test.YtenbloaopcfdlaaGreatRbg
namespace Go.Proofs.YtenbloaopcfdlaaGreat
open Go.ChangeShapes Go.WideShapes Go.ChangeAt Go.RowKit Am
set_option linter.unusedVariables false
set_option linter.unusedSimpArgs false
set_option maxRecDepth 100000
def rmL (ks : List Int) (kid z : Int) : List (List AC) := vw intC ((ks.take z.toNat).filter (rmK kid))
structure KF (ks : List Int) (kid : Int) : Prop where
  start : rmL ks kid 0 = []
  done : ∀ z : Int, lenI (vw intC ks) ≤ z → rmL ks kid z = vw intC (ks.filter (rmK kid))
  len : ∀ z : Int, (rmL ks kid z).length ≤ 1048576
  add : ∀ z k : Int, 0 ≤ z → ks[z.toNat]? = some k → k ≠ kid → rmL ks kid (z + 1) = rmL ks kid z ++ [[.imm (.int .i64 k)]]
  skip : ∀ z k : Int, 0 ≤ z → ks[z.toNat]? = some k → k = kid → rmL ks kid (z + 1) = rmL ks kid z
  plain : ∀ z : Int, plainE (rmL ks kid z) = true
  at_ : ∀ z : Int, 0 ≤ z → z < lenI (vw intC ks) → ∃ k, ks[z.toNat]? = some k ∧ (vw intC ks)[z.toNat]? = some [.imm (.int .i64 k)]
  lenK : lenI (vw intC ks) ≤ 1048576
theorem kf_of (ks : List Int) (kid : Int) (h : ks.length ≤ 1048576) : KF ks kid := by
  have hl : lenI (vw intC ks) = (ks.length : Int) := by rw [lenI_eq, vw_length]
  have hstep : ∀ (z : Int) (k : Int), 0 ≤ z → ks[z.toNat]? = some k → rmL ks kid (z + 1) = rmL ks kid z ++ (if rmK kid k = true then [[.imm (.int .i64 k)]] else []) := fun z k h0 hz => by
    unfold rmL
    rw [take_filter h0 hz, vw_app]
    split <;> rfl
  refine ⟨rfl, fun z hz => ?_, fun z => ?_, fun z k h0 hk hne => ?_, fun z k h0 hk he => ?_, fun z => vw_plain _ _, fun z h0 h1 => ?_, by omega⟩
  · have h1 : ks.length ≤ z.toNat := by omega
    unfold rmL
    rw [List.take_of_length_le h1]
  · unfold rmL
    rw [vw_length]
    have h1 := List.length_filter_le (rmK kid) (ks.take z.toNat)
    have h2 : (ks.take z.toNat).length ≤ ks.length := List.length_take_le' _ _
    omega
  · rw [hstep z k h0 hk, if_pos (by simp [rmK, hne])]
  · rw [hstep z k h0 hk, if_neg (by simp [rmK, he]), List.append_nil]
  · obtain ⟨k, hk⟩ := at_z (xs := ks) h0 (by omega)
    exact ⟨k, hk, vw_at hk⟩
set_option maxHeartbeats 16000000 in
theorem impl_RemoveKid_t (ns : List NNode) (hl : ns.length ≤ 1048576) (hs : ∀ y ∈ ns, NNode.small y) (n kid : Int) : TCon Tryz.prog 73 [.agg [.view (vwA NNode.ac ns)], ai n, ai kid] fun lo res rows => (∃ b0, res = .tup [.agg [.fv b0 (vwA NNode.ac (rmN ns n kid))], ai (rmI ns n kid)] ∧ NewB lo b0) ∧ plainV res = true ∧ rows = [] := by
  have ck := impl_copyTree_t ns hl hs
  have cT := impl_TreeOk_a ns hl hs
  obtain ⟨M, hM⟩ : ∃ M, M = vwA NNode.ac ns := ⟨_, rfl⟩
  have hMx : lenI M = (ns.length : Int) := by rw [lenI_eq, hM, vwA_length]
  have cn := impl_isNode_a M n
  have cn2 := impl_isNode_a M kid
  have hin : isN ns n = rng n 1 (lenI M) := by rw [hMx]; rfl
  have hin2 : isN ns kid = rng kid 1 (lenI M) := by rw [hMx]; rfl
  rw [← hin] at cn
  rw [← hin2] at cn2
  obtain ⟨W, hW⟩ : ∃ W, W = vwA NNode.ac (rmN ns n kid) := ⟨_, rfl⟩
  obtain ⟨AI, hAI⟩ : ∃ W, W = rmI ns n kid := ⟨_, rfl⟩
  have hq1 : rmO ns n kid = false → W = M ∧ AI = 1 := fun h => ⟨by rw [hW, hM]; unfold rmN; rw [h]; rfl, by rw [hAI]; unfold rmI; rw [if_neg (by rw [h]; decide)]⟩
  have hq3 : rmO ns n kid = true → 0 ≤ n - 1 ∧ (n - 1).toNat < M.length ∧ n ≤ 1048576 ∧ 1 ≤ n ∧ 0 ≤ kid - 1 ∧ (kid - 1).toNat < M.length ∧ kid ≤ 1048576 ∧ 1 ≤ kid ∧ ∃ ks u R t m u2 K2 R2 t2 m2, ks.length ≤ 1048576 ∧ KF ks kid ∧ M[(n - 1).toNat]? = some (nodeA u (vw intC ks) R t m) ∧ M[(kid - 1).toNat]? = some (nodeA u2 K2 R2 t2 m2) ∧ (u2 = n ↔ hasI ks kid = true) ∧ (hasI ks kid = false → W = M ∧ AI = 3) ∧
      (hasI ks kid = true → (n - 1).toNat ≠ (kid - 1).toNat ∧ AI = 0 ∧ W = (M.set (n - 1).toNat (nodeA u (vw intC (ks.filter (rmK kid))) R t m)).set (kid - 1).toNat (nodeA 0 K2 R2 t2 m2)) := fun h => by
    have h' := h
    unfold rmO at h'
    simp only [Bool.and_eq_true] at h'
    obtain ⟨ht, hi, hi2⟩ := h'
    obtain ⟨i1, i2, x, hx⟩ := isN_at hi
    obtain ⟨k1, k2, y, hy⟩ := isN_at hi2
    have hk : kidsN ns n = x.kids := by unfold kidsN; rw [hx]
    have hkl : ∀ x : NNode, ns[(n - 1).toNat]? = some x → x.kids.length ≤ 1048576 := fun x hx => by
      have := hs x (List.mem_of_getElem? hx)
      obtain ⟨a0, a1, ⟨a2, a3, a4, a5, a6, a7, a8, a9, a10, a11, a12, ⟨a13, a14⟩, ⟨a15, a16⟩, ⟨a17, a18⟩, ⟨a19, a20⟩, ⟨a21, a22⟩, ⟨a23, a24⟩, ⟨a25, a26⟩, a27, ⟨⟨a28, a29⟩, ⟨a30, a31⟩, ⟨a32, a33⟩, ⟨a34, a35⟩, ⟨a36, a37⟩, ⟨a38, a39⟩⟩, ⟨⟨a40, a41⟩, ⟨a42, a43⟩, ⟨a44, a45⟩, ⟨a46, a47⟩, ⟨a48, a49⟩, ⟨a50, a51⟩⟩, ⟨a52, a53, a54, a55⟩, ⟨a56, a57, a58, a59⟩, a60, a61⟩, a62, ⟨a63⟩⟩ := x
      exact this.1
    refine ⟨by omega, by rw [hM, vwA_length]; exact (List.getElem?_eq_some_iff.1 hx).1, by omega, by omega, by omega, by rw [hM, vwA_length]; exact (List.getElem?_eq_some_iff.1 hy).1, by omega, by omega, x.kids, x.up, vw GRule.c x.table.rules, x.style, x.measured, y.up, vw intC y.kids, vw GRule.c y.table.rules, y.style, y.measured, hkl x hx, kf_of _ _ (hkl x hx), by rw [hM]; exact vwA_at hx, by rw [hM]; exact vwA_at hy, up_has ht i1 hx k1 hy, fun h2 => ⟨by rw [hW, hM]; unfold rmN; rw [h, hk, h2]; rfl, by rw [hAI]; unfold rmI; rw [if_pos h, hk, if_neg (by rw [h2]; decide)]⟩, fun h2 => ⟨fun he => ?_, by rw [hAI]; unfold rmI; rw [if_pos h, hk, if_pos h2], ?_⟩⟩
    · have hkn : n = kid := by omega
      subst hkn
      rw [hx] at hy
      cases hy
      exact up_ne ht hi i1 hx ((up_has ht i1 hx i1 hx).2 h2)
    · rw [hW, hM]; unfold rmN; rw [h, hk, h2, hx, hy]
      show vwA NNode.ac ((ns.set _ _).set _ _) = _
      rw [vwA_set, vwA_set]; rfl
  rw [← hM] at ck cT
  rw [← hM, ← hW, ← hAI]
  clear hin hin2 hMx hM hW hAI
  refine tcon_run ([]) ([]) (c := body Tryz.f73) fits Tryz.func73 (by kernel_rfl) (by kernel_rfl) (by rfl) (by kernel_rfl) fun β g eff hd F heff hhd hg hF => ?_
  cbv
  refine callTR1 hg ck (dwA_same rfl) (fun lo E h => bare_plainE h.bare) (fun lo E q1 q2 q3 hE => ?_)
  clear q2 q3
  replace hE : CopyE 64 E M β.lo := ⟨hE.kk, hE.bare, hE.eq, hE.new.mono q1⟩
  clear q1
  cbv
  cases hTB : treeB ns
  case false =>
    rw [hTB] at cT
    refine call0 hg cT rfl rfl ?_
    cbv
    obtain ⟨h1, h2⟩ := hq1 (by unfold rmO; rw [hTB]; rfl)
    rw [h1, h2] at hF
    refine finTS hF fun bl hbl => ⟨[.agg [.fv (hd1 (bl 2) E ++ fpE E) M], ai 1], .agg (.cons (ress_copy rfl hE) .nil) (.c (.imm _) .nil), ⟨_, rfl, blk_row hbl (r := 2) (ab := ⟨_, _, E⟩) rfl hE.new⟩, rfl, rfl⟩
  rw [hTB] at cT
  refine call0 hg cT rfl rfl ?_
  cbv
  cases hN : isN ns n
  case false =>
    rw [hN] at cn
    refine call0 hg cn rfl rfl ?_
    cbv
    obtain ⟨h1, h2⟩ := hq1 (by unfold rmO; rw [hTB, hN]; rfl)
    rw [h1, h2] at hF
    refine finTS hF fun bl hbl => ⟨[.agg [.fv (hd1 (bl 2) E ++ fpE E) M], ai 1], .agg (.cons (ress_copy rfl hE) .nil) (.c (.imm _) .nil), ⟨_, rfl, blk_row hbl (r := 2) (ab := ⟨_, _, E⟩) rfl hE.new⟩, rfl, rfl⟩
  rw [hN] at cn
  refine call0 hg cn rfl rfl ?_
  cbv
  cases hN2 : isN ns kid
  case false =>
    rw [hN2] at cn2
    refine call0 hg cn2 rfl rfl ?_
    cbv
    obtain ⟨h1, h2⟩ := hq1 (by unfold rmO; rw [hTB, hN, hN2]; rfl)
    rw [h1, h2] at hF
    refine finTS hF fun bl hbl => ⟨[.agg [.fv (hd1 (bl 2) E ++ fpE E) M], ai 1], .agg (.cons (ress_copy rfl hE) .nil) (.c (.imm _) .nil), ⟨_, rfl, blk_row hbl (r := 2) (ab := ⟨_, _, E⟩) rfl hE.new⟩, rfl, rfl⟩
  rw [hN2] at cn2
  refine call0 hg cn2 rfl rfl ?_
  cbv
  obtain ⟨z0, z1, z2, z3, y0, y1, y2, y3, ks, u, R, t, m, u2, K2, R2, t2, m2, hkl, hKF, hMj, hMk, hup, hno, hyes⟩ := hq3 (by unfold rmO; rw [hTB, hN, hN2]; rfl)
  clear hq1 hq3
  obtain ⟨b1, b2, he⟩ := hE.node hMj
  obtain ⟨c1, c2, he2⟩ := hE.node hMk
  have es : g .w .sub .i64 n 1 = n - 1 := by rw [goSub hg, wrap_small _ (by omega)]
  have es2 : g .w .sub .i64 kid 1 = kid - 1 := by rw [goSub hg, wrap_small _ (by omega)]
  have hMj' := hMj
  have hMk' := hMk
  obtain ⟨z, hz⟩ : ∃ z, z = n - 1 := ⟨_, rfl⟩
  rw [← hz] at es z0 z1 hyes he hMj'
  obtain ⟨j, hj⟩ : ∃ j, j = z.toNat := ⟨_, rfl⟩
  rw [← hj] at z1 hyes he hMj'
  obtain ⟨y, hy⟩ : ∃ y, y = kid - 1 := ⟨_, rfl⟩
  rw [← hy] at es2 y0 y1 hyes he2
  obtain ⟨j2, hj2⟩ : ∃ j, j = y.toNat := ⟨_, rfl⟩
  rw [← hj2] at y1 hyes he2
  obtain ⟨K, hK⟩ : ∃ K, K = vw intC ks := ⟨_, rfl⟩
  have hKl : K.length = ks.length := by rw [hK, vw_length]
  have iK : immE K = true := by rw [hK]; exact vw_imm _ _
  have kK : ∀ y ∈ K, y.length = 1 := by rw [hK]; exact vw_k (c := intC) (k := 1) fun _ => rfl
  have dK : ∀ y ∈ K, y.all dat = true := by rw [hK]; exact vw_dat
  obtain ⟨f0, f1, f2, f3, f4, f5, f6, f7⟩ := hKF
  rw [← hK] at f1 f6 f7
  rw [← hK] at hMj
  have cH := impl_hasInt_a ks kid hkl
  rw [← hK] at cH
  have c5 := impl_node_a M n z3 z2 hMj
  refine call0 hg c5 rfl rfl ?_
  cbv
  cases hH : hasI ks kid
  case false =>
    rw [hH] at cH
    refine call0 hg cH rfl rfl ?_
    cbv
    obtain ⟨h1, h2⟩ := hno hH
    rw [h1, h2] at hF
    refine finTS hF fun bl hbl => ⟨[.agg [.fv (hd1 (bl 2) E ++ fpE E) M], ai 3], .agg (.cons (ress_copy rfl hE) .nil) (.c (.imm _) .nil), ⟨_, rfl, blk_row hbl (r := 2) (ab := ⟨_, _, E⟩) rfl hE.new⟩, rfl, rfl⟩
  rw [hH] at cH
  refine call0 hg cH rfl rfl ?_
  cbv
  obtain ⟨hjj, hA, hW⟩ := hyes hH
  refine call0 hg c5 rfl rfl ?_
  cbv
  rw [hA] at hF
  clear hno hyes hup hA
  obtain ⟨L, hL⟩ : ∃ L : Int → List (List AC), ∀ z, L z = rmL ks kid z := ⟨_, fun _ => rfl⟩
  refine loop_runW4 [] [] heff hhd hg fits (by kernel_rfl) (fun s : Int × List (List AC) => [(1, .t (ai (n))), (2, .t (ai (kid))), (3, .t (.c (.ptr 0 0 0))), (6, .t (.c (.ptr 1 0 0))), (8, .t (.c (.ptr 3 0 0))), (9, .t (.c (.own 4))), (43, .t (.c (.view K))), (44, .t (ai (g .ln K))), (45, .t (ai (s.1)))]) (fun s => [.bx 43 1 [.view M], .bx 43 1 [.imm (.slice none 0 0)], .rw ⟨106, 64, E⟩, .bx 43 1 [.own 2], .rw ⟨3, 1, s.2⟩]) (fun s => 0 ≤ s.1 ∧ s.2 = L s.1) (fun s => (lenI K).toNat - s.1.toNat)
    (0, []) ⟨Int.le_refl 0, by rw [hL]; exact f0.symm⟩ (Wk.weak (wkG [some 0, some 1, some 2, some 3, none] ⟨rfl, rfl, rfl, rfl, rfl, rfl, rfl, rfl, rfl, trivial⟩ ⟨⟨_, _, rfl, rfl, rfl, rfl, .inl ⟨rfl, rfl⟩⟩, ⟨_, _, rfl, rfl, rfl, rfl, .inl ⟨rfl, rfl⟩⟩, ⟨_, _, rfl, rfl, rfl, rfl, .inl ⟨rfl, bare_plainE hE.bare⟩⟩, ⟨_, _, rfl, rfl, rfl, rfl, .inr ⟨⟨rfl, trivial⟩, trivial⟩⟩, ⟨_, rfl, rfl⟩, trivial⟩ (by decide) no_lt)) (fun s B hs' hB => ?_)
  obtain ⟨i, es'⟩ := s
  simp only at hs'
  obtain ⟨hi0, hes⟩ := hs'
  have hpl : plainE es' = true := by rw [hes, hL]; exact f5 i
  have hle : es'.length ≤ 1048576 := by rw [hes, hL]; exact f2 i
  cbv
  cases hc : g .q .lss i (g .ln K)
  case false =>
    rw [goLss hg, goLn hg, decide_eq_false_iff_not] at hc
    cbv
    obtain ⟨K', hK'⟩ : ∃ K', K' = vw intC (ks.filter (rmK kid)) := ⟨_, rfl⟩
    have hes2 : es' = K' := by rw [hes, hL, f1 i (by omega), hK']
    have iK' : immE K' = true := by rw [hK']; exact vw_imm _ _
    rw [← hK'] at hW
    subst hes2
    have hlen0 : j < E.length := by rw [hE.len]; exact z1
    obtain ⟨X1, hX1⟩ : ∃ X1, X1 = E.set j (nodeK u 4 R t m b2) := ⟨_, rfl⟩
    have key1 : ∀ y, y = nodeK u 4 R t m b2 → g .st E j y = X1 := fun y h => by rw [h, goSt hg, hX1]
    have hx2 : X1[j2]? = some (nodeE u2 K2 R2 t2 m2 c1 c2) := by rw [hX1, List.getElem?_set_ne hjj]; exact he2
    have hlen1 : j2 < X1.length := (List.getElem?_eq_some_iff.1 hx2).1
    obtain ⟨X2, hX2⟩ : ∃ X2, X2 = X1.set j2 (nodeE 0 K2 R2 t2 m2 c1 c2) := ⟨_, rfl⟩
    have key2 : ∀ y, y = nodeE 0 K2 R2 t2 m2 c1 c2 → g .st X1 j2 y = X2 := fun y h => by rw [h, goSt hg, hX2]
    rw [hX1] at hX2
    clear hX1
    rw [es]
    refine goYt hg z0 hj hlen0 ?_
    cbv
    refine ⟨_, he, ?_⟩
    cbv
    rw [key1]
    rotate_left
    · rfl
    rw [es2]
    refine goYt hg y0 hj2 hlen1 ?_
    cbv
    refine ⟨_, hx2, ?_⟩
    cbv
    rw [key2]
    rotate_left
    · rfl
    refine finTS hF fun bl hbl => ?_
    obtain ⟨Y, w1, w2⟩ := rm_end hE he he2 hjj hbl (r := 2) (q := 4) (k := 64) (t := 106) (t' := 3) (k' := 1) (u' := 0) (K' := es') (by rw [← hX2]; rfl) rfl (by decide) iK'
    rw [← hW] at w1
    exact ⟨[.agg [.fv (hd1 (bl 2) Y ++ fpE Y) W], ai 0], .agg (.cons w1 .nil) (.c (.imm _) .nil), ⟨_, rfl, w2⟩, rfl, rfl⟩
  rw [goLss hg, goLn hg, decide_eq_true_eq] at hc
  cbv
  obtain ⟨k, hk, hkk⟩ := f6 i hi0 hc
  refine goX hg _ hi0 hkk rfl ?_
  have e1 : g .w .add .i64 i 1 = i + 1 := by rw [goAdd hg, wrap_small _ (by omega)]
  have hme : (lenI K).toNat - (i + 1).toNat < (lenI K).toNat - i.toNat := by omega
  cbv
  cases hne : g .q .neq k kid
  case false =>
    rw [goNeq hg, bne_eq_false_iff_eq] at hne
    cbv
    rw [e1, hB]
    exact ⟨(i + 1, es'), ⟨by show 0 ≤ i + 1; omega, by show es' = L (i + 1); rw [hL, f4 i k hi0 hk hne, ← hL]; exact hes⟩, hme, Wk.weak (wkG [some 0, some 1, some 2, some 3, some 4] ⟨rfl, rfl, rfl, rfl, rfl, rfl, rfl, rfl, rfl, trivial⟩ ⟨⟨_, _, rfl, rfl, rfl, rfl, .inl ⟨rfl, rfl⟩⟩, ⟨_, _, rfl, rfl, rfl, rfl, .inl ⟨rfl, rfl⟩⟩, ⟨_, _, rfl, rfl, rfl, rfl, .inl ⟨rfl, bare_plainE hE.bare⟩⟩, ⟨_, _, rfl, rfl, rfl, rfl, .inr ⟨⟨rfl, trivial⟩, trivial⟩⟩, ⟨_, _, rfl, rfl, rfl, rfl, .inl ⟨rfl, hpl⟩⟩, trivial⟩ (by decide) no_lt)⟩
  rw [goNeq hg, bne_iff_ne, ne_eq] at hne
  cbv
  refine goNAt hg rfl (by decide) hle ?_
  cbv
  have hadd : es' ++ [[.imm (.int .i64 k)]] = L (i + 1) := by rw [hL, f3 i k hi0 hk hne, hes, hL]
  have hpl2 : plainE (es' ++ [[.imm (.int .i64 k)]]) = true := by rw [hadd, hL]; exact f5 _
  rw [e1, goAp hg, hB]
  exact ⟨(i + 1, _), ⟨by show 0 ≤ i + 1; omega, hadd⟩, hme, Wk.weak (wkG [some 0, some 1, some 2, some 3, some 6] ⟨rfl, rfl, rfl, rfl, rfl, rfl, rfl, rfl, rfl, trivial⟩ ⟨⟨_, _, rfl, rfl, rfl, rfl, .inl ⟨rfl, rfl⟩⟩, ⟨_, _, rfl, rfl, rfl, rfl, .inl ⟨rfl, rfl⟩⟩, ⟨_, _, rfl, rfl, rfl, rfl, .inl ⟨rfl, bare_plainE hE.bare⟩⟩, ⟨_, _, rfl, rfl, rfl, rfl, .inr ⟨⟨rfl, trivial⟩, trivial⟩⟩, ⟨_, _, rfl, rfl, rfl, rfl, .inl ⟨rfl, hpl2⟩⟩, trivial⟩ (by decide) no_lt)⟩
set_option maxHeartbeats 16000000 in
theorem spec_RemoveKid_t (ns : List NNode) (hl : ns.length ≤ 1048576) (hs : ∀ y ∈ ns, NNode.small y) (n kid : Int) : TCon Tryz.prog 72 [.agg [.view (vwA NNode.ac ns)], ai n, ai kid] fun lo res rows => (∃ b0, res = .tup [.agg [.fv b0 (vwA NNode.ac (rmN ns n kid))], ai (rmI ns n kid)] ∧ NewB lo b0) ∧ plainV res = true ∧ rows = [] := by
  have ck := spec_l10Copy_t ns hl hs
  have cT := spec_TreeOk_a ns hl hs
  obtain ⟨M, hM⟩ : ∃ M, M = vwA NNode.ac ns := ⟨_, rfl⟩
  have hMx : lenI M = (ns.length : Int) := by rw [lenI_eq, hM, vwA_length]
  have cn := spec_l10Is_a M n
  have cn2 := spec_l10Is_a M kid
  have hin : isN ns n = rng n 1 (lenI M) := by rw [hMx]; rfl
  have hin2 : isN ns kid = rng kid 1 (lenI M) := by rw [hMx]; rfl
  rw [← hin] at cn
  rw [← hin2] at cn2
  obtain ⟨W, hW⟩ : ∃ W, W = vwA NNode.ac (rmN ns n kid) := ⟨_, rfl⟩
  obtain ⟨AI, hAI⟩ : ∃ W, W = rmI ns n kid := ⟨_, rfl⟩
  have hq1 : rmO ns n kid = false → W = M ∧ AI = 1 := fun h => ⟨by rw [hW, hM]; unfold rmN; rw [h]; rfl, by rw [hAI]; unfold rmI; rw [if_neg (by rw [h]; decide)]⟩
  have hq3 : rmO ns n kid = true → 0 ≤ n - 1 ∧ (n - 1).toNat < M.length ∧ n ≤ 1048576 ∧ 1 ≤ n ∧ 0 ≤ kid - 1 ∧ (kid - 1).toNat < M.length ∧ kid ≤ 1048576 ∧ 1 ≤ kid ∧ ∃ ks u R t m u2 K2 R2 t2 m2, ks.length ≤ 1048576 ∧ KF ks kid ∧ M[(n - 1).toNat]? = some (nodeA u (vw intC ks) R t m) ∧ M[(kid - 1).toNat]? = some (nodeA u2 K2 R2 t2 m2) ∧ (u2 = n ↔ hasI ks kid = true) ∧ (hasI ks kid = false → W = M ∧ AI = 3) ∧
      (hasI ks kid = true → (n - 1).toNat ≠ (kid - 1).toNat ∧ AI = 0 ∧ W = (M.set (n - 1).toNat (nodeA u (vw intC (ks.filter (rmK kid))) R t m)).set (kid - 1).toNat (nodeA 0 K2 R2 t2 m2)) := fun h => by
    have h' := h
    unfold rmO at h'
    simp only [Bool.and_eq_true] at h'
    obtain ⟨ht, hi, hi2⟩ := h'
    obtain ⟨i1, i2, x, hx⟩ := isN_at hi
    obtain ⟨k1, k2, y, hy⟩ := isN_at hi2
    have hk : kidsN ns n = x.kids := by unfold kidsN; rw [hx]
    have hkl : ∀ x : NNode, ns[(n - 1).toNat]? = some x → x.kids.length ≤ 1048576 := fun x hx => by
      have := hs x (List.mem_of_getElem? hx)
      obtain ⟨a0, a1, ⟨a2, a3, a4, a5, a6, a7, a8, a9, a10, a11, a12, ⟨a13, a14⟩, ⟨a15, a16⟩, ⟨a17, a18⟩, ⟨a19, a20⟩, ⟨a21, a22⟩, ⟨a23, a24⟩, ⟨a25, a26⟩, a27, ⟨⟨a28, a29⟩, ⟨a30, a31⟩, ⟨a32, a33⟩, ⟨a34, a35⟩, ⟨a36, a37⟩, ⟨a38, a39⟩⟩, ⟨⟨a40, a41⟩, ⟨a42, a43⟩, ⟨a44, a45⟩, ⟨a46, a47⟩, ⟨a48, a49⟩, ⟨a50, a51⟩⟩, ⟨a52, a53, a54, a55⟩, ⟨a56, a57, a58, a59⟩, a60, a61⟩, a62, ⟨a63⟩⟩ := x
      exact this.1
    refine ⟨by omega, by rw [hM, vwA_length]; exact (List.getElem?_eq_some_iff.1 hx).1, by omega, by omega, by omega, by rw [hM, vwA_length]; exact (List.getElem?_eq_some_iff.1 hy).1, by omega, by omega, x.kids, x.up, vw GRule.c x.table.rules, x.style, x.measured, y.up, vw intC y.kids, vw GRule.c y.table.rules, y.style, y.measured, hkl x hx, kf_of _ _ (hkl x hx), by rw [hM]; exact vwA_at hx, by rw [hM]; exact vwA_at hy, up_has ht i1 hx k1 hy, fun h2 => ⟨by rw [hW, hM]; unfold rmN; rw [h, hk, h2]; rfl, by rw [hAI]; unfold rmI; rw [if_pos h, hk, if_neg (by rw [h2]; decide)]⟩, fun h2 => ⟨fun he => ?_, by rw [hAI]; unfold rmI; rw [if_pos h, hk, if_pos h2], ?_⟩⟩
    · have hkn : n = kid := by omega
      subst hkn
      rw [hx] at hy
      cases hy
      exact up_ne ht hi i1 hx ((up_has ht i1 hx i1 hx).2 h2)
    · rw [hW, hM]; unfold rmN; rw [h, hk, h2, hx, hy]
      show vwA NNode.ac ((ns.set _ _).set _ _) = _
      rw [vwA_set, vwA_set]; rfl
  rw [← hM] at ck cT
  rw [← hM, ← hW, ← hAI]
  clear hin hin2 hMx hM hW hAI
  refine tcon_run ([]) ([]) (c := body Tryz.f72) fits Tryz.func72 (by kernel_rfl) (by kernel_rfl) (by rfl) (by kernel_rfl) fun β g eff hd F heff hhd hg hF => ?_
  cbv
  refine callTR1 hg ck (dwA_same rfl) (fun lo E h => bare_plainE h.bare) (fun lo E q1 q2 q3 hE => ?_)
  clear q2 q3
  replace hE : CopyE 64 E M β.lo := ⟨hE.kk, hE.bare, hE.eq, hE.new.mono q1⟩
  clear q1
  cbv
  cases hTB : treeB ns
  case false =>
    rw [hTB] at cT
    refine call0 hg cT rfl rfl ?_
    cbv
    obtain ⟨h1, h2⟩ := hq1 (by unfold rmO; rw [hTB]; rfl)
    rw [h1, h2] at hF
    refine finTS hF fun bl hbl => ⟨[.agg [.fv (hd1 (bl 2) E ++ fpE E) M], ai 1], .agg (.cons (ress_copy rfl hE) .nil) (.c (.imm _) .nil), ⟨_, rfl, blk_row hbl (r := 2) (ab := ⟨_, _, E⟩) rfl hE.new⟩, rfl, rfl⟩
  rw [hTB] at cT
  refine call0 hg cT rfl rfl ?_
  cbv
  cases hN : isN ns n
  case false =>
    rw [hN] at cn
    refine call0 hg cn rfl rfl ?_
    cbv
    obtain ⟨h1, h2⟩ := hq1 (by unfold rmO; rw [hTB, hN]; rfl)
    rw [h1, h2] at hF
    refine finTS hF fun bl hbl => ⟨[.agg [.fv (hd1 (bl 2) E ++ fpE E) M], ai 1], .agg (.cons (ress_copy rfl hE) .nil) (.c (.imm _) .nil), ⟨_, rfl, blk_row hbl (r := 2) (ab := ⟨_, _, E⟩) rfl hE.new⟩, rfl, rfl⟩
  rw [hN] at cn
  refine call0 hg cn rfl rfl ?_
  cbv
  cases hN2 : isN ns kid
  case false =>
    rw [hN2] at cn2
    refine call0 hg cn2 rfl rfl ?_
    cbv
    obtain ⟨h1, h2⟩ := hq1 (by unfold rmO; rw [hTB, hN, hN2]; rfl)
    rw [h1, h2] at hF
    refine finTS hF fun bl hbl => ⟨[.agg [.fv (hd1 (bl 2) E ++ fpE E) M], ai 1], .agg (.cons (ress_copy rfl hE) .nil) (.c (.imm _) .nil), ⟨_, rfl, blk_row hbl (r := 2) (ab := ⟨_, _, E⟩) rfl hE.new⟩, rfl, rfl⟩
  rw [hN2] at cn2
  refine call0 hg cn2 rfl rfl ?_
  cbv
  obtain ⟨z0, z1, z2, z3, y0, y1, y2, y3, ks, u, R, t, m, u2, K2, R2, t2, m2, hkl, hKF, hMj, hMk, hup, hno, hyes⟩ := hq3 (by unfold rmO; rw [hTB, hN, hN2]; rfl)
  clear hq1 hq3
  obtain ⟨b1, b2, he⟩ := hE.node hMj
  obtain ⟨c1, c2, he2⟩ := hE.node hMk
  have es : g .w .sub .i64 n 1 = n - 1 := by rw [goSub hg, wrap_small _ (by omega)]
  have es2 : g .w .sub .i64 kid 1 = kid - 1 := by rw [goSub hg, wrap_small _ (by omega)]
  have hMj' := hMj
  have hMk' := hMk
  obtain ⟨z, hz⟩ : ∃ z, z = n - 1 := ⟨_, rfl⟩
  rw [← hz] at es z0 z1 hyes he hMj'
  obtain ⟨j, hj⟩ : ∃ j, j = z.toNat := ⟨_, rfl⟩
  rw [← hj] at z1 hyes he hMj'
  obtain ⟨y, hy⟩ : ∃ y, y = kid - 1 := ⟨_, rfl⟩
  rw [← hy] at es2 y0 y1 hyes he2
  obtain ⟨j2, hj2⟩ : ∃ j, j = y.toNat := ⟨_, rfl⟩
  rw [← hj2] at y1 hyes he2
  obtain ⟨K, hK⟩ : ∃ K, K = vw intC ks := ⟨_, rfl⟩
  have hKl : K.length = ks.length := by rw [hK, vw_length]
  have iK : immE K = true := by rw [hK]; exact vw_imm _ _
  have kK : ∀ y ∈ K, y.length = 1 := by rw [hK]; exact vw_k (c := intC) (k := 1) fun _ => rfl
  have dK : ∀ y ∈ K, y.all dat = true := by rw [hK]; exact vw_dat
  obtain ⟨f0, f1, f2, f3, f4, f5, f6, f7⟩ := hKF
  rw [← hK] at f1 f6 f7
  rw [← hK] at hMj
  have c5 := spec_l10Node_a M n z3 z2 hMj
  refine call0 hg (spec_l10Node_a M kid y3 y2 hMk) rfl rfl ?_
  cbv
  cases hH : g .q .neq u2 n
  case true =>
    rw [goNeq hg, bne_iff_ne, ne_eq] at hH
    cbv
    obtain ⟨h1, h2⟩ := hno (by cases hx : hasI ks kid; rfl; exact absurd (hup.2 hx) hH)
    rw [h1, h2] at hF
    refine finTS hF fun bl hbl => ⟨[.agg [.fv (hd1 (bl 2) E ++ fpE E) M], ai 3], .agg (.cons (ress_copy rfl hE) .nil) (.c (.imm _) .nil), ⟨_, rfl, blk_row hbl (r := 2) (ab := ⟨_, _, E⟩) rfl hE.new⟩, rfl, rfl⟩
  rw [goNeq hg, bne_eq_false_iff_eq] at hH
  cbv
  obtain ⟨hjj, hA, hW⟩ := hyes (hup.1 hH)
  rw [hA] at hF
  clear hno hyes hup hA
  obtain ⟨L, hL⟩ : ∃ L : Int → List (List AC), ∀ z, L z = rmL ks kid z := ⟨_, fun _ => rfl⟩
  refine loop_runW4 [] [] heff hhd hg fits (by kernel_rfl) (fun s : Int × List (List AC) => [(1, .t (ai (n))), (2, .t (ai (kid))), (3, .t (.c (.ptr 0 0 0))), (6, .t (.c (.ptr 1 0 0))), (8, .t (.c (.ptr 3 0 0))), (9, .t (.c (.own 4))), (10, .t (ai (s.1)))]) (fun s => [.bx 43 1 [.view M], .bx 43 1 [.imm (.slice none 0 0)], .rw ⟨106, 64, E⟩, .bx 43 1 [.own 2], .rw ⟨3, 1, s.2⟩]) (fun s => 0 ≤ s.1 ∧ s.2 = L s.1) (fun s => (lenI K).toNat - s.1.toNat)
    (0, []) ⟨Int.le_refl 0, by rw [hL]; exact f0.symm⟩ (Wk.weak (wkG [some 0, some 1, some 2, some 3, some 4] ⟨rfl, rfl, rfl, rfl, rfl, rfl, rfl, trivial⟩ ⟨⟨_, _, rfl, rfl, rfl, rfl, .inl ⟨rfl, rfl⟩⟩, ⟨_, _, rfl, rfl, rfl, rfl, .inl ⟨rfl, rfl⟩⟩, ⟨_, _, rfl, rfl, rfl, rfl, .inl ⟨rfl, bare_plainE hE.bare⟩⟩, ⟨_, _, rfl, rfl, rfl, rfl, .inr ⟨⟨rfl, trivial⟩, trivial⟩⟩, ⟨_, _, rfl, rfl, rfl, rfl, .inl ⟨rfl, rfl⟩⟩, trivial⟩ (by decide) no_lt)) (fun s B hs' hB => ?_)
  obtain ⟨i, es'⟩ := s
  simp only at hs'
  obtain ⟨hi0, hes⟩ := hs'
  have hpl : plainE es' = true := by rw [hes, hL]; exact f5 i
  have hle : es'.length ≤ 1048576 := by rw [hes, hL]; exact f2 i
  cbv
  refine call0 hg c5 rfl rfl ?_
  cbv
  cases hc : g .q .lss i (g .ln K)
  case false =>
    rw [goLss hg, goLn hg, decide_eq_false_iff_not] at hc
    cbv
    obtain ⟨K', hK'⟩ : ∃ K', K' = vw intC (ks.filter (rmK kid)) := ⟨_, rfl⟩
    have hes2 : es' = K' := by rw [hes, hL, f1 i (by omega), hK']
    have iK' : immE K' = true := by rw [hK']; exact vw_imm _ _
    rw [← hK'] at hW
    subst hes2
    have hlen0 : j < E.length := by rw [hE.len]; exact z1
    obtain ⟨X1, hX1⟩ : ∃ X1, X1 = E.set j (nodeK u 4 R t m b2) := ⟨_, rfl⟩
    have key1 : ∀ y, y = nodeK u 4 R t m b2 → g .st E j y = X1 := fun y h => by rw [h, goSt hg, hX1]
    have hx2 : X1[j2]? = some (nodeE u2 K2 R2 t2 m2 c1 c2) := by rw [hX1, List.getElem?_set_ne hjj]; exact he2
    have hlen1 : j2 < X1.length := (List.getElem?_eq_some_iff.1 hx2).1
    obtain ⟨X2, hX2⟩ : ∃ X2, X2 = X1.set j2 (nodeE 0 K2 R2 t2 m2 c1 c2) := ⟨_, rfl⟩
    have key2 : ∀ y, y = nodeE 0 K2 R2 t2 m2 c1 c2 → g .st X1 j2 y = X2 := fun y h => by rw [h, goSt hg, hX2]
    rw [hX1] at hX2
    clear hX1
    rw [es]
    refine goYt hg z0 hj hlen0 ?_
    cbv
    refine ⟨_, he, ?_⟩
    cbv
    rw [key1]
    rotate_left
    · rfl
    rw [es2]
    refine goYt hg y0 hj2 hlen1 ?_
    cbv
    refine ⟨_, hx2, ?_⟩
    cbv
    rw [key2]
    rotate_left
    · rfl
    refine finTS hF fun bl hbl => ?_
    obtain ⟨Y, w1, w2⟩ := rm_end hE he he2 hjj hbl (r := 2) (q := 4) (k := 64) (t := 106) (t' := 3) (k' := 1) (u' := 0) (K' := es') (by rw [← hX2]; rfl) rfl (by decide) iK'
    rw [← hW] at w1
    exact ⟨[.agg [.fv (hd1 (bl 2) Y ++ fpE Y) W], ai 0], .agg (.cons w1 .nil) (.c (.imm _) .nil), ⟨_, rfl, w2⟩, rfl, rfl⟩
  rw [goLss hg, goLn hg, decide_eq_true_eq] at hc
  cbv
  obtain ⟨k, hk, hkk⟩ := f6 i hi0 hc
  refine call0 hg c5 rfl rfl ?_
  cbv
  refine goX hg _ hi0 hkk rfl ?_
  have e1 : g .w .add .i64 i 1 = i + 1 := by rw [goAdd hg, wrap_small _ (by omega)]
  have hme : (lenI K).toNat - (i + 1).toNat < (lenI K).toNat - i.toNat := by omega
  cbv
  cases hne : g .q .neq k kid
  case false =>
    rw [goNeq hg, bne_eq_false_iff_eq] at hne
    cbv
    rw [e1, hB]
    exact ⟨(i + 1, es'), ⟨by show 0 ≤ i + 1; omega, by show es' = L (i + 1); rw [hL, f4 i k hi0 hk hne, ← hL]; exact hes⟩, hme, Wk.weak (wkG [some 0, some 1, some 2, some 3, some 4] ⟨rfl, rfl, rfl, rfl, rfl, rfl, rfl, trivial⟩ ⟨⟨_, _, rfl, rfl, rfl, rfl, .inl ⟨rfl, rfl⟩⟩, ⟨_, _, rfl, rfl, rfl, rfl, .inl ⟨rfl, rfl⟩⟩, ⟨_, _, rfl, rfl, rfl, rfl, .inl ⟨rfl, bare_plainE hE.bare⟩⟩, ⟨_, _, rfl, rfl, rfl, rfl, .inr ⟨⟨rfl, trivial⟩, trivial⟩⟩, ⟨_, _, rfl, rfl, rfl, rfl, .inl ⟨rfl, hpl⟩⟩, trivial⟩ (by decide) no_lt)⟩
  rw [goNeq hg, bne_iff_ne, ne_eq] at hne
  cbv
  refine call0 hg c5 rfl rfl ?_
  cbv
  refine goX hg _ hi0 hkk rfl ?_
  cbv
  refine goNAt hg rfl (by decide) hle ?_
  cbv
  have hadd : es' ++ [[.imm (.int .i64 k)]] = L (i + 1) := by rw [hL, f3 i k hi0 hk hne, hes, hL]
  have hpl2 : plainE (es' ++ [[.imm (.int .i64 k)]]) = true := by rw [hadd, hL]; exact f5 _
  rw [e1, goAp hg, hB]
  exact ⟨(i + 1, _), ⟨by show 0 ≤ i + 1; omega, hadd⟩, hme, Wk.weak (wkG [some 0, some 1, some 2, some 3, some 6] ⟨rfl, rfl, rfl, rfl, rfl, rfl, rfl, trivial⟩ ⟨⟨_, _, rfl, rfl, rfl, rfl, .inl ⟨rfl, rfl⟩⟩, ⟨_, _, rfl, rfl, rfl, rfl, .inl ⟨rfl, rfl⟩⟩, ⟨_, _, rfl, rfl, rfl, rfl, .inl ⟨rfl, bare_plainE hE.bare⟩⟩, ⟨_, _, rfl, rfl, rfl, rfl, .inr ⟨⟨rfl, trivial⟩, trivial⟩⟩, ⟨_, _, rfl, rfl, rfl, rfl, .inl ⟨rfl, hpl2⟩⟩, trivial⟩ (by decide) no_lt)⟩
end Go.Proofs.YtenbloaopcfdlaaGreat
namespace Go.Proofs.YtenbloaopcfdlaaGreat
open Go.ChangeShapes Go.WideShapes Go.ChangeAt Go.RowKit Am
set_option linter.unusedVariables false
set_option linter.unusedSimpArgs false
set_option maxRecDepth 100000
theorem node_kids {x : NNode} {ks : List Int} (hr : ks.length ≤ x.kids.length) (h : x.small) : NNode.small { x with kids := ks } := by
  obtain ⟨a0, a1, ⟨a2, a3, a4, a5, a6, a7, a8, a9, a10, a11, a12, ⟨a13, a14⟩, ⟨a15, a16⟩, ⟨a17, a18⟩, ⟨a19, a20⟩, ⟨a21, a22⟩, ⟨a23, a24⟩, ⟨a25, a26⟩, a27, ⟨⟨a28, a29⟩, ⟨a30, a31⟩, ⟨a32, a33⟩, ⟨a34, a35⟩, ⟨a36, a37⟩, ⟨a38, a39⟩⟩, ⟨⟨a40, a41⟩, ⟨a42, a43⟩, ⟨a44, a45⟩, ⟨a46, a47⟩, ⟨a48, a49⟩, ⟨a50, a51⟩⟩, ⟨a52, a53, a54, a55⟩, ⟨a56, a57, a58, a59⟩, a60, a61⟩, a62, ⟨a63⟩⟩ := x
  exact ⟨Nat.le_trans hr h.1, h.2.1, trivial⟩
theorem node_up {x : NNode} {u : Int} (h : x.small) : NNode.small { x with up := u } := by
  obtain ⟨a0, a1, ⟨a2, a3, a4, a5, a6, a7, a8, a9, a10, a11, a12, ⟨a13, a14⟩, ⟨a15, a16⟩, ⟨a17, a18⟩, ⟨a19, a20⟩, ⟨a21, a22⟩, ⟨a23, a24⟩, ⟨a25, a26⟩, a27, ⟨⟨a28, a29⟩, ⟨a30, a31⟩, ⟨a32, a33⟩, ⟨a34, a35⟩, ⟨a36, a37⟩, ⟨a38, a39⟩⟩, ⟨⟨a40, a41⟩, ⟨a42, a43⟩, ⟨a44, a45⟩, ⟨a46, a47⟩, ⟨a48, a49⟩, ⟨a50, a51⟩⟩, ⟨a52, a53, a54, a55⟩, ⟨a56, a57, a58, a59⟩, a60, a61⟩, a62, ⟨a63⟩⟩ := x
  exact h
theorem rmN_at (ns : List NNode) (hl : ns.length ≤ 1048576) (hs : ∀ y ∈ ns, NNode.small y) (n kid : Int) : (rmN ns n kid).length ≤ 1048576 ∧ (∀ y ∈ rmN ns n kid, NNode.small y) ∧ (rmI ns n kid ≠ 0 → rmN ns n kid = ns) := by
  unfold rmN rmI
  cases h1 : rmO ns n kid <;> cases h2 : hasI (kidsN ns n) kid <;> cases h3 : ns[(n - 1).toNat]? <;> cases h4 : ns[(kid - 1).toNat]? <;> first | exact ⟨hl, hs, fun _ => rfl⟩ | skip
  rename_i x y
  refine ⟨by simpa using hl, fun z hz => ?_, fun h => absurd rfl h⟩
  rcases List.mem_or_eq_of_mem_set hz with h | h
  · rcases List.mem_or_eq_of_mem_set h with h | h
    · exact hs z h
    · rw [h]; exact node_kids (List.length_filter_le _ _) (hs x (List.mem_of_getElem? h3))
  · rw [h]; exact node_up (hs y (List.mem_of_getElem? h4))
theorem rmT_small (x : NEngine) (code n m kid : Int) (hs : x.small) : (setT x (rmN x.tree.nodes m kid) code n).small := by
  have := rmN_at x.tree.nodes (by obtain ⟨⟨ms0⟩, ⟨ms, qs⟩, fs, x0, x1, x2, x3⟩ := x; exact hs.1) (by obtain ⟨⟨ms0⟩, ⟨ms, qs⟩, fs, x0, x1, x2, x3⟩ := x; exact hs.2.1) m kid
  exact setT_small x _ code n hs this.1 this.2.1
set_option maxHeartbeats 16000000 in
theorem impl_EngRemove_t (x : NEngine) (hs : x.small) (n kid : Int) : TCon Tryz.prog 30 [.agg x.ac, ai n, ai kid] (fun lo res rows => (∃ b0 b1 b2 b3, res = .tup [.agg (engR b0 b1 b2 b3 (setT x (rmN x.tree.nodes n kid) (rmI x.tree.nodes n kid) n)), ai (rmI x.tree.nodes n kid)] ∧ NewB lo (b0 ++ b1 ++ b2 ++ b3)) ∧ plainV res = true ∧ rows = []) := by
  have hsx := hs
  have hx0 := x
  obtain ⟨hl', hs', hc'⟩ : (rmN x.tree.nodes n kid).length ≤ 1048576 ∧ (∀ y ∈ rmN x.tree.nodes n kid, NNode.small y) ∧ (rmI x.tree.nodes n kid ≠ 0 → rmN x.tree.nodes n kid = x.tree.nodes) := by
    obtain ⟨⟨ns⟩, ⟨ms, qs⟩, fs, x0, x1, x2, x3⟩ := x
    obtain ⟨s0, s1, s2, s3, s4, s5, -⟩ := hs
    exact rmN_at ns s0 s1 n kid
  have c3 := fun bt => impl_changed_t x hs bt _ hl' hs' (rmI x.tree.nodes n kid) n hc'
  obtain ⟨⟨ns⟩, ⟨ms, qs⟩, fs, x0, x1, x2, x3⟩ := x
  obtain ⟨s0, s1, s2, s3, s4, s5, -⟩ := hs
  have c2 := impl_RemoveKid_t ns s0 s1 n kid
  simp only at hl' hs' hc'
  obtain ⟨N, hN⟩ : ∃ V, V = vwA NNode.ac ns := ⟨_, rfl⟩
  obtain ⟨M, hM⟩ : ∃ V, V = vwA NMemo.ac ms := ⟨_, rfl⟩
  obtain ⟨Q, hQ⟩ : ∃ V, V = vw GAsked.c qs := ⟨_, rfl⟩
  obtain ⟨V, hV⟩ : ∃ V, V = vw GFrame.c fs := ⟨_, rfl⟩
  obtain ⟨T, hT⟩ : ∃ V, V = vwA NNode.ac (rmN ns n kid) := ⟨_, rfl⟩
  obtain ⟨C, hC⟩ : ∃ V, V = rmI ns n kid := ⟨_, rfl⟩
  obtain ⟨MC, hMC⟩ : ∃ V, V = vwA NMemo.ac (kpM (rmN ns n kid) ms (rmI ns n kid) n) := ⟨_, rfl⟩
  replace c2 : TCon Tryz.prog 73 [.agg [.view N], ai n, ai kid] (fun lo res rows => (∃ b0, res = .tup [.agg [.fv b0 T], ai C] ∧ NewB lo b0) ∧ plainV res = true ∧ rows = []) := by rw [hN, hT, hC]; exact c2
  replace c3 : ∀ bt, TCon Tryz.prog 60 [.agg [.view N, .view M, .view Q, .view V, .imm (.int .i64 x0), .imm (.int .i64 x1), .imm (.int .i64 x2), .imm (.bool x3)], .agg [.fv bt T], ai C, ai n] (fun lo res rows => (∃ b0 b1 b2 b3, res = .tup [.agg [.fv b0 T, .fv b1 MC, .fv b2 Q, .fv b3 V, .imm (.int .i64 x0), .imm (.int .i64 x1), .imm (.int .i64 x2), .imm (.bool x3)], ai C] ∧ ∀ l0, NewB l0 bt → l0 ≤ lo → (∀ b ∈ bt, b < lo) → NewB l0 (b0 ++ b1 ++ b2 ++ b3)) ∧ plainV res = true ∧ rows = []) := fun bt => by rw [hN, hM, hQ, hV, hT, hC, hMC]; exact c3 bt
  show TCon _ _ [.agg [.view (vwA NNode.ac ns), .view (vwA NMemo.ac ms), .view (vw GAsked.c qs), .view (vw GFrame.c fs), .imm (.int .i64 x0), .imm (.int .i64 x1), .imm (.int .i64 x2), .imm (.bool x3)], ai n, ai kid] (fun lo res rows => (∃ b0 b1 b2 b3, res = .tup [.agg [.fv b0 (vwA NNode.ac (rmN ns n kid)), .fv b1 (vwA NMemo.ac (kpM (rmN ns n kid) ms (rmI ns n kid) n)), .fv b2 (vw GAsked.c qs), .fv b3 (vw GFrame.c fs), .imm (.int .i64 x0), .imm (.int .i64 x1), .imm (.int .i64 x2), .imm (.bool x3)], ai (rmI ns n kid)] ∧ NewB lo (b0 ++ b1 ++ b2 ++ b3)) ∧ plainV res = true ∧ rows = [])
  rw [← hN, ← hM, ← hQ, ← hV, ← hMC, ← hT, ← hC]
  clear hN hM hQ hV hT hC hMC  s0 s1 s2 s3 s4 s5 hl' hs' hc' hsx hx0
  refine tcon_run ([]) ([]) (c := body Tryz.f30) fits Tryz.func30 (by kernel_rfl) (by kernel_rfl) (by rfl) (by kernel_rfl) fun β g eff hd F heff hhd hg hF => ?_
  cbv
  refine callT0 hg c2 (dwA_same rfl) (fun l1 res p1 p2 p3 ⟨bt, hres, hn⟩ => ?_)
  subst hres
  clear p2 p3
  cbv
  refine callT0 hg (c3 bt) (dwA_same rfl) (fun l2 res q1 q2 q3 ⟨b0, b1, b2, b3, hres, hn2⟩ => ?_)
  subst hres
  have u1 : ∀ b ∈ bt, b < l2 := fun b hb => q2 b (by simp [fpH, fpL, fpC, hb])
  clear q2 q3
  cbv
  exact finT0 hF rfl ⟨⟨b0, b1, b2, b3, rfl, hn2 _ (hn.mono p1) q1 u1⟩, rfl, rfl⟩
set_option maxHeartbeats 16000000 in
theorem spec_EngRemove_t (x : NEngine) (hs : x.small) (n kid : Int) : TCon Tryz.prog 29 [.agg x.ac, ai n, ai kid] (fun lo res rows => (∃ b0 b1 b2 b3, res = .tup [.agg (engR b0 b1 b2 b3 (setT x (rmN x.tree.nodes n kid) (rmI x.tree.nodes n kid) n)), ai (rmI x.tree.nodes n kid)] ∧ NewB lo (b0 ++ b1 ++ b2 ++ b3)) ∧ plainV res = true ∧ rows = []) := by
  have c0 := spec_l22Copy_t x hs
  have hsx := hs
  have hx0 := x
  obtain ⟨hl', hs', hc'⟩ : (rmN x.tree.nodes n kid).length ≤ 1048576 ∧ (∀ y ∈ rmN x.tree.nodes n kid, NNode.small y) ∧ (rmI x.tree.nodes n kid ≠ 0 → rmN x.tree.nodes n kid = x.tree.nodes) := by
    obtain ⟨⟨ns⟩, ⟨ms, qs⟩, fs, x0, x1, x2, x3⟩ := x
    obtain ⟨s0, s1, s2, s3, s4, s5, -⟩ := hs
    exact rmN_at ns s0 s1 n kid
  obtain ⟨⟨ns⟩, ⟨ms, qs⟩, fs, x0, x1, x2, x3⟩ := x
  obtain ⟨s0, s1, s2, s3, s4, s5, -⟩ := hs
  have c2 := spec_RemoveKid_t ns s0 s1 n kid
  simp only at hl' hs' hc'
  have c3 := fun d0 d1 d2 d3 => spec_l22Forget_t ⟨⟨rmN ns n kid⟩, ⟨ms, qs⟩, fs, x0, x1, x2, x3⟩ ⟨hl', hs', s2, s3, s4, s5, trivial⟩ d0 d1 d2 d3 n (rmI ns n kid)
  obtain ⟨N, hN⟩ : ∃ V, V = vwA NNode.ac ns := ⟨_, rfl⟩
  obtain ⟨M, hM⟩ : ∃ V, V = vwA NMemo.ac ms := ⟨_, rfl⟩
  obtain ⟨Q, hQ⟩ : ∃ V, V = vw GAsked.c qs := ⟨_, rfl⟩
  obtain ⟨V, hV⟩ : ∃ V, V = vw GFrame.c fs := ⟨_, rfl⟩
  obtain ⟨T, hT⟩ : ∃ V, V = vwA NNode.ac (rmN ns n kid) := ⟨_, rfl⟩
  obtain ⟨C, hC⟩ : ∃ V, V = rmI ns n kid := ⟨_, rfl⟩
  obtain ⟨MC, hMC⟩ : ∃ V, V = vwA NMemo.ac (kpM (rmN ns n kid) ms (rmI ns n kid) n) := ⟨_, rfl⟩
  replace c0 : TCon Tryz.prog 34 [.agg [.view N, .view M, .view Q, .view V, .imm (.int .i64 x0), .imm (.int .i64 x1), .imm (.int .i64 x2), .imm (.bool x3)]] (fun lo res rows => (∃ b0 b1 b2 b3, res = .t (.agg [.fv b0 N, .fv b1 M, .fv b2 Q, .fv b3 V, .imm (.int .i64 x0), .imm (.int .i64 x1), .imm (.int .i64 x2), .imm (.bool x3)]) ∧ NewB lo (b0 ++ b1 ++ b2 ++ b3)) ∧ plainV res = true ∧ rows = []) := by rw [hN, hM, hQ, hV]; exact c0
  replace c2 : TCon Tryz.prog 72 [.agg [.view N], ai n, ai kid] (fun lo res rows => (∃ b0, res = .tup [.agg [.fv b0 T], ai C] ∧ NewB lo b0) ∧ plainV res = true ∧ rows = []) := by rw [hN, hT, hC]; exact c2
  replace c3 : ∀ d0 d1 d2 d3 : List Nat, TCon Tryz.prog 56 [.agg [.fv d0 T, .fv d1 M, .fv d2 Q, .fv d3 V, .imm (.int .i64 x0), .imm (.int .i64 x1), .imm (.int .i64 x2), .imm (.bool x3)], ai n, ai C] (fun lo res rows => (∃ b0 b1 b2 b3, res = .tup [.agg [.fv b0 T, .fv b1 MC, .fv b2 Q, .fv b3 V, .imm (.int .i64 x0), .imm (.int .i64 x1), .imm (.int .i64 x2), .imm (.bool x3)], ai C] ∧ ∀ l0, NewB l0 (d0 ++ d1 ++ d2 ++ d3) → l0 ≤ lo → (∀ b ∈ d0 ++ d1 ++ d2 ++ d3, b < lo) → NewB l0 (b0 ++ b1 ++ b2 ++ b3)) ∧ plainV res = true ∧ rows = []) := fun d0 d1 d2 d3 => by rw [hM, hQ, hV, hT, hC, hMC]; exact c3 d0 d1 d2 d3
  show TCon _ _ [.agg [.view (vwA NNode.ac ns), .view (vwA NMemo.ac ms), .view (vw GAsked.c qs), .view (vw GFrame.c fs), .imm (.int .i64 x0), .imm (.int .i64 x1), .imm (.int .i64 x2), .imm (.bool x3)], ai n, ai kid] (fun lo res rows => (∃ b0 b1 b2 b3, res = .tup [.agg [.fv b0 (vwA NNode.ac (rmN ns n kid)), .fv b1 (vwA NMemo.ac (kpM (rmN ns n kid) ms (rmI ns n kid) n)), .fv b2 (vw GAsked.c qs), .fv b3 (vw GFrame.c fs), .imm (.int .i64 x0), .imm (.int .i64 x1), .imm (.int .i64 x2), .imm (.bool x3)], ai (rmI ns n kid)] ∧ NewB lo (b0 ++ b1 ++ b2 ++ b3)) ∧ plainV res = true ∧ rows = [])
  rw [← hN, ← hM, ← hQ, ← hV, ← hMC, ← hT, ← hC]
  clear hN hM hQ hV hT hC hMC  s0 s1 s2 s3 s4 s5 hl' hs' hc' hsx hx0
  refine tcon_run ([]) ([]) (c := body Tryz.f29) fits Tryz.func29 (by kernel_rfl) (by kernel_rfl) (by rfl) (by kernel_rfl) fun β g eff hd F heff hhd hg hF => ?_
  cbv
  refine callT0 hg c0 (dwA_same rfl) (fun l1 res p1 p2 p3 ⟨b0, b1, b2, b3, hres, hn⟩ => ?_)
  subst hres
  clear p2 p3
  cbv
  refine callT0 hg c2 ⟨⟨.inl rfl, trivial⟩, rfl, rfl, trivial⟩ (fun l2 res q1 q2 q3 ⟨b4, hres, hn2⟩ => ?_)
  subst hres
  have u1 : ∀ b ∈ b1 ++ b2 ++ b3, b < l2 := fun b hb => q2 b (by simp only [List.mem_append] at hb; rcases hb with (h | h) | h <;> simp [fpH, fpL, fpC, h])
  clear q2 q3
  have hn3 : NewB β.lo (b4 ++ b1 ++ b2 ++ b3) := by
    have h1 : NewB l1 (b1 ++ b2 ++ b3) := hn.sub (by rw [List.append_assoc, List.append_assoc, List.append_assoc]; exact List.sublist_append_right _ _)
    exact ((h1.mono p1).app q1 hn2 u1).perm (List.perm_iff_count.2 fun a => by simp only [List.count_append]; omega)
  cbv
  refine callT0 hg (c3 b4 b1 b2 b3) (dwA_same rfl) (fun l3 res r1 r2 r3 ⟨e0, e1, e2, e3, hres, hn4⟩ => ?_)
  subst hres
  have u2 : ∀ b ∈ b4 ++ b1 ++ b2 ++ b3, b < l3 := fun b hb => r2 b (by simp only [List.mem_append] at hb; rcases hb with ((h | h) | h) | h <;> simp [fpH, fpL, fpC, h])
  clear r2 r3
  cbv
  exact finT0 hF rfl ⟨⟨e0, e1, e2, e3, rfl, hn4 _ hn3 r1 u2⟩, rfl, rfl⟩
end Go.Proofs.YtenbloaopcfdlaaGreat
