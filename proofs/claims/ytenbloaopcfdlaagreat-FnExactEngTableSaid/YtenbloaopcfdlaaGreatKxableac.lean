/- Engines in which a node's table is set. -/
import Derived.Test.YtenbloaopcfdlaaGreatKxableab
namespace Go.Proofs.YtenbloaopcfdlaaGreat
open Go.ChangeShapes Go.WideShapes Go.ChangeAt Go.RowKit Am
set_option linter.unusedVariables false
set_option linter.unusedSimpArgs false
set_option maxRecDepth 100000
theorem node_table {x : NNode} {rs : List GRule} {b : Bool} (hr : rs.length ≤ 1048576) (h : x.small) : NNode.small { x with measured := b, table := ⟨rs⟩ } := by
  obtain ⟨a0, a1, ⟨a2, a3, a4, a5, a6, a7, a8, a9, a10, a11, a12, ⟨a13, a14⟩, ⟨a15, a16⟩, ⟨a17, a18⟩, ⟨a19, a20⟩, ⟨a21, a22⟩, ⟨a23, a24⟩, ⟨a25, a26⟩, a27, ⟨⟨a28, a29⟩, ⟨a30, a31⟩, ⟨a32, a33⟩, ⟨a34, a35⟩, ⟨a36, a37⟩, ⟨a38, a39⟩⟩, ⟨⟨a40, a41⟩, ⟨a42, a43⟩, ⟨a44, a45⟩, ⟨a46, a47⟩, ⟨a48, a49⟩, ⟨a50, a51⟩⟩, ⟨a52, a53, a54, a55⟩, ⟨a56, a57, a58, a59⟩, a60, a61⟩, a62, ⟨a63⟩⟩ := x
  exact ⟨h.1, hr, trivial⟩
theorem tbN_at (ns : List NNode) (hl : ns.length ≤ 1048576) (hs : ∀ y ∈ ns, NNode.small y) (n : Int) (rs : List GRule) (hr : rs.length ≤ 1048576) : (tbN ns n rs).length ≤ 1048576 ∧ (∀ y ∈ tbN ns n rs, NNode.small y) ∧ (tbI ns n rs ≠ 0 → tbN ns n rs = ns) := by
  unfold tbN tbI
  cases h1 : setO ns n <;> cases h2 : tbB ns n rs <;> cases h3 : ns[(n - 1).toNat]? <;> first | exact ⟨hl, hs, fun _ => rfl⟩ | skip
  rename_i x
  refine ⟨by simpa using hl, fun y hy => ?_, fun h => absurd rfl h⟩
  rcases List.mem_or_eq_of_mem_set hy with h | h
  · exact hs y h
  · rw [h]; exact node_table hr (hs x (List.mem_of_getElem? h3))
theorem tbT_small (x : NEngine) (code n m : Int) (rs : List GRule) (hr : rs.length ≤ 1048576) (hs : x.small) : (setT x (tbN x.tree.nodes m rs) code n).small := by
  have := tbN_at x.tree.nodes (by obtain ⟨⟨ms0⟩, ⟨ms, qs⟩, fs, x0, x1, x2, x3⟩ := x; exact hs.1) (by obtain ⟨⟨ms0⟩, ⟨ms, qs⟩, fs, x0, x1, x2, x3⟩ := x; exact hs.2.1) m rs hr
  exact setT_small x _ code n hs this.1 this.2.1
set_option maxHeartbeats 16000000 in
theorem impl_EngTable_t (x : NEngine) (hs : x.small) (n : Int) (rs : List GRule) (hr : rs.length ≤ 1048576) : TCon Tryz.prog 24 [.agg x.ac, ai n, .agg [.view (vw GRule.c rs)]] (fun lo res rows => (∃ b0 b1 b2 b3, res = .tup [.agg (engR b0 b1 b2 b3 (setT x (tbN x.tree.nodes n rs) (tbI x.tree.nodes n rs) n)), ai (tbI x.tree.nodes n rs)] ∧ NewB lo (b0 ++ b1 ++ b2 ++ b3)) ∧ plainV res = true ∧ rows = []) := by
  have hsx := hs
  have hx0 := x
  obtain ⟨hl', hs', hc'⟩ : (tbN x.tree.nodes n rs).length ≤ 1048576 ∧ (∀ y ∈ tbN x.tree.nodes n rs, NNode.small y) ∧ (tbI x.tree.nodes n rs ≠ 0 → tbN x.tree.nodes n rs = x.tree.nodes) := by
    obtain ⟨⟨ns⟩, ⟨ms, qs⟩, fs, x0, x1, x2, x3⟩ := x
    obtain ⟨s0, s1, s2, s3, s4, s5, -⟩ := hs
    exact tbN_at ns s0 s1 n rs hr
  have c3 := fun bt => impl_changed_t x hs bt _ hl' hs' (tbI x.tree.nodes n rs) n hc'
  obtain ⟨⟨ns⟩, ⟨ms, qs⟩, fs, x0, x1, x2, x3⟩ := x
  obtain ⟨s0, s1, s2, s3, s4, s5, -⟩ := hs
  have c2 := impl_SetTable_t ns s0 s1 n rs hr
  simp only at hl' hs' hc'
  obtain ⟨N, hN⟩ : ∃ V, V = vwA NNode.ac ns := ⟨_, rfl⟩
  obtain ⟨M, hM⟩ : ∃ V, V = vwA NMemo.ac ms := ⟨_, rfl⟩
  obtain ⟨Q, hQ⟩ : ∃ V, V = vw GAsked.c qs := ⟨_, rfl⟩
  obtain ⟨V, hV⟩ : ∃ V, V = vw GFrame.c fs := ⟨_, rfl⟩
  obtain ⟨T, hT⟩ : ∃ V, V = vwA NNode.ac (tbN ns n rs) := ⟨_, rfl⟩
  obtain ⟨C, hC⟩ : ∃ V, V = tbI ns n rs := ⟨_, rfl⟩
  obtain ⟨MC, hMC⟩ : ∃ V, V = vwA NMemo.ac (kpM (tbN ns n rs) ms (tbI ns n rs) n) := ⟨_, rfl⟩
  obtain ⟨X, hX⟩ : ∃ V, V = vw GRule.c rs := ⟨_, rfl⟩
  replace c2 : TCon Tryz.prog 67 [.agg [.view N], ai n, .agg [.view (X)]] (fun lo res rows => (∃ b0, res = .tup [.agg [.fv b0 T], ai C] ∧ NewB lo b0) ∧ plainV res = true ∧ rows = []) := by rw [hN, hT, hC, hX]; exact c2
  replace c3 : ∀ bt, TCon Tryz.prog 60 [.agg [.view N, .view M, .view Q, .view V, .imm (.int .i64 x0), .imm (.int .i64 x1), .imm (.int .i64 x2), .imm (.bool x3)], .agg [.fv bt T], ai C, ai n] (fun lo res rows => (∃ b0 b1 b2 b3, res = .tup [.agg [.fv b0 T, .fv b1 MC, .fv b2 Q, .fv b3 V, .imm (.int .i64 x0), .imm (.int .i64 x1), .imm (.int .i64 x2), .imm (.bool x3)], ai C] ∧ ∀ l0, NewB l0 bt → l0 ≤ lo → (∀ b ∈ bt, b < lo) → NewB l0 (b0 ++ b1 ++ b2 ++ b3)) ∧ plainV res = true ∧ rows = []) := fun bt => by rw [hN, hM, hQ, hV, hT, hC, hMC]; exact c3 bt
  show TCon _ _ [.agg [.view (vwA NNode.ac ns), .view (vwA NMemo.ac ms), .view (vw GAsked.c qs), .view (vw GFrame.c fs), .imm (.int .i64 x0), .imm (.int .i64 x1), .imm (.int .i64 x2), .imm (.bool x3)], ai n, .agg [.view (vw GRule.c rs)]] (fun lo res rows => (∃ b0 b1 b2 b3, res = .tup [.agg [.fv b0 (vwA NNode.ac (tbN ns n rs)), .fv b1 (vwA NMemo.ac (kpM (tbN ns n rs) ms (tbI ns n rs) n)), .fv b2 (vw GAsked.c qs), .fv b3 (vw GFrame.c fs), .imm (.int .i64 x0), .imm (.int .i64 x1), .imm (.int .i64 x2), .imm (.bool x3)], ai (tbI ns n rs)] ∧ NewB lo (b0 ++ b1 ++ b2 ++ b3)) ∧ plainV res = true ∧ rows = [])
  rw [← hN, ← hM, ← hQ, ← hV, ← hMC, ← hT, ← hC, ← hX]
  clear hN hM hQ hV hT hC hMC hX s0 s1 s2 s3 s4 s5 hl' hs' hc' hsx hx0
  refine tcon_run ([]) ([]) (c := body Tryz.f24) fits Tryz.func24 (by kernel_rfl) (by kernel_rfl) (by rfl) (by kernel_rfl) fun β g eff hd F heff hhd hg hF => ?_
  cbv
  refine callT0 hg c2 (dwA_same rfl) (fun l1 res p1 p2 p3 ⟨bt, hres, hn⟩ => ?_)
  subst hres
  clear p2 p3
  cbv
  refine callT0 hg (c3 bt) (dwA_same rfl) (fun l2 res q1 q2 q3 ⟨b0, b1, b2, b3, hres, hn2⟩ => ?_)
  subst hres
  have u1 : ∀ b ∈ bt, b < l2 := fun b hb => q2 b (by simp [fpH, fpL, fpC, hb])
  clear q2 q3
  cbv
  exact finT0 hF rfl ⟨⟨b0, b1, b2, b3, rfl, hn2 _ (hn.mono p1) q1 u1⟩, rfl, rfl⟩
set_option maxHeartbeats 16000000 in
theorem spec_EngTable_t (x : NEngine) (hs : x.small) (n : Int) (rs : List GRule) (hr : rs.length ≤ 1048576) : TCon Tryz.prog 22 [.agg x.ac, ai n, .agg [.view (vw GRule.c rs)]] (fun lo res rows => (∃ b0 b1 b2 b3, res = .tup [.agg (engR b0 b1 b2 b3 (setT x (tbN x.tree.nodes n rs) (tbI x.tree.nodes n rs) n)), ai (tbI x.tree.nodes n rs)] ∧ NewB lo (b0 ++ b1 ++ b2 ++ b3)) ∧ plainV res = true ∧ rows = []) := by
  have c0 := spec_l22Copy_t x hs
  have hsx := hs
  have hx0 := x
  obtain ⟨hl', hs', hc'⟩ : (tbN x.tree.nodes n rs).length ≤ 1048576 ∧ (∀ y ∈ tbN x.tree.nodes n rs, NNode.small y) ∧ (tbI x.tree.nodes n rs ≠ 0 → tbN x.tree.nodes n rs = x.tree.nodes) := by
    obtain ⟨⟨ns⟩, ⟨ms, qs⟩, fs, x0, x1, x2, x3⟩ := x
    obtain ⟨s0, s1, s2, s3, s4, s5, -⟩ := hs
    exact tbN_at ns s0 s1 n rs hr
  obtain ⟨⟨ns⟩, ⟨ms, qs⟩, fs, x0, x1, x2, x3⟩ := x
  obtain ⟨s0, s1, s2, s3, s4, s5, -⟩ := hs
  have c2 := spec_SetTable_t ns s0 s1 n rs hr
  simp only at hl' hs' hc'
  have c3 := fun d0 d1 d2 d3 => spec_l22Forget_t ⟨⟨tbN ns n rs⟩, ⟨ms, qs⟩, fs, x0, x1, x2, x3⟩ ⟨hl', hs', s2, s3, s4, s5, trivial⟩ d0 d1 d2 d3 n (tbI ns n rs)
  obtain ⟨N, hN⟩ : ∃ V, V = vwA NNode.ac ns := ⟨_, rfl⟩
  obtain ⟨M, hM⟩ : ∃ V, V = vwA NMemo.ac ms := ⟨_, rfl⟩
  obtain ⟨Q, hQ⟩ : ∃ V, V = vw GAsked.c qs := ⟨_, rfl⟩
  obtain ⟨V, hV⟩ : ∃ V, V = vw GFrame.c fs := ⟨_, rfl⟩
  obtain ⟨T, hT⟩ : ∃ V, V = vwA NNode.ac (tbN ns n rs) := ⟨_, rfl⟩
  obtain ⟨C, hC⟩ : ∃ V, V = tbI ns n rs := ⟨_, rfl⟩
  obtain ⟨MC, hMC⟩ : ∃ V, V = vwA NMemo.ac (kpM (tbN ns n rs) ms (tbI ns n rs) n) := ⟨_, rfl⟩
  obtain ⟨X, hX⟩ : ∃ V, V = vw GRule.c rs := ⟨_, rfl⟩
  replace c0 : TCon Tryz.prog 34 [.agg [.view N, .view M, .view Q, .view V, .imm (.int .i64 x0), .imm (.int .i64 x1), .imm (.int .i64 x2), .imm (.bool x3)]] (fun lo res rows => (∃ b0 b1 b2 b3, res = .t (.agg [.fv b0 N, .fv b1 M, .fv b2 Q, .fv b3 V, .imm (.int .i64 x0), .imm (.int .i64 x1), .imm (.int .i64 x2), .imm (.bool x3)]) ∧ NewB lo (b0 ++ b1 ++ b2 ++ b3)) ∧ plainV res = true ∧ rows = []) := by rw [hN, hM, hQ, hV]; exact c0
  replace c2 : TCon Tryz.prog 65 [.agg [.view N], ai n, .agg [.view (X)]] (fun lo res rows => (∃ b0, res = .tup [.agg [.fv b0 T], ai C] ∧ NewB lo b0) ∧ plainV res = true ∧ rows = []) := by rw [hN, hT, hC, hX]; exact c2
  replace c3 : ∀ d0 d1 d2 d3 : List Nat, TCon Tryz.prog 56 [.agg [.fv d0 T, .fv d1 M, .fv d2 Q, .fv d3 V, .imm (.int .i64 x0), .imm (.int .i64 x1), .imm (.int .i64 x2), .imm (.bool x3)], ai n, ai C] (fun lo res rows => (∃ b0 b1 b2 b3, res = .tup [.agg [.fv b0 T, .fv b1 MC, .fv b2 Q, .fv b3 V, .imm (.int .i64 x0), .imm (.int .i64 x1), .imm (.int .i64 x2), .imm (.bool x3)], ai C] ∧ ∀ l0, NewB l0 (d0 ++ d1 ++ d2 ++ d3) → l0 ≤ lo → (∀ b ∈ d0 ++ d1 ++ d2 ++ d3, b < lo) → NewB l0 (b0 ++ b1 ++ b2 ++ b3)) ∧ plainV res = true ∧ rows = []) := fun d0 d1 d2 d3 => by rw [hM, hQ, hV, hT, hC, hMC]; exact c3 d0 d1 d2 d3
  show TCon _ _ [.agg [.view (vwA NNode.ac ns), .view (vwA NMemo.ac ms), .view (vw GAsked.c qs), .view (vw GFrame.c fs), .imm (.int .i64 x0), .imm (.int .i64 x1), .imm (.int .i64 x2), .imm (.bool x3)], ai n, .agg [.view (vw GRule.c rs)]] (fun lo res rows => (∃ b0 b1 b2 b3, res = .tup [.agg [.fv b0 (vwA NNode.ac (tbN ns n rs)), .fv b1 (vwA NMemo.ac (kpM (tbN ns n rs) ms (tbI ns n rs) n)), .fv b2 (vw GAsked.c qs), .fv b3 (vw GFrame.c fs), .imm (.int .i64 x0), .imm (.int .i64 x1), .imm (.int .i64 x2), .imm (.bool x3)], ai (tbI ns n rs)] ∧ NewB lo (b0 ++ b1 ++ b2 ++ b3)) ∧ plainV res = true ∧ rows = [])
  rw [← hN, ← hM, ← hQ, ← hV, ← hMC, ← hT, ← hC, ← hX]
  clear hN hM hQ hV hT hC hMC hX s0 s1 s2 s3 s4 s5 hl' hs' hc' hsx hx0
  refine tcon_run ([]) ([]) (c := body Tryz.f22) fits Tryz.func22 (by kernel_rfl) (by kernel_rfl) (by rfl) (by kernel_rfl) fun β g eff hd F heff hhd hg hF => ?_
  cbv
  refine callT0 hg c0 (dwA_same rfl) (fun l1 res p1 p2 p3 ⟨b0, b1, b2, b3, hres, hn⟩ => ?_)
  subst hres
  clear p2 p3
  cbv
  refine callT0 hg c2 ⟨⟨.inl rfl, trivial⟩, rfl, dwL_same rfl, trivial⟩ (fun l2 res q1 q2 q3 ⟨b4, hres, hn2⟩ => ?_)
  subst hres
  have u1 : ∀ b ∈ b1 ++ b2 ++ b3, b < l2 := fun b hb => q2 b (by simp only [List.mem_append] at hb; rcases hb with (h | h) | h <;> simp [fpH, fpL, fpC, h])
  clear q2 q3
  have hn3 : NewB β.lo (b4 ++ b1 ++ b2 ++ b3) := by
    have h1 : NewB l1 (b1 ++ b2 ++ b3) := hn.sub (by rw [List.append_assoc, List.append_assoc, List.append_assoc]; exact List.sublist_append_right _ _)
    exact ((h1.mono p1).app q1 hn2 u1).perm (List.perm_iff_count.2 fun a => by simp only [List.count_append]; omega)
  cbv
  refine callT0 hg (c3 b4 b1 b2 b3) (dwA_same rfl) (fun l3 res r1 r2 r3 ⟨e0, e1, e2, e3, hres, hn4⟩ => ?_)
  subst hres
  have u2 : ∀ b ∈ b4 ++ b1 ++ b2 ++ b3, b < l3 := fun b hb => r2 b (by simp only [List.mem_append] at hb; rcases hb with ((h | h) | h) | h <;> simp [fpH, fpL, fpC, h])
  clear r2 r3
  cbv
  exact finT0 hF rfl ⟨⟨e0, e1, e2, e3, rfl, hn4 _ hn3 r1 u2⟩, rfl, rfl⟩
theorem laws_markTable_m (k0 K1 : Int) (b0 : List Nat) (V0 R0 : List (List AC)) (hm0 : MCon Tryz.prog 69 [.c (.fv b0 V0), ai k0] [(b0, V0, R0)] (.int .i64 K1)) (kk0 : ∃ k : Nat, (∀ x ∈ V0, x.length = k) ∧ ∀ x ∈ R0, x.length = k) (ln0 : R0.length = V0.length) : MCon Tryz.prog 26 [.agg [.fv b0 V0], ai k0] [(b0, V0, R0)] (.int .i64 K1) := by
  refine mcon_wrap (fun u hu => ?_) ?_
  · rw [List.mem_singleton.1 hu]; exact ⟨kk0, ln0⟩
  obtain ⟨β, hβ⟩ : ∃ β : BP, β = ⟨0, fun b => ∃ u ∈ [(b0, V0, R0)], b ∈ u.1⟩ := ⟨_, rfl⟩
  have hx0 : ∀ b ∈ b0, β.ex b := by rw [hβ]; exact fun b hb => ⟨_, List.mem_cons_self .., hb⟩
  rw [← hβ]
  clear hβ
  refine conx_run4 (h := []) [(1, .hand)] [] (c := body Tryz.f26) fits Tryz.func26 (by kernel_rfl) (by kernel_rfl) (bl (by rfl)) (by kernel_rfl) fun g eff hd F heff hhd hg hF => ?_
  cbv
  refine hand_mark hg hhd fits 3 (by kernel_rfl) (fun mk hmk => ?_)
  cbv
  subst hmk
  refine ⟨_, _, _, [(b0, V0, R0)], _, [(2, .t (.c (.ptr 0 0 0))), (4, .t (ai 0))], [.bx 75 1 [.fv b0 R0]], rfl, rfl, rfl, rfl, rfl, hm0, fun u hu b hb => hx0 b (by rw [List.mem_singleton.1 hu] at hb; exact hb), fun u hu => ?_, ⟨.inr (.inl ⟨rfl, trivial⟩), .inr (.inl ⟨rfl, trivial⟩), trivial⟩, ⟨⟨rfl, rfl, .inr (.inr ⟨_, List.mem_singleton.2 rfl, rfl, rfl⟩), trivial⟩, trivial⟩, ?_⟩
  · rw [List.mem_singleton.1 hu]; exact ⟨_, List.mem_cons_self .., List.mem_singleton.2 rfl⟩
  cbv
  refine finW hF 0 _ _ [.fv b0 R0] rfl rfl (fun u hu => ?_)
  rw [List.mem_singleton.1 hu]; exact List.mem_cons_self ..
theorem markTable_m (x : NTable) (hs : x.small) (k0 : Int) (h0 : 0 ≤ k0) (h1 : k0 ≤ 1000000000000000) : ∃ (R0 : List (List AC)) (K : Int), k0 ≤ K ∧ K ≤ k0 + 100000000000000 ∧ ∀ b0 : List Nat, b0.Nodup → MCon Tryz.prog 26 [.agg [.fv b0 (vw GRule.c x.rules)], ai k0] [(b0, vw GRule.c x.rules, R0)] (.int .i64 K) := by
  obtain ⟨rs⟩ := x
  have hl : rs.length ≤ 1048576 := hs.1
  have n0 : (vw GRule.c rs).length = rs.length := vw_length _ _
  refine ⟨vw GRule.c (marksRule k0 (vw GRule.c rs).length), k0 + 3 * ((vw GRule.c rs).length : Int), by omega, by omega, fun b0 hnd => laws_markTable_m k0 _ b0 _ _ (laws_markRuleS_n k0 b0 (vw GRule.c rs) (by omega) (vw_k (c := GRule.c) (k := 3) fun _ => rfl) (vw_imm _ _) hnd h0 (by omega)) ⟨3, vw_k (c := GRule.c) (k := 3) fun _ => rfl, vw_k (c := GRule.c) (k := 3) fun _ => rfl⟩ (by rw [vw_length]; simp [marksRule])⟩
end Go.Proofs.YtenbloaopcfdlaaGreat
