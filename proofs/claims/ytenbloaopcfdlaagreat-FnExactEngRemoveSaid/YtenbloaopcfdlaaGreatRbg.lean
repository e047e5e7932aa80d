/- Engines of one's own making; marks on engines, and what is found of them. A node's table is set. A child is taken out. -/
import Derived.Test.YtenbloaopcfdlaaGreatRbf
namespace Go.Proofs.YtenbloaopcfdlaaGreat
open Go.ChangeShapes Go.WideShapes Go.ChangeAt Go.RowKit Am
set_option linter.unusedVariables false
set_option linter.unusedSimpArgs false
set_option maxRecDepth 100000
theorem pcon_of_tcon2 {P : Program} {f : FuncId} {args : List AT} {y : AT} {z : Int} {Q : Nat → AT → Prop} (hc : TCon P f args fun lo res rows => (∃ x, res = .tup [x, ai z] ∧ dwT x y ∧ Q lo x) ∧ plainV res = true ∧ rows = []) : PCon P f args fun res rows => res = .tup [y, ai z] ∧ rows = [] :=
  ⟨(hc 0).1, fun F w m vs hH hl ha => ((hc 0).2 F w m vs hH hl ha).mono fun e w' ⟨v, res, h', m', F', he, ⟨rows, hrows, ⟨x, hx, hd, hq⟩, hp, hr⟩, hG, hs, hv⟩ => ⟨v, .tup [y, ai z], h', m', F', he, ⟨rows, hrows, rfl, hr⟩, hG, hs, by
    subst hx
    obtain ⟨vs, rfl, h1⟩ := hv
    refine ⟨vs, rfl, h1.1, fun j x' hj => ?_⟩
    cases j with
    | zero =>
      obtain ⟨u, hu, hru⟩ := h1.2 0 x rfl
      cases hj
      exact ⟨u, hu, RT.ext (fun _ h => h) (fun _ _ => rfl) (fun r => ⟨fun h => by simp at h, fun ab h => by simp at h⟩) (hd.rt hru)⟩
    | succ j =>
      cases j with
      | zero => cases hj; exact h1.2 1 (ai z) rfl
      | succ j => simp at hj⟩⟩
set_option maxHeartbeats 8000000 in
theorem laws_toEngine_t (x : NEngine) (hs : x.small) : TCon Tryz.prog 11 [.agg x.ac] fun lo res rows => (∃ b0 b1 b2 b3, res = .t (.agg (engR b0 b1 b2 b3 x)) ∧ NewB lo (b0 ++ b1 ++ b2 ++ b3)) ∧ plainV res = true ∧ rows = [] := by
  obtain ⟨⟨ns⟩, ⟨ms, qs⟩, fs, x0, x1, x2, x3⟩ := x
  obtain ⟨s0, s1, s2, s3, s4, s5, -⟩ := hs
  have c0 := laws_toTree_t ⟨ns⟩ ⟨s0, s1, trivial⟩
  have c1 := laws_toKept_t ⟨ms, qs⟩ ⟨s2, s3, s4, trivial⟩
  have c2 := toRow (laws_toFrameS_a fs s5)
  show TCon _ _ [.agg [.view (vwA NNode.ac ns), .view (vwA NMemo.ac ms), .view (vw GAsked.c qs), .view (vw GFrame.c fs), .imm (.int .i64 x0), .imm (.int .i64 x1), .imm (.int .i64 x2), .imm (.bool x3)]] (fun lo res rows => (∃ b0 b1 b2 b3, res = .t (.agg [.fv b0 (vwA NNode.ac ns), .fv b1 (vwA NMemo.ac ms), .fv b2 (vw GAsked.c qs), .fv b3 (vw GFrame.c fs), .imm (.int .i64 x0), .imm (.int .i64 x1), .imm (.int .i64 x2), .imm (.bool x3)]) ∧ NewB lo (b0 ++ b1 ++ b2 ++ b3)) ∧ plainV res = true ∧ rows = [])
  obtain ⟨N, hN⟩ : ∃ V, V = vwA NNode.ac ns := ⟨_, rfl⟩
  obtain ⟨M, hM⟩ : ∃ V, V = vwA NMemo.ac ms := ⟨_, rfl⟩
  obtain ⟨Q, hQ⟩ : ∃ V, V = vw GAsked.c qs := ⟨_, rfl⟩
  obtain ⟨V, hV⟩ : ∃ V, V = vw GFrame.c fs := ⟨_, rfl⟩
  have hVl : V.length = fs.length := by rw [hV, vw_length]
  have iV : immE V = true := by rw [hV]; exact vw_imm _ _
  have kV : ∀ y ∈ V, y.length = 5 := by rw [hV]; exact vw_k (c := GFrame.c) (k := 5) fun _ => rfl
  have dV : ∀ y ∈ V, y.all dat = true := by rw [hV]; exact vw_dat
  simp only at c0 c1
  replace c0 : TCon Tryz.prog 36 [.agg [.view N]] (fun lo res rows => (∃ b, res = .t (.agg [.fv b N]) ∧ NewB lo b) ∧ plainV res = true ∧ rows = []) := by rw [hN]; exact c0
  replace c1 : TCon Tryz.prog 37 [.agg [.view M, .view Q]] (fun lo res rows => (∃ b0 b1, res = .t (.agg [.fv b0 M, .fv b1 Q]) ∧ NewB lo (b0 ++ b1)) ∧ plainV res = true ∧ rows = []) := by rw [hM, hQ]; exact c1
  rw [← hV] at c2
  rw [← hN, ← hM, ← hQ, ← hV]
  clear hN hM hQ s0 s1 s2 s3 s4 s5
  refine tcon_run ([]) ([]) (c := body Tryz.f11) fits Tryz.func11 (by kernel_rfl) (by kernel_rfl) (by rfl) (by kernel_rfl) fun β g eff hd F heff hhd hg hF => ?_
  cbv
  refine callT0 hg c0 (dwA_same rfl) (fun l1 res p1 p2 p3 ⟨b0, hres, hn0⟩ => ?_)
  subst hres
  clear p2 p3
  cbv
  refine callT0 hg c1 (dwA_same rfl) (fun l2 res q1 q2 q3 ⟨b1, b2, hres, hn1⟩ => ?_)
  subst hres
  have u1 : ∀ b ∈ b0, b < l2 := fun b hb => q2 b (by simp [fpH, fpL, fpC, hb])
  clear q2 q3
  cbv
  refine callRow hg c2 (dat_data rfl) iV ?_
  cbv
  refine finTS hF fun bl hbl => ⟨[.agg [.fv b0 N, .fv b1 M, .fv b2 Q, .fv (hd1 (bl 3) V) V, .imm (.int .i64 x0), .imm (.int .i64 x1), .imm (.int .i64 x2), .imm (.bool x3)]], .agg (.cons (.fv _ _) (.cons (.fv _ _) (.cons (.fv _ _) (.cons (ress_immRow (r := 3) (ab := ⟨_, _, V⟩) rfl iV) (.cons (.imm _) (.cons (.imm _) (.cons (.imm _) (.cons (.imm _) .nil)))))))) .nil, ⟨_, _, _, _, rfl, ?_⟩, rfl, rfl⟩
  have hA := (hn0.mono p1).app q1 hn1 u1
  have t0 := blk_tail hbl (r := 3) (ab := ⟨_, _, V⟩) rfl (List.mem_singleton.2 rfl) (ps := b0) (ys := N) (List.mem_cons_self ..) (hn0.mono p1)
  have t1 := blk_tail hbl (r := 3) (ab := ⟨_, _, V⟩) rfl (List.mem_singleton.2 rfl) (ps := b1) (ys := M) (List.mem_cons_of_mem _ (List.mem_cons_self ..)) (hA.sub ((List.sublist_append_left _ _).trans (List.sublist_append_right _ _)))
  have t2 := blk_tail hbl (r := 3) (ab := ⟨_, _, V⟩) rfl (List.mem_singleton.2 rfl) (ps := b2) (ys := Q) (List.mem_cons_of_mem _ (List.mem_cons_of_mem _ (List.mem_cons_self ..))) (hA.sub ((List.sublist_append_right _ _).trans (List.sublist_append_right _ _)))
  have hB : NewB β.lo (b0 ++ b1 ++ b2) := by simpa [List.append_assoc] using hA
  refine ⟨List.nodup_append.2 ⟨hB.1, (List.nodup_append.1 t0.1).2.1, fun a ha b hb => ?_⟩, fun b hb => (List.mem_append.1 hb).elim (hB.2 b) fun h => t0.2 b (List.mem_append_right _ h)⟩
  rcases List.mem_append.1 ha with h | h
  · rcases List.mem_append.1 h with h | h
    · exact (List.nodup_append.1 t0.1).2.2 a h b hb
    · exact (List.nodup_append.1 t1.1).2.2 a h b hb
  · exact (List.nodup_append.1 t2.1).2.2 a h b hb
set_option maxHeartbeats 4000000 in
theorem laws_markEngine_m (k0 K1 K2 K3 : Int) (b0 b1 b2 b3 : List Nat) (N M Q V R0 R1 R2 R3 : List (List AC)) (x0 x1 x2 : Int) (x3 : Bool)
    (hm0 : MCon Tryz.prog 47 [.agg [.fv b0 N], ai k0] [(b0, N, R0)] (.int .i64 K1)) (hm1 : MCon Tryz.prog 48 [.agg [.fv b1 M, .fv b2 Q], ai K1] [(b1, M, R1), (b2, Q, R2)] (.int .i64 K2)) (hm2 : MCon Tryz.prog 49 [.c (.fv b3 V), ai K2] [(b3, V, R3)] (.int .i64 K3))
    (hkk : ∀ u ∈ ([(b0, N, R0), (b1, M, R1), (b2, Q, R2), (b3, V, R3)] : MU), (∃ k : Nat, (∀ x ∈ u.2.1, x.length = k) ∧ ∀ x ∈ u.2.2, x.length = k) ∧ u.2.2.length = u.2.1.length) (hnd : (b0 ++ b1 ++ b2 ++ b3).Nodup) :
    MCon Tryz.prog 15 [.agg [.fv b0 N, .fv b1 M, .fv b2 Q, .fv b3 V, .imm (.int .i64 x0), .imm (.int .i64 x1), .imm (.int .i64 x2), .imm (.bool x3)], ai k0] [(b0, N, R0), (b1, M, R1), (b2, Q, R2), (b3, V, R3)] (.int .i64 K3) := by
  obtain ⟨hn012, hn3, hd3⟩ := List.nodup_append.1 hnd
  obtain ⟨hn01, hn2, hd2⟩ := List.nodup_append.1 hn012
  obtain ⟨hn0, hn1, hd1⟩ := List.nodup_append.1 hn01
  refine mcon_wrap hkk ?_
  clear hkk
  obtain ⟨β, hβ⟩ : ∃ β : BP, β = ⟨0, fun b => ∃ u ∈ [(b0, N, R0), (b1, M, R1), (b2, Q, R2), (b3, V, R3)], b ∈ u.1⟩ := ⟨_, rfl⟩
  have hx0 : ∀ b ∈ b0, β.ex b := by rw [hβ]; exact fun b hb => ⟨_, List.mem_cons_self .., hb⟩
  have hx1 : ∀ b ∈ b1, β.ex b := by rw [hβ]; exact fun b hb => ⟨_, List.mem_cons_of_mem _ (List.mem_cons_self ..), hb⟩
  have hx2 : ∀ b ∈ b2, β.ex b := by rw [hβ]; exact fun b hb => ⟨_, List.mem_cons_of_mem _ (List.mem_cons_of_mem _ (List.mem_cons_self ..)), hb⟩
  have hx3 : ∀ b ∈ b3, β.ex b := by rw [hβ]; exact fun b hb => ⟨_, List.mem_cons_of_mem _ (List.mem_cons_of_mem _ (List.mem_cons_of_mem _ (List.mem_cons_self ..))), hb⟩
  have e01 : ∀ b ∈ b0, b ∉ b1 := fun b h h' => hd1 b h b h' rfl
  have e02 : ∀ b ∈ b0, b ∉ b2 := fun b h h' => hd2 b (List.mem_append_left _ h) b h' rfl
  have e12 : ∀ b ∈ b1, b ∉ b2 := fun b h h' => hd2 b (List.mem_append_right _ h) b h' rfl
  have e03 : ∀ b ∈ b0, b ∉ b3 := fun b h h' => hd3 b (List.mem_append_left _ (List.mem_append_left _ h)) b h' rfl
  have e13 : ∀ b ∈ b1, b ∉ b3 := fun b h h' => hd3 b (List.mem_append_left _ (List.mem_append_right _ h)) b h' rfl
  have e23 : ∀ b ∈ b2, b ∉ b3 := fun b h h' => hd3 b (List.mem_append_right _ h) b h' rfl
  rw [← hβ]
  clear hβ hd1 hd2 hd3 hn01 hn012
  refine conx_run4 (h := []) [(1, .hand), (2, .hand), (3, .hand)] [] (c := body Tryz.f15) fits Tryz.func15 (by kernel_rfl) (by kernel_rfl) (bl (by rfl)) (by kernel_rfl) fun g eff hd F heff hhd hg hF => ?_
  cbv
  refine hand_mark hg hhd fits 3 (by kernel_rfl) (fun mk hmk => ?_)
  cbv
  subst hmk
  refine ⟨_, _, _, [(b0, N, R0)], _, [(2, .t (.c (.ptr 0 0 0))), (4, .t (ai 0))], [.bx 50 8 [.fv b0 R0, .fv b1 M, .fv b2 Q, .fv b3 V, .imm (.int .i64 x0), .imm (.int .i64 x1), .imm (.int .i64 x2), .imm (.bool x3)]], rfl, rfl, rfl, rfl, rfl, hm0, fun u hu b hb => hx0 b (by rw [List.mem_singleton.1 hu] at hb; exact hb), fun u hu => by rw [List.mem_singleton.1 hu]; exact ⟨_, List.mem_cons_self .., List.mem_singleton.2 rfl⟩, ⟨.inr (.inl ⟨rfl, trivial⟩), .inr (.inl ⟨rfl, trivial⟩), trivial⟩, ⟨⟨rfl, rfl, .inr (.inr ⟨_, List.mem_cons_self .., rfl, rfl⟩), .inr (.inl ⟨rfl, fun b hb u hu => by rw [List.mem_singleton.1 hu]; exact fun h => e01 b h hb⟩), .inr (.inl ⟨rfl, fun b hb u hu => by rw [List.mem_singleton.1 hu]; exact fun h => e02 b h hb⟩), .inr (.inl ⟨rfl, fun b hb u hu => by rw [List.mem_singleton.1 hu]; exact fun h => e03 b h hb⟩), .inr (.inl ⟨rfl, trivial⟩), .inr (.inl ⟨rfl, trivial⟩), .inr (.inl ⟨rfl, trivial⟩), .inr (.inl ⟨rfl, trivial⟩), trivial⟩, trivial⟩, ?_⟩
  cbv
  refine hand_mark hg hhd fits 3 (by kernel_rfl) (fun mk hmk => ?_)
  cbv
  subst hmk
  refine ⟨_, _, _, [(b1, M, R1), (b2, Q, R2)], _, [(2, .t (.c (.ptr 0 0 0))), (4, .t (ai 0))], [.bx 50 8 [.fv b0 R0, .fv b1 R1, .fv b2 R2, .fv b3 V, .imm (.int .i64 x0), .imm (.int .i64 x1), .imm (.int .i64 x2), .imm (.bool x3)]], rfl, rfl, rfl, rfl, rfl, hm1, fun u hu b hb => by rcases List.mem_cons.1 hu with rfl | hu; exact hx1 b hb; rw [List.mem_singleton.1 hu] at hb; exact hx2 b hb, fun u hu => by rcases List.mem_cons.1 hu with rfl | hu; exact ⟨_, List.mem_cons_self .., List.mem_cons_self ..⟩; rw [List.mem_singleton.1 hu]; exact ⟨_, List.mem_cons_self .., List.mem_cons_of_mem _ (List.mem_cons_self ..)⟩, ⟨.inr (.inl ⟨rfl, trivial⟩), .inr (.inl ⟨rfl, trivial⟩), trivial⟩, ⟨⟨rfl, rfl, .inr (.inl ⟨rfl, fun b hb u hu => by rcases List.mem_cons.1 hu with rfl | hu; exact e01 b hb; rw [List.mem_singleton.1 hu]; exact e02 b hb⟩), .inr (.inr ⟨_, List.mem_cons_self .., rfl, rfl⟩), .inr (.inr ⟨_, List.mem_cons_of_mem _ (List.mem_cons_self ..), rfl, rfl⟩), .inr (.inl ⟨rfl, fun b hb u hu => by rcases List.mem_cons.1 hu with rfl | hu; exact fun h => e13 b h hb; rw [List.mem_singleton.1 hu]; exact fun h => e23 b h hb⟩), .inr (.inl ⟨rfl, trivial⟩), .inr (.inl ⟨rfl, trivial⟩), .inr (.inl ⟨rfl, trivial⟩), .inr (.inl ⟨rfl, trivial⟩), trivial⟩, trivial⟩, ?_⟩
  cbv
  refine hand_mark hg hhd fits 3 (by kernel_rfl) (fun mk hmk => ?_)
  cbv
  subst hmk
  refine ⟨_, _, _, [(b3, V, R3)], _, [(2, .t (.c (.ptr 0 0 0))), (4, .t (ai 0))], [.bx 50 8 [.fv b0 R0, .fv b1 R1, .fv b2 R2, .fv b3 R3, .imm (.int .i64 x0), .imm (.int .i64 x1), .imm (.int .i64 x2), .imm (.bool x3)]], rfl, rfl, rfl, rfl, rfl, hm2, fun u hu b hb => hx3 b (by rw [List.mem_singleton.1 hu] at hb; exact hb), fun u hu => by rw [List.mem_singleton.1 hu]; exact ⟨_, List.mem_cons_self .., List.mem_singleton.2 rfl⟩, ⟨.inr (.inl ⟨rfl, trivial⟩), .inr (.inl ⟨rfl, trivial⟩), trivial⟩, ⟨⟨rfl, rfl, .inr (.inl ⟨rfl, fun b hb u hu => by rw [List.mem_singleton.1 hu]; exact e03 b hb⟩), .inr (.inl ⟨rfl, fun b hb u hu => by rw [List.mem_singleton.1 hu]; exact e13 b hb⟩), .inr (.inl ⟨rfl, fun b hb u hu => by rw [List.mem_singleton.1 hu]; exact e23 b hb⟩), .inr (.inr ⟨_, List.mem_cons_self .., rfl, rfl⟩), .inr (.inl ⟨rfl, trivial⟩), .inr (.inl ⟨rfl, trivial⟩), .inr (.inl ⟨rfl, trivial⟩), .inr (.inl ⟨rfl, trivial⟩), trivial⟩, trivial⟩, ?_⟩
  cbv
  refine finW hF 0 _ _ [.fv b0 R0, .fv b1 R1, .fv b2 R2, .fv b3 R3, .imm (.int .i64 x0), .imm (.int .i64 x1), .imm (.int .i64 x2), .imm (.bool x3)] rfl rfl (fun u hu => ?_)
  rcases List.mem_cons.1 hu with rfl | hu
  · exact List.mem_cons_self ..
  rcases List.mem_cons.1 hu with rfl | hu
  · exact List.mem_cons_of_mem _ (List.mem_cons_self ..)
  rcases List.mem_cons.1 hu with rfl | hu
  · exact List.mem_cons_of_mem _ (List.mem_cons_of_mem _ (List.mem_cons_self ..))
  rw [List.mem_singleton.1 hu]; exact List.mem_cons_of_mem _ (List.mem_cons_of_mem _ (List.mem_cons_of_mem _ (List.mem_cons_self ..)))
theorem laws_heldTree_n (k0 K1 : Int) (R0 : List (List AC)) (h0 : 0 ≤ K1) (c0 : PCon Tryz.prog 94 [.c (.view R0), ai k0] (fun res rows => res = .t (ai K1) ∧ rows = [])) : PCon Tryz.prog 50 [.agg [.view R0], ai k0] fun res rows => res = .t (ai K1) ∧ rows = [] := by
  refine pcon_run (c := body Tryz.f50) fits Tryz.func50 (by kernel_rfl) (by kernel_rfl) (by rfl) (by kernel_rfl) fun g F hg hF => ?_
  cbv
  have n1 : g .q .lss K1 0 = false := by rw [goLss hg]; exact decide_eq_false (by omega)
  refine call0 hg c0 rfl rfl ?_
  cbv
  rw [n1]
  cbv
  exact fin0i hF rfl
theorem laws_heldEngine_n (k0 K1 K2 K3 : Int) (R0 R1 R2 R3 : List (List AC)) (x0 x1 x2 : Int) (x3 : Bool) (h1 : 0 ≤ K1) (h2 : 0 ≤ K2) (h3 : 0 ≤ K3) (c0 : PCon Tryz.prog 50 [.agg [.view R0], ai k0] (fun res rows => res = .t (ai K1) ∧ rows = [])) (c1 : PCon Tryz.prog 51 [.agg [.view R1, .view R2], ai K1] (fun res rows => res = .t (ai K2) ∧ rows = [])) (c2 : PCon Tryz.prog 52 [.c (.view R3), ai K2] (fun res rows => res = .t (ai K3) ∧ rows = [])) :
    PCon Tryz.prog 16 [.agg [.view R0, .view R1, .view R2, .view R3, .imm (.int .i64 x0), .imm (.int .i64 x1), .imm (.int .i64 x2), .imm (.bool x3)], ai k0] fun res rows => res = .t (ai K3) ∧ rows = [] := by
  refine pcon_run (c := body Tryz.f16) fits Tryz.func16 (by kernel_rfl) (by kernel_rfl) (by rfl) (by kernel_rfl) fun g F hg hF => ?_
  cbv
  have n1 : g .q .lss K1 0 = false := by rw [goLss hg]; exact decide_eq_false (by omega)
  have n2 : g .q .lss K2 0 = false := by rw [goLss hg]; exact decide_eq_false (by omega)
  have n3 : g .q .lss K3 0 = false := by rw [goLss hg]; exact decide_eq_false (by omega)
  refine call0 hg c0 rfl rfl ?_
  cbv
  rw [n1]
  cbv
  refine call0 hg c1 rfl rfl ?_
  cbv
  rw [n2]
  cbv
  refine call0 hg c2 rfl rfl ?_
  cbv
  rw [n3]
  cbv
  exact fin0i hF rfl
theorem markEngine_x (x : NEngine) (hs : x.small) (k0 : Int) (h0 : 0 ≤ k0) (h1 : k0 ≤ 1000000000000000) : ∃ (R0 R1 R2 R3 : List (List AC)) (K : Int), k0 ≤ K ∧ K ≤ k0 + 100000000000000 ∧
    (∀ b0 b1 b2 b3 : List Nat, (b0 ++ b1 ++ b2 ++ b3).Nodup → MCon Tryz.prog 15 [.agg (engR b0 b1 b2 b3 x), ai k0] [(b0, vwA NNode.ac x.tree.nodes, R0), (b1, vwA NMemo.ac x.kept.memos, R1), (b2, vw GAsked.c x.kept.asked, R2), (b3, vw GFrame.c x.frames, R3)] (.int .i64 K)) ∧
    PCon Tryz.prog 16 [.agg [.view R0, .view R1, .view R2, .view R3, .imm (.int .i64 x.root), .imm (.int .i64 x.wide), .imm (.int .i64 x.high), .imm (.bool x.rtl)], ai k0] (fun res rows => res = .t (ai K) ∧ rows = []) := by
  obtain ⟨⟨ns⟩, ⟨ms, qs⟩, fs, x0, x1, x2, x3⟩ := x
  obtain ⟨s0, s1, s2, s3, s4, s5, -⟩ := hs
  obtain ⟨ls, hls⟩ : ∃ ls, ls = ns.map fun m => (m.kids.length, m.table.rules.length) := ⟨_, rfl⟩
  have hll : ls.length = ns.length := by rw [hls, List.length_map]
  have hls1 : ∀ l ∈ ls, l.1 ≤ 1048576 ∧ l.2 ≤ 1048576 := fun l hl => by
    rw [hls] at hl
    obtain ⟨m, hm, rfl⟩ := List.mem_map.1 hl
    have := s1 m hm
    obtain ⟨a0, a1, ⟨a2, a3, a4, a5, a6, a7, a8, a9, a10, a11, a12, ⟨a13, a14⟩, ⟨a15, a16⟩, ⟨a17, a18⟩, ⟨a19, a20⟩, ⟨a21, a22⟩, ⟨a23, a24⟩, ⟨a25, a26⟩, a27, ⟨⟨a28, a29⟩, ⟨a30, a31⟩, ⟨a32, a33⟩, ⟨a34, a35⟩, ⟨a36, a37⟩, ⟨a38, a39⟩⟩, ⟨⟨a40, a41⟩, ⟨a42, a43⟩, ⟨a44, a45⟩, ⟨a46, a47⟩, ⟨a48, a49⟩, ⟨a50, a51⟩⟩, ⟨a52, a53, a54, a55⟩, ⟨a56, a57, a58, a59⟩, a60, a61⟩, a62, ⟨a63⟩⟩ := m
    exact ⟨this.1, this.2.1⟩
  obtain ⟨K1, hK1⟩ : ∃ K, K = endMkNode k0 ls := ⟨_, rfl⟩
  have k1 : k0 ≤ K1 := hK1 ▸ endMkNode_le ls k0
  have k1' : K1 ≤ k0 + 10000000000000 := by
    have := endMkNode_bound ls k0 hls1
    rw [← hK1, hll] at this
    have : (ns.length : Int) ≤ 1048576 := by omega
    omega
  obtain ⟨L, hL⟩ : ∃ L, L = ms.map fun m => m.box.frames.length := ⟨_, rfl⟩
  obtain ⟨L2, hL2⟩ : ∃ L, L = qs.map fun _ => () := ⟨_, rfl⟩
  have hlL : L.length = ms.length := by rw [hL, List.length_map]
  have hlL2 : L2.length = qs.length := by rw [hL2, List.length_map]
  have hlm : ∀ l ∈ L, l ≤ 1048576 := fun l hl => by
    rw [hL] at hl
    obtain ⟨m, hm, rfl⟩ := List.mem_map.1 hl
    have := s3 m hm
    obtain ⟨a0, ⟨a1, a2⟩, ⟨a3, a4⟩, a5, ⟨a6, a7, a8, a9⟩⟩ := m
    exact this.1
  obtain ⟨K2, hK2⟩ : ∃ K, K = endMkAsked (endMkMemo K1 L) L2 := ⟨_, rfl⟩
  have k20 := endMkMemo_le L K1
  have k2 : K1 ≤ K2 := Int.le_trans k20 (hK2 ▸ endMkAsked_le L2 _)
  have k2' : K2 ≤ K1 + 10000000000000 := by
    have h2 := endMkMemo_bound L K1 hlm
    have h3 := endMkAsked_bound L2 (endMkMemo K1 L)
    rw [← hK2, hlL2] at h3
    rw [hlL] at h2
    have : (ms.length : Int) ≤ 1048576 := by omega
    have : (qs.length : Int) ≤ 1048576 := by omega
    omega
  have hok0 : ∀ (i : Nat) (x : List AC) (l : Nat × Nat), (vwA NNode.ac ns)[i]? = some x → ls[i]? = some l → okMkNode x l := fun i x l hx hl => by
    rw [hls] at hl
    simp only [vwA, List.getElem?_map, Option.map_eq_some_iff] at hx hl
    obtain ⟨m, hm, rfl⟩ := hx
    obtain ⟨m', hm', rfl⟩ := hl
    rw [hm] at hm'
    cases hm'
    exact okMkNode_of m (s1 m (List.mem_of_getElem? hm))
  have hok1 : ∀ (i : Nat) (x : List AC) (l : Nat), (vwA NMemo.ac ms)[i]? = some x → L[i]? = some l → okMkMemo x l := fun i x l hx hl => by
    rw [hL] at hl
    simp only [vwA, List.getElem?_map, Option.map_eq_some_iff] at hx hl
    obtain ⟨m, hm, rfl⟩ := hx
    obtain ⟨m', hm', rfl⟩ := hl
    rw [hm] at hm'
    cases hm'
    exact okMkMemo_of m (s3 m (List.mem_of_getElem? hm))
  have hok2 : ∀ (i : Nat) (x : List AC) (l : Unit), (vw GAsked.c qs)[i]? = some x → L2[i]? = some l → okMkAsked x l := fun i x l hx hl => by
    simp only [vw, List.getElem?_map, Option.map_eq_some_iff] at hx
    obtain ⟨q, hq, rfl⟩ := hx
    exact ⟨_, _, _, _, _, _, rfl⟩
  have n0 : (vwA NNode.ac ns).length = ls.length := by rw [vwA_length, hll]
  have n1 : (vwA NMemo.ac ms).length = L.length := by rw [vwA_length, hlL]
  have n2 : (vw GAsked.c qs).length = L2.length := by rw [vw_length, hlL2]
  have n3 : (vw GFrame.c fs).length = fs.length := vw_length _ _
  refine ⟨mkRowsNode k0 ls, mkRowsMemo K1 L, mkRowsAsked (endMkMemo K1 L) L2, vw GFrame.c (marksFrame K2 fs.length), K2 + 5 * (fs.length : Int), by omega, by omega, fun b0 b1 b2 b3 hnd => ?_, ?_⟩
  · obtain ⟨hn012, hn3, hd3⟩ := List.nodup_append.1 hnd
    obtain ⟨hn01, hn2, hd2⟩ := List.nodup_append.1 hn012
    obtain ⟨hn0, hn1, hd1⟩ := List.nodup_append.1 hn01
    have h12 : (b1 ++ b2).Nodup := by
      have : (b1 ++ b2).Sublist (b0 ++ b1 ++ b2) := by rw [List.append_assoc]; exact List.sublist_append_right _ _
      exact hn012.sublist this
    have hf := laws_markFrameS_n K2 b3 (vw GFrame.c fs) (by omega) (vw_k (c := GFrame.c) (k := 5) fun _ => rfl) (vw_imm _ _) hn3 (by omega) (by omega)
    rw [n3] at hf
    refine laws_markEngine_m k0 K1 K2 _ b0 b1 b2 b3 _ _ _ _ _ _ _ _ x0 x1 x2 x3 (by rw [hK1]; exact laws_markTree_m k0 b0 _ ls n0 (by omega) hok0 hn0 h0 (by omega)) (by rw [hK2]; exact laws_markKept_m K1 b1 b2 _ _ L L2 n1 (by omega) hok1 n2 (by omega) hok2 h12 (by omega) (by omega)) hf (fun u hu => ?_) hnd
    rcases List.mem_cons.1 hu with rfl | hu
    · exact ⟨⟨64, fun x hx => by
        obtain ⟨i, hi, rfl⟩ := List.getElem_of_mem hx
        exact okMkNode_len (hok0 i _ _ (List.getElem?_eq_getElem hi) (List.getElem?_eq_getElem (n0 ▸ hi))), mkRowsNode_k ls k0⟩, by rw [mkRowsNode_len, n0]⟩
    rcases List.mem_cons.1 hu with rfl | hu
    · exact ⟨⟨10, fun x hx => by
        obtain ⟨i, hi, rfl⟩ := List.getElem_of_mem hx
        obtain ⟨u0, u1, u2, u3, u4, u5, u6, u7, u8, F0, he, -⟩ := hok1 i _ _ (List.getElem?_eq_getElem hi) (List.getElem?_eq_getElem (n1 ▸ hi))
        rw [he]; rfl, mkRowsMemo_k L K1⟩, by rw [mkRowsMemo_len, n1]⟩
    rcases List.mem_cons.1 hu with rfl | hu
    · exact ⟨⟨6, vw_k (c := GAsked.c) (k := 6) fun _ => rfl, mkRowsAsked_k L2 _⟩, by rw [mkRowsAsked_len, n2]⟩
    rw [List.mem_singleton.1 hu]
    exact ⟨⟨5, vw_k (c := GFrame.c) (k := 5) fun _ => rfl, vw_k (c := GFrame.c) (k := 5) fun _ => rfl⟩, by rw [vw_length, vw_length]; simp [marksFrame]⟩
  · exact laws_heldEngine_n k0 K1 K2 _ _ _ _ _ x0 x1 x2 x3 (by omega) (by omega) (by omega) (laws_heldTree_n k0 K1 _ (by omega) (by rw [hK1]; exact laws_heldNodeS_n k0 ls (by omega) (fun l hl => (hls1 l hl).1) (fun l hl => (hls1 l hl).2) h0 (by omega))) (by rw [hK2]; exact laws_heldKept_n K1 L L2 (by omega) hlm (by omega) (by omega) (by omega)) (laws_heldFrameS_a K2 fs.length s5 (by omega) (by omega))
theorem markEngine_m (x : NEngine) (hs : x.small) (k0 : Int) (h0 : 0 ≤ k0) (h1 : k0 ≤ 1000000000000000) : ∃ (R0 R1 R2 R3 : List (List AC)) (K : Int), k0 ≤ K ∧ K ≤ k0 + 100000000000000 ∧
    ∀ b0 b1 b2 b3 : List Nat, (b0 ++ b1 ++ b2 ++ b3).Nodup → MCon Tryz.prog 15 [.agg (engR b0 b1 b2 b3 x), ai k0] [(b0, vwA NNode.ac x.tree.nodes, R0), (b1, vwA NMemo.ac x.kept.memos, R1), (b2, vw GAsked.c x.kept.asked, R2), (b3, vw GFrame.c x.frames, R3)] (.int .i64 K) := by
  obtain ⟨R0, R1, R2, R3, K, h2, h3, h4, -⟩ := markEngine_x x hs k0 h0 h1
  exact ⟨R0, R1, R2, R3, K, h2, h3, h4⟩
theorem markEngine_h (x : NEngine) (hs : x.small) : ∃ (R0 R1 R2 R3 : List (List AC)) (K : Int), 1 ≤ K ∧ K ≤ 1 + 100000000000000 ∧
    (∀ b0 b1 b2 b3 : List Nat, (b0 ++ b1 ++ b2 ++ b3).Nodup → MCon Tryz.prog 15 [.agg (engR b0 b1 b2 b3 x), ai 1] [(b0, vwA NNode.ac x.tree.nodes, R0), (b1, vwA NMemo.ac x.kept.memos, R1), (b2, vw GAsked.c x.kept.asked, R2), (b3, vw GFrame.c x.frames, R3)] (.int .i64 K)) ∧
    PCon Tryz.prog 16 [.agg [.view R0, .view R1, .view R2, .view R3, .imm (.int .i64 x.root), .imm (.int .i64 x.wide), .imm (.int .i64 x.high), .imm (.bool x.rtl)], ai 1] (fun res rows => res = .t (ai K) ∧ rows = []) := markEngine_x x hs 1 (by decide) (by decide)
theorem kpM_small (ns : List NNode) (x : NKept) (code n : Int) (hs : x.small) : NKept.small ⟨kpM ns x.memos code n, x.asked⟩ := by
  unfold kpM
  split
  · exact fgM_small ns x n hs
  · exact hs
theorem setT_small (x : NEngine) (ns : List NNode) (code n : Int) (hs : x.small) (hl : ns.length ≤ 1048576) (hn : ∀ y ∈ ns, NNode.small y) : (setT x ns code n).small := by
  obtain ⟨⟨ms0⟩, ⟨ms, qs⟩, fs, x0, x1, x2, x3⟩ := x
  obtain ⟨s0, s1, s2, s3, s4, s5, -⟩ := hs
  obtain ⟨h1, h2, h3, -⟩ := kpM_small ns ⟨ms, qs⟩ code n ⟨s2, s3, s4, trivial⟩
  exact ⟨hl, hn, h1, h2, h3, s5, trivial⟩
end Go.Proofs.YtenbloaopcfdlaaGreat
namespace Go.Proofs.YtenbloaopcfdlaaGreat
open Go.ChangeShapes Go.WideShapes Go.ChangeAt Go.RowKit Am
set_option linter.unusedVariables false
set_option linter.unusedSimpArgs false
set_option maxRecDepth 100000
theorem fpL_node (u : Int) (K R : List (List AC)) (s : GStyle) (m : Bool) (b1 b2 : List Nat) : fpL (nodeE u K R s m b1 b2) = b1 ++ b2 := by
  show b1 ++ (b2 ++ []) = _
  rw [List.append_nil]
theorem fpE_split {E : List (List AC)} {j : Nat} {e : List AC} (he : E[j]? = some e) : ∃ A B, E = A ++ e :: B ∧ ∀ y, E.set j y = A ++ y :: B := by
  obtain ⟨hj, rfl⟩ := List.getElem?_eq_some_iff.1 he
  refine ⟨E.take j, E.drop (j + 1), ?_, fun y => ?_⟩
  · exact (List.take_append_drop j E).symm.trans (by rw [List.drop_eq_getElem_cons hj])
  · rw [List.set_eq_take_append_cons_drop, if_pos hj]
theorem CopyE.put {k lo lo' : Nat} {E V : List (List AC)} (h : CopyE k E V lo) {j : Nat} {e y v : List AC} (he : E[j]? = some e) (hy : y.map vwC = v) (hk : y.length = k) (hb : y.all bareF = true) {b1 bn : List Nat} (hf : (fpL y).Perm (b1 ++ bn)) (hs : b1.Sublist (fpL e)) (hn : NewB lo' bn) (hlo : lo ≤ lo') (hlt : ∀ b ∈ fpE E, b < lo') : CopyE k (E.set j y) (V.set j v) lo :=
  ⟨fun x hx => (List.mem_or_eq_of_mem_set hx).elim (h.kk x) fun h1 => by rw [h1]; exact hk, fun x hx => (List.mem_or_eq_of_mem_set hx).elim (h.bare x) fun h1 => by rw [h1]; exact hb, by rw [List.map_set, h.eq, hy], by
    obtain ⟨A, B, h1, h2⟩ := fpE_split he
    have hE : fpE E = fpE A ++ (fpL e ++ fpE B) := by rw [h1, fpE_app]; rfl
    rw [h2 y]
    have hE2 : fpE (A ++ y :: B) = fpE A ++ (fpL y ++ fpE B) := by rw [fpE_app]; rfl
    rw [hE2]
    have hsub : (fpE A ++ (b1 ++ fpE B)).Sublist (fpE E) := by rw [hE]; exact List.Sublist.append (List.Sublist.refl _) (List.Sublist.append hs (List.Sublist.refl _))
    have h3 : NewB lo (fpE A ++ (b1 ++ fpE B)) := h.new.sub hsub
    refine (h3.app hlo hn fun b hb => hlt b (hsub.subset hb)).perm (List.perm_iff_count.2 fun a => ?_)
    have := List.perm_iff_count.1 hf a
    simp only [List.count_append] at this ⊢
    omega⟩
end Go.Proofs.YtenbloaopcfdlaaGreat
namespace Go.Proofs.YtenbloaopcfdlaaGreat
open Go.ChangeShapes Go.WideShapes Go.ChangeAt Go.RowKit Am
set_option linter.unusedVariables false
set_option linter.unusedSimpArgs false
set_option maxRecDepth 100000
def hasI (xs : List Int) (n : Int) : Bool := xs.any fun x => decide (x = n)
theorem take_filter {p : Int → Bool} {xs : List Int} {z : Int} {x : Int} (h0 : 0 ≤ z) (hx : xs[z.toNat]? = some x) : (xs.take (z + 1).toNat).filter p = (xs.take z.toNat).filter p ++ if p x then [x] else [] := by
  rw [show (z + 1).toNat = z.toNat + 1 by omega, List.take_add_one, hx, List.filter_append]
  simp only [Option.toList_some]
  cases h : p x <;> simp [h]
theorem vw_app (xs ys : List Int) : vw intC (xs ++ ys) = vw intC xs ++ vw intC ys := by simp [vw]
theorem impl_hasInt_a (xs : List Int) (n : Int) (hl : xs.length ≤ 1048576) : PCon Tryz.prog 112 [.c (.view (vw intC xs)), ai n] fun res rows => res = .t (abl (hasI xs n)) ∧ rows = [] := by
  obtain ⟨V, hV⟩ : ∃ V, V = vw intC xs := ⟨_, rfl⟩
  have hVl : V.length = xs.length := by rw [hV, vw_length]
  have iV : immE V = true := by rw [hV]; exact vw_imm _ _
  have kV : ∀ y ∈ V, y.length = 1 := by rw [hV]; exact vw_k (c := intC) (k := 1) fun _ => rfl
  have dV : ∀ y ∈ V, y.all dat = true := by rw [hV]; exact vw_dat
  have hVx : lenI V = (xs.length : Int) := by rw [lenI_eq]; omega
  have hV0 : 0 ≤ lenI V := by omega
  have hV1 : lenI V ≤ 1048576 := by omega
  have hno : ∀ z : Int, lenI V ≤ z → (∀ (i : Nat) (x : Int), i < z.toNat → xs[i]? = some x → x ≠ n) → hasI xs n = false := fun z hz h => by
    unfold hasI
    rw [List.any_eq_false]
    intro x hx
    obtain ⟨i, hi⟩ := List.mem_iff_getElem?.1 hx
    have := h i x (by have := (List.getElem?_eq_some_iff.1 hi).1; omega) hi
    simpa using this
  have hyes : ∀ (i : Nat), xs[i]? = some n → hasI xs n = true := fun i hi => by
    unfold hasI
    rw [List.any_eq_true]
    exact ⟨n, List.mem_of_getElem? hi, by simp⟩
  rw [← hV]
  refine pcon_run (c := body Tryz.f112) fits Tryz.func112 (by kernel_rfl) (by kernel_rfl) (by rfl) (by kernel_rfl) fun g F hg hF => ?_
  cbv
  refine loop_run hg fits (by kernel_rfl) (fun z : Int => [(1, .t (ai n)), (7, .t (.c (.view V))), (8, .t (ai (g .ln V))), (9, .t (ai z))]) (fun _ => []) (fun z => 0 ≤ z ∧ z ≤ lenI V ∧ ∀ (i : Nat) (x : Int), i < z.toNat → xs[i]? = some x → x ≠ n) (fun z => (lenI V).toNat - z.toNat)
    0 [] ⟨Int.le_refl 0, hV0, fun i x hi => by simp at hi⟩ (wk0 ⟨rfl, rfl, rfl, rfl, trivial⟩) (fun z B hs hB => ?_)
  obtain ⟨h0, h1, h2⟩ := hs
  cbv
  cases hc : g .q .lss z (g .ln V)
  · rw [goLss hg, goLn hg, decide_eq_false_iff_not] at hc
    cbv
    exact fin0b hF (hno z (by omega) h2).symm
  · rw [goLss hg, goLn hg, decide_eq_true_eq] at hc
    cbv
    obtain ⟨x, hx⟩ := at_z (xs := xs) h0 (lt_viaN hVx hc)
    have hyy : V[z.toNat]? = some (lc (intC x)) := by rw [hV]; exact vw_at hx
    refine goX hg _ h0 hyy rfl ?_
    cbv
    have e1 : g .w .add .i64 z 1 = z + 1 := by rw [goAdd hg, wrap_small _ (by omega)]
    cases he : g .q .eql x n
    · have he' : x ≠ n := by rw [goEql hg] at he; simpa using he
      cbv
      rw [e1]
      refine back hB (z + 1) [] (wk0 ⟨rfl, rfl, rfl, rfl, trivial⟩) ⟨by omega, by omega, fun i y hi hy => ?_⟩ (by omega)
      by_cases hi2 : i < z.toNat
      · exact h2 i y hi2 hy
      · obtain rfl : i = z.toNat := by omega
        rw [hx] at hy
        cases hy
        exact he'
    · have he' : x = n := by rw [goEql hg] at he; simpa using he
      cbv
      exact fin0b hF (hyes z.toNat (by rw [← he']; exact hx)).symm
theorem cnt_mem : ∀ (xs : List Int) (n : Int), cnt xs n = 1 → n ∈ xs
  | [], n, h => by simp [cnt] at h
  | x :: xs, n, h => by
    by_cases hx : x = n
    · rw [hx]; exact List.mem_cons_self ..
    · refine List.mem_cons_of_mem _ (cnt_mem xs n ?_)
      simpa [cnt, hx] using h
theorem hasI_iff (xs : List Int) (n : Int) : hasI xs n = true ↔ n ∈ xs := by simp [hasI]
theorem tree_at {ns : List NNode} (h : treeB ns = true) {n : Int} {x : NNode} (h1 : 1 ≤ n) (hx : ns[(n - 1).toNat]? = some x) : nodeOk ns n x = true := by
  simp only [treeB, Bool.and_eq_true] at h
  have := (goT_iff ns ns 0).1 h.2 _ x hx
  rwa [show (0 : Int) + (((n - 1).toNat : Nat) : Int) + 1 = n by omega] at this
theorem up_has {ns : List NNode} (h : treeB ns = true) {n k : Int} {x y : NNode} (h1 : 1 ≤ n) (hx : ns[(n - 1).toNat]? = some x) (k1 : 1 ≤ k) (hy : ns[(k - 1).toNat]? = some y) : y.up = n ↔ hasI x.kids k = true := by
  have hk : kidsN ns n = x.kids := by unfold kidsN; rw [hx]
  have hu : upN ns k = y.up := by unfold upN; rw [hy]
  constructor
  · intro he
    have := tree_at h k1 hy
    simp only [nodeOk, upOk, Bool.and_eq_true, Bool.or_eq_true, decide_eq_true_eq, he, hk] at this
    rcases this.2.2.1 with h2 | h2
    · omega
    · exact (hasI_iff _ _).2 (cnt_mem _ _ h2)
  · intro he
    have := tree_at h h1 hx
    simp only [nodeOk, Bool.and_eq_true, List.all_eq_true, kidOk, decide_eq_true_eq] at this
    rw [← hu]
    exact (this.2.2.2.1 k ((hasI_iff _ _).1 he)).2
theorem dep_self {ns : List NNode} {n : Int} (hn : n ≠ 0) (hi : isN ns n = true) (hu : upN ns n = n) : ∀ (f : Nat) (k : Int), depF ns f k n = 0
  | 0, k => by simp [depF, hn]
  | f + 1, k => by rw [dep_step ns hn hi, hu]; exact dep_self hn hi hu f (k + 1)
theorem up_ne {ns : List NNode} (h : treeB ns = true) {k : Int} {y : NNode} (hi : isN ns k = true) (k1 : 1 ≤ k) (hy : ns[(k - 1).toNat]? = some y) : y.up ≠ k := fun he => by
  have hu : upN ns k = k := by unfold upN; rw [hy]; exact he
  have := tree_at h k1 hy
  simp only [nodeOk, Bool.and_eq_true] at this
  have h2 := this.2.1
  rw [show depN ns k = 0 from dep_self (by omega) hi hu _ _] at h2
  exact absurd h2 (by decide)
def rmO (ns : List NNode) (n kid : Int) : Bool := treeB ns && (isN ns n && isN ns kid)
def rmK (kid k : Int) : Bool := decide (k ≠ kid)
def rmN (ns : List NNode) (n kid : Int) : List NNode := match rmO ns n kid && hasI (kidsN ns n) kid, ns[(n - 1).toNat]?, ns[(kid - 1).toNat]? with
  | true, some x, some y => (ns.set (n - 1).toNat { x with kids := x.kids.filter (rmK kid) }).set (kid - 1).toNat { y with up := 0 }
  | _, _, _ => ns
def rmI (ns : List NNode) (n kid : Int) : Int := if rmO ns n kid = true then (if hasI (kidsN ns n) kid = true then 0 else 3) else 1
def fa (bl : Nat → Nat) (h : AH) : List AC → List AC → Prop
  | [], [] => True
  | c :: l, d :: l' => ResS bl h c d ∧ fa bl h l l'
  | _, _ => False
theorem fa_at {bl : Nat → Nat} {h : AH} : ∀ {x y : List AC}, fa bl h x y → x.length = y.length ∧ ∀ (j : Nat) (c d : AC), x[j]? = some c → y[j]? = some d → ResS bl h c d
  | [], [], _ => ⟨rfl, fun j c d hc => by simp at hc⟩
  | c :: l, d :: l', hf => by
    obtain ⟨h1, h2⟩ := fa_at hf.2
    refine ⟨by simp [h1], fun j c' d' hc hd => ?_⟩
    cases j with
    | zero => cases hc; cases hd; exact hf.1
    | succ j => exact h2 j c' d' (by simpa using hc) (by simpa using hd)
theorem fa_refl {bl : Nat → Nat} {h : AH} : ∀ {x : List AC}, x.all bareF = true → fa bl h x x
  | [], _ => trivial
  | c :: l, hb => by
    simp only [List.all_cons, Bool.and_eq_true] at hb
    refine ⟨?_, fa_refl hb.2⟩
    cases c <;> first | exact .imm _ | exact .fv _ _ | cases hb.1
structure FE (bl : Nat → Nat) (h : AH) (X Y : List (List AC)) : Prop where
  len : X.length = Y.length
  at_ : ∀ (i : Nat) (x y : List AC), X[i]? = some x → Y[i]? = some y → fa bl h x y
theorem FE.refl {bl : Nat → Nat} {h : AH} {X : List (List AC)} (hb : ∀ e ∈ X, e.all bareF = true) : FE bl h X X := ⟨rfl, fun i x y hx hy => by
  rw [hx] at hy; cases hy; exact fa_refl (hb x (List.mem_of_getElem? hx))⟩
theorem FE.set {bl : Nat → Nat} {h : AH} {X Y : List (List AC)} (hf : FE bl h X Y) {j : Nat} {x y : List AC} (hx : fa bl h x y) : FE bl h (X.set j x) (Y.set j y) := ⟨by simp [hf.len], fun i a b ha hb => by
  have la := (List.getElem?_eq_some_iff.1 ha).1
  have lb := (List.getElem?_eq_some_iff.1 hb).1
  rw [List.length_set] at la lb
  by_cases hij : j = i
  · subst hij
    rw [List.getElem?_set_self la] at ha
    rw [List.getElem?_set_self lb] at hb
    cases ha
    cases hb
    exact hx
  · rw [List.getElem?_set_ne hij] at ha hb
    exact hf.at_ i a b ha hb⟩
theorem FE.ress {bl : Nat → Nat} {h : AH} {r t k : Nat} {X Y : List (List AC)} (hf : FE bl h X Y) (hr : h[r]? = some (.live ⟨t, k, X⟩)) : ResS bl h (.own r) (.fv (hd1 (bl r) Y ++ fpE Y) (Y.map (·.map vwC))) :=
  .row r ⟨t, k, X⟩ Y hr hf.len.symm (fun i x y hx hy => (fa_at (hf.at_ i x y hx hy)).1) (fun i x y hx hy => (fa_at (hf.at_ i x y hx hy)).2)
theorem put_end {lo : Nat} {bl : Nat → Nat} {h : AH} {xs : List AT} (hb : BlkOk lo bl h xs) {r q : Nat} {ab ab' : AB} (hr : h[r]? = some (.live ab)) (hq : h[q]? = some (.live ab')) (hne : r ≠ q) {Y : List (List AC)} (hX : ab.es ≠ []) (hp : (fpE Y).Perm (fpE ab.es ++ hd1 (bl q) ab'.es)) (hn : NewB lo (fpE ab.es)) : NewB lo (hd1 (bl r) Y ++ fpE Y) := by
  obtain ⟨r1, r2, r3, -⟩ := hb r ab hr hX
  have hfp : ∀ b ∈ fpE ab.es, ∃ x ∈ ab.es, ∃ c ∈ x, b ∈ fpC c := fun b hb' => by
    simp only [fpE, fpL, List.mem_flatMap] at hb'
    obtain ⟨x, hx, c, hc, h2⟩ := hb'
    exact ⟨x, hx, c, hc, h2⟩
  have hq1 : ∀ b ∈ hd1 (bl q) ab'.es, b = bl q ∧ ab'.es ≠ [] := fun b hb' => by
    cases he : ab'.es with
    | nil => rw [he] at hb'; simp [hd1] at hb'
    | cons e es => rw [he] at hb'; simp only [hd1, List.mem_singleton] at hb'; exact ⟨hb', by simp⟩
  have hA := blk_new hb hq
  have hB : NewB lo (fpE ab.es ++ hd1 (bl q) ab'.es) := ⟨List.nodup_append.2 ⟨hn.1, hA.1, fun a h1 b h2 he => by
    subst he
    obtain ⟨h3, h4⟩ := hq1 a h2
    obtain ⟨x, hx, c, hc, h5⟩ := hfp a h1
    rw [h3] at h5
    exact (hb q ab' hq h4).2.2.1 r ab hr x hx c hc h5⟩, fun b hb' => (List.mem_append.1 hb').elim (hn.2 b) (hA.2 b)⟩
  have hC := hB.perm hp.symm
  cases Y with
  | nil => exact hC
  | cons y Y =>
    refine ⟨List.nodup_append.2 ⟨by simp [hd1], hC.1, fun a h1 b h2 he => ?_⟩, fun b hb' => (List.mem_append.1 hb').elim (fun h1 => by simp only [hd1, List.mem_singleton] at h1; rw [h1]; exact r1) (hC.2 b)⟩
    subst he
    simp only [hd1, List.mem_singleton] at h1
    subst h1
    rcases List.mem_append.1 (hp.mem_iff.1 h2) with h3 | h3
    · obtain ⟨x, hx, c, hc, h5⟩ := hfp _ h3
      exact r3 r ab hr x hx c hc h5
    · obtain ⟨h4, h5⟩ := hq1 _ h3
      exact hne (r2 q ab' hq h5 h4)
def nodeK (u : Int) (q : Nat) (R : List (List AC)) (s : GStyle) (m : Bool) (b2 : List Nat) : List AC := .imm (.int .i64 u) :: .own q :: (lc (GStyle.c s) ++ [.imm (.bool m), .fv b2 R])
theorem fpL_nodeK (u : Int) (q : Nat) (R : List (List AC)) (s : GStyle) (m : Bool) (b2 : List Nat) : fpL (nodeK u q R s m b2) = b2 := by
  show b2 ++ [] = _
  rw [List.append_nil]
theorem fa_node {bl : Nat → Nat} {h : AH} {u : Int} {q : Nat} {K' R : List (List AC)} {s : GStyle} {m : Bool} {bk b2 : List Nat} (hr : ResS bl h (.own q) (.fv bk K')) : fa bl h (nodeK u q R s m b2) (nodeE u K' R s m bk b2) := by
  show ResS bl h _ _ ∧ ResS bl h _ _ ∧ fa bl h _ _
  exact ⟨.imm _, hr, fa_refl rfl⟩
theorem rm_end {bl : Nat → Nat} {h : AH} {xs : List AT} {lo q r k t' k' j j2 : Nat} {E M K K' R K2 R2 : List (List AC)} {u u2 u' : Int} {s s2 : GStyle} {m m2 : Bool} {b1 b2 c1 c2 : List Nat} {t : TypeId} (hE : CopyE 64 E M lo) (he : E[j]? = some (nodeE u K R s m b1 b2)) (he2 : E[j2]? = some (nodeE u2 K2 R2 s2 m2 c1 c2)) (hjj : j ≠ j2) (hb : BlkOk lo bl h xs) (hr : h[r]? = some (.live ⟨t, k, (E.set j (nodeK u q R s m b2)).set j2 (nodeE u' K2 R2 s2 m2 c1 c2)⟩)) (hq : h[q]? = some (.live ⟨t', k', K'⟩)) (hne : r ≠ q) (hi : immE K' = true) :
    ∃ Y, ResS bl h (.own r) (.fv (hd1 (bl r) Y ++ fpE Y) ((M.set j (nodeA u K' R s m)).set j2 (nodeA u' K2 R2 s2 m2))) ∧ NewB lo (hd1 (bl r) Y ++ fpE Y) := by
  have hjl := (List.getElem?_eq_some_iff.1 he).1
  obtain ⟨X, hX⟩ : ∃ X, X = (E.set j (nodeK u q R s m b2)).set j2 (nodeE u' K2 R2 s2 m2 c1 c2) := ⟨_, rfl⟩
  obtain ⟨Y, hY⟩ : ∃ Y, Y = (E.set j (nodeE u K' R s m (hd1 (bl q) K') b2)).set j2 (nodeE u' K2 R2 s2 m2 c1 c2) := ⟨_, rfl⟩
  rw [← hX] at hr
  have hf : FE bl h X Y := by
    rw [hX, hY]
    exact ((FE.refl hE.bare).set (fa_node (ress_immRow (r := q) (ab := ⟨t', k', K'⟩) hq hi))).set (fa_refl rfl)
  have hYM : Y.map (·.map vwC) = (M.set j (nodeA u K' R s m)).set j2 (nodeA u' K2 R2 s2 m2) := by
    rw [hY, List.map_set, List.map_set, hE.eq]; rfl
  have hx2 : (E.set j (nodeK u q R s m b2))[j2]? = some (nodeE u2 K2 R2 s2 m2 c1 c2) := by rw [List.getElem?_set_ne hjj]; exact he2
  have hy2 : (E.set j (nodeE u K' R s m (hd1 (bl q) K') b2))[j2]? = some (nodeE u2 K2 R2 s2 m2 c1 c2) := by rw [List.getElem?_set_ne hjj]; exact he2
  have fX : fpE X = fpE (E.set j (nodeK u q R s m b2)) := by rw [hX]; exact fpE_same hx2 rfl
  have fY : fpE Y = fpE (E.set j (nodeE u K' R s m (hd1 (bl q) K') b2)) := by rw [hY]; exact fpE_same hy2 rfl
  obtain ⟨A, B, g1, g2⟩ := fpE_split he
  have hEE : fpE E = fpE A ++ ((b1 ++ b2) ++ fpE B) := by rw [g1, fpE_app]; show fpE A ++ (fpL (nodeE u K R s m b1 b2) ++ fpE B) = _; rw [fpL_node]
  rw [g2, fpE_app, show fpE (nodeK u q R s m b2 :: B) = b2 ++ fpE B by show fpL (nodeK u q R s m b2) ++ fpE B = _; rw [fpL_nodeK]] at fX
  rw [g2, fpE_app, show fpE (nodeE u K' R s m (hd1 (bl q) K') b2 :: B) = (hd1 (bl q) K' ++ b2) ++ fpE B by show fpL (nodeE u K' R s m (hd1 (bl q) K') b2) ++ fpE B = _; rw [fpL_node]] at fY
  have hn : NewB lo (fpE X) := by
    rw [fX]
    refine hE.new.sub ?_
    rw [hEE]
    exact List.Sublist.append (List.Sublist.refl _) (List.Sublist.append (List.sublist_append_right _ _) (List.Sublist.refl _))
  refine ⟨Y, ?_, put_end hb (ab := ⟨t, k, X⟩) (ab' := ⟨t', k', K'⟩) hr hq hne ?_ ?_ hn⟩
  · rw [← hYM]; exact hf.ress hr
  · intro h0
    have : X.length = E.length := by rw [hX]; simp
    rw [show X = [] from h0] at this
    simp at this
    omega
  · refine List.perm_iff_count.2 fun a => ?_
    show List.count a (fpE Y) = List.count a (fpE X ++ hd1 (bl q) K')
    rw [fX, fY]
    simp only [List.count_append]
    omega
end Go.Proofs.YtenbloaopcfdlaaGreat
