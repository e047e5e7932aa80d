/- The law of EngInsert. -/
import Derived.Test.YtenbloaopcfdlaaGreatIaq
namespace Go.Proofs.YtenbloaopcfdlaaGreat
open Go.ChangeShapes Go.WideShapes Go.ChangeAt Go.RowKit Am
set_option linter.unusedVariables false
set_option linter.unusedSimpArgs false
set_option maxRecDepth 100000
theorem pcon_of_tcon2 {P : Program} {f : FuncId} {args : List AT} {y : AT} {z : Int} {Q : Nat → AT → Prop} (hc : TCon P f args fun lo res rows => (∃ x, res = .tup [x, ai z] ∧ dwT x y ∧ Q lo x) ∧ plainV res = true ∧ rows = []) : PCon P f args fun res rows => res = .tup [y, ai z] ∧ rows = [] :=
  ⟨(hc 0).1, fun F w m vs hH hl ha => ((hc 0).2 F w m vs hH hl ha).mono fun e w' ⟨v, res, h', m', F', he, ⟨rows, hrows, ⟨x, hx, hd, hq⟩, hp, hr⟩, hG, hs, hv⟩ => ⟨v, .tup [y, ai z], h', m', F', he, ⟨rows, hrows, rfl, hr⟩, hG, hs, by
    subst hx
    obtain ⟨vs, rfl, h1⟩ := hv
    refine ⟨vs, rfl, h1.1, fun j x' hj => ?_⟩
    cases j with
    | zero =>
      obtain ⟨u, hu, hru⟩ := h1.2 0 x rfl
      cases hj
      exact ⟨u, hu, RT.ext (fun _ h => h) (fun _ _ => rfl) (fun r => ⟨fun h => by simp at h, fun ab h => by simp at h⟩) (hd.rt hru)⟩
    | succ j =>
      cases j with
      | zero => cases hj; exact h1.2 1 (ai z) rfl
      | succ j => simp at hj⟩⟩
set_option maxHeartbeats 8000000 in
theorem laws_toEngine_t (x : NEngine) (hs : x.small) : TCon Tryz.prog 11 [.agg x.ac] fun lo res rows => (∃ b0 b1 b2 b3, res = .t (.agg (engR b0 b1 b2 b3 x)) ∧ NewB lo (b0 ++ b1 ++ b2 ++ b3)) ∧ plainV res = true ∧ rows = [] := by
  obtain ⟨⟨ns⟩, ⟨ms, qs⟩, fs, x0, x1, x2, x3⟩ := x
  obtain ⟨s0, s1, s2, s3, s4, s5, -⟩ := hs
  have c0 := laws_toTree_t ⟨ns⟩ ⟨s0, s1, trivial⟩
  have c1 := laws_toKept_t ⟨ms, qs⟩ ⟨s2, s3, s4, trivial⟩
  have c2 := toRow (laws_toFrameS_a fs s5)
  show TCon _ _ [.agg [.view (vwA NNode.ac ns), .view (vwA NMemo.ac ms), .view (vw GAsked.c qs), .view (vw GFrame.c fs), .imm (.int .i64 x0), .imm (.int .i64 x1), .imm (.int .i64 x2), .imm (.bool x3)]] (fun lo res rows => (∃ b0 b1 b2 b3, res = .t (.agg [.fv b0 (vwA NNode.ac ns), .fv b1 (vwA NMemo.ac ms), .fv b2 (vw GAsked.c qs), .fv b3 (vw GFrame.c fs), .imm (.int .i64 x0), .imm (.int .i64 x1), .imm (.int .i64 x2), .imm (.bool x3)]) ∧ NewB lo (b0 ++ b1 ++ b2 ++ b3)) ∧ plainV res = true ∧ rows = [])
  obtain ⟨N, hN⟩ : ∃ V, V = vwA NNode.ac ns := ⟨_, rfl⟩
  obtain ⟨M, hM⟩ : ∃ V, V = vwA NMemo.ac ms := ⟨_, rfl⟩
  obtain ⟨Q, hQ⟩ : ∃ V, V = vw GAsked.c qs := ⟨_, rfl⟩
  obtain ⟨V, hV⟩ : ∃ V, V = vw GFrame.c fs := ⟨_, rfl⟩
  have hVl : V.length = fs.length := by rw [hV, vw_length]
  have iV : immE V = true := by rw [hV]; exact vw_imm _ _
  have kV : ∀ y ∈ V, y.length = 5 := by rw [hV]; exact vw_k (c := GFrame.c) (k := 5) fun _ => rfl
  have dV : ∀ y ∈ V, y.all dat = true := by rw [hV]; exact vw_dat
  simp only at c0 c1
  replace c0 : TCon Tryz.prog 36 [.agg [.view N]] (fun lo res rows => (∃ b, res = .t (.agg [.fv b N]) ∧ NewB lo b) ∧ plainV res = true ∧ rows = []) := by rw [hN]; exact c0
  replace c1 : TCon Tryz.prog 37 [.agg [.view M, .view Q]] (fun lo res rows => (∃ b0 b1, res = .t (.agg [.fv b0 M, .fv b1 Q]) ∧ NewB lo (b0 ++ b1)) ∧ plainV res = true ∧ rows = []) := by rw [hM, hQ]; exact c1
  rw [← hV] at c2
  rw [← hN, ← hM, ← hQ, ← hV]
  clear hN hM hQ s0 s1 s2 s3 s4 s5
  refine tcon_run ([]) ([]) (c := body Tryz.f11) fits Tryz.func11 (by kernel_rfl) (by kernel_rfl) (by rfl) (by kernel_rfl) fun β g eff hd F heff hhd hg hF => ?_
  cbv
  refine callT0 hg c0 (dwA_same rfl) (fun l1 res p1 p2 p3 ⟨b0, hres, hn0⟩ => ?_)
  subst hres
  clear p2 p3
  cbv
  refine callT0 hg c1 (dwA_same rfl) (fun l2 res q1 q2 q3 ⟨b1, b2, hres, hn1⟩ => ?_)
  subst hres
  have u1 : ∀ b ∈ b0, b < l2 := fun b hb => q2 b (by simp [fpH, fpL, fpC, hb])
  clear q2 q3
  cbv
  refine callRow hg c2 (dat_data rfl) iV ?_
  cbv
  refine finTS hF fun bl hbl => ⟨[.agg [.fv b0 N, .fv b1 M, .fv b2 Q, .fv (hd1 (bl 3) V) V, .imm (.int .i64 x0), .imm (.int .i64 x1), .imm (.int .i64 x2), .imm (.bool x3)]], .agg (.cons (.fv _ _) (.cons (.fv _ _) (.cons (.fv _ _) (.cons (ress_immRow (r := 3) (ab := ⟨_, _, V⟩) rfl iV) (.cons (.imm _) (.cons (.imm _) (.cons (.imm _) (.cons (.imm _) .nil)))))))) .nil, ⟨_, _, _, _, rfl, ?_⟩, rfl, rfl⟩
  have hA := (hn0.mono p1).app q1 hn1 u1
  have t0 := blk_tail hbl (r := 3) (ab := ⟨_, _, V⟩) rfl (List.mem_singleton.2 rfl) (ps := b0) (ys := N) (List.mem_cons_self ..) (hn0.mono p1)
  have t1 := blk_tail hbl (r := 3) (ab := ⟨_, _, V⟩) rfl (List.mem_singleton.2 rfl) (ps := b1) (ys := M) (List.mem_cons_of_mem _ (List.mem_cons_self ..)) (hA.sub ((List.sublist_append_left _ _).trans (List.sublist_append_right _ _)))
  have t2 := blk_tail hbl (r := 3) (ab := ⟨_, _, V⟩) rfl (List.mem_singleton.2 rfl) (ps := b2) (ys := Q) (List.mem_cons_of_mem _ (List.mem_cons_of_mem _ (List.mem_cons_self ..))) (hA.sub ((List.sublist_append_right _ _).trans (List.sublist_append_right _ _)))
  have hB : NewB β.lo (b0 ++ b1 ++ b2) := by simpa [List.append_assoc] using hA
  refine ⟨List.nodup_append.2 ⟨hB.1, (List.nodup_append.1 t0.1).2.1, fun a ha b hb => ?_⟩, fun b hb => (List.mem_append.1 hb).elim (hB.2 b) fun h => t0.2 b (List.mem_append_right _ h)⟩
  rcases List.mem_append.1 ha with h | h
  · rcases List.mem_append.1 h with h | h
    · exact (List.nodup_append.1 t0.1).2.2 a h b hb
    · exact (List.nodup_append.1 t1.1).2.2 a h b hb
  · exact (List.nodup_append.1 t2.1).2.2 a h b hb
set_option maxHeartbeats 4000000 in
theorem laws_markEngine_m (k0 K1 K2 K3 : Int) (b0 b1 b2 b3 : List Nat) (N M Q V R0 R1 R2 R3 : List (List AC)) (x0 x1 x2 : Int) (x3 : Bool)
    (hm0 : MCon Tryz.prog 47 [.agg [.fv b0 N], ai k0] [(b0, N, R0)] (.int .i64 K1)) (hm1 : MCon Tryz.prog 48 [.agg [.fv b1 M, .fv b2 Q], ai K1] [(b1, M, R1), (b2, Q, R2)] (.int .i64 K2)) (hm2 : MCon Tryz.prog 49 [.c (.fv b3 V), ai K2] [(b3, V, R3)] (.int .i64 K3))
    (hkk : ∀ u ∈ ([(b0, N, R0), (b1, M, R1), (b2, Q, R2), (b3, V, R3)] : MU), (∃ k : Nat, (∀ x ∈ u.2.1, x.length = k) ∧ ∀ x ∈ u.2.2, x.length = k) ∧ u.2.2.length = u.2.1.length) (hnd : (b0 ++ b1 ++ b2 ++ b3).Nodup) :
    MCon Tryz.prog 15 [.agg [.fv b0 N, .fv b1 M, .fv b2 Q, .fv b3 V, .imm (.int .i64 x0), .imm (.int .i64 x1), .imm (.int .i64 x2), .imm (.bool x3)], ai k0] [(b0, N, R0), (b1, M, R1), (b2, Q, R2), (b3, V, R3)] (.int .i64 K3) := by
  obtain ⟨hn012, hn3, hd3⟩ := List.nodup_append.1 hnd
  obtain ⟨hn01, hn2, hd2⟩ := List.nodup_append.1 hn012
  obtain ⟨hn0, hn1, hd1⟩ := List.nodup_append.1 hn01
  refine mcon_wrap hkk ?_
  clear hkk
  obtain ⟨β, hβ⟩ : ∃ β : BP, β = ⟨0, fun b => ∃ u ∈ [(b0, N, R0), (b1, M, R1), (b2, Q, R2), (b3, V, R3)], b ∈ u.1⟩ := ⟨_, rfl⟩
  have hx0 : ∀ b ∈ b0, β.ex b := by rw [hβ]; exact fun b hb => ⟨_, List.mem_cons_self .., hb⟩
  have hx1 : ∀ b ∈ b1, β.ex b := by rw [hβ]; exact fun b hb => ⟨_, List.mem_cons_of_mem _ (List.mem_cons_self ..), hb⟩
  have hx2 : ∀ b ∈ b2, β.ex b := by rw [hβ]; exact fun b hb => ⟨_, List.mem_cons_of_mem _ (List.mem_cons_of_mem _ (List.mem_cons_self ..)), hb⟩
  have hx3 : ∀ b ∈ b3, β.ex b := by rw [hβ]; exact fun b hb => ⟨_, List.mem_cons_of_mem _ (List.mem_cons_of_mem _ (List.mem_cons_of_mem _ (List.mem_cons_self ..))), hb⟩
  have e01 : ∀ b ∈ b0, b ∉ b1 := fun b h h' => hd1 b h b h' rfl
  have e02 : ∀ b ∈ b0, b ∉ b2 := fun b h h' => hd2 b (List.mem_append_left _ h) b h' rfl
  have e12 : ∀ b ∈ b1, b ∉ b2 := fun b h h' => hd2 b (List.mem_append_right _ h) b h' rfl
  have e03 : ∀ b ∈ b0, b ∉ b3 := fun b h h' => hd3 b (List.mem_append_left _ (List.mem_append_left _ h)) b h' rfl
  have e13 : ∀ b ∈ b1, b ∉ b3 := fun b h h' => hd3 b (List.mem_append_left _ (List.mem_append_right _ h)) b h' rfl
  have e23 : ∀ b ∈ b2, b ∉ b3 := fun b h h' => hd3 b (List.mem_append_right _ h) b h' rfl
  rw [← hβ]
  clear hβ hd1 hd2 hd3 hn01 hn012
  refine conx_run4 (h := []) [(1, .hand), (2, .hand), (3, .hand)] [] (c := body Tryz.f15) fits Tryz.func15 (by kernel_rfl) (by kernel_rfl) (bl (by rfl)) (by kernel_rfl) fun g eff hd F heff hhd hg hF => ?_
  cbv
  refine hand_mark hg hhd fits 3 (by kernel_rfl) (fun mk hmk => ?_)
  cbv
  subst hmk
  refine ⟨_, _, _, [(b0, N, R0)], _, [(2, .t (.c (.ptr 0 0 0))), (4, .t (ai 0))], [.bx 50 8 [.fv b0 R0, .fv b1 M, .fv b2 Q, .fv b3 V, .imm (.int .i64 x0), .imm (.int .i64 x1), .imm (.int .i64 x2), .imm (.bool x3)]], rfl, rfl, rfl, rfl, rfl, hm0, fun u hu b hb => hx0 b (by rw [List.mem_singleton.1 hu] at hb; exact hb), fun u hu => by rw [List.mem_singleton.1 hu]; exact ⟨_, List.mem_cons_self .., List.mem_singleton.2 rfl⟩, ⟨.inr (.inl ⟨rfl, trivial⟩), .inr (.inl ⟨rfl, trivial⟩), trivial⟩, ⟨⟨rfl, rfl, .inr (.inr ⟨_, List.mem_cons_self .., rfl, rfl⟩), .inr (.inl ⟨rfl, fun b hb u hu => by rw [List.mem_singleton.1 hu]; exact fun h => e01 b h hb⟩), .inr (.inl ⟨rfl, fun b hb u hu => by rw [List.mem_singleton.1 hu]; exact fun h => e02 b h hb⟩), .inr (.inl ⟨rfl, fun b hb u hu => by rw [List.mem_singleton.1 hu]; exact fun h => e03 b h hb⟩), .inr (.inl ⟨rfl, trivial⟩), .inr (.inl ⟨rfl, trivial⟩), .inr (.inl ⟨rfl, trivial⟩), .inr (.inl ⟨rfl, trivial⟩), trivial⟩, trivial⟩, ?_⟩
  cbv
  refine hand_mark hg hhd fits 3 (by kernel_rfl) (fun mk hmk => ?_)
  cbv
  subst hmk
  refine ⟨_, _, _, [(b1, M, R1), (b2, Q, R2)], _, [(2, .t (.c (.ptr 0 0 0))), (4, .t (ai 0))], [.bx 50 8 [.fv b0 R0, .fv b1 R1, .fv b2 R2, .fv b3 V, .imm (.int .i64 x0), .imm (.int .i64 x1), .imm (.int .i64 x2), .imm (.bool x3)]], rfl, rfl, rfl, rfl, rfl, hm1, fun u hu b hb => by rcases List.mem_cons.1 hu with rfl | hu; exact hx1 b hb; rw [List.mem_singleton.1 hu] at hb; exact hx2 b hb, fun u hu => by rcases List.mem_cons.1 hu with rfl | hu; exact ⟨_, List.mem_cons_self .., List.mem_cons_self ..⟩; rw [List.mem_singleton.1 hu]; exact ⟨_, List.mem_cons_self .., List.mem_cons_of_mem _ (List.mem_cons_self ..)⟩, ⟨.inr (.inl ⟨rfl, trivial⟩), .inr (.inl ⟨rfl, trivial⟩), trivial⟩, ⟨⟨rfl, rfl, .inr (.inl ⟨rfl, fun b hb u hu => by rcases List.mem_cons.1 hu with rfl | hu; exact e01 b hb; rw [List.mem_singleton.1 hu]; exact e02 b hb⟩), .inr (.inr ⟨_, List.mem_cons_self .., rfl, rfl⟩), .inr (.inr ⟨_, List.mem_cons_of_mem _ (List.mem_cons_self ..), rfl, rfl⟩), .inr (.inl ⟨rfl, fun b hb u hu => by rcases List.mem_cons.1 hu with rfl | hu; exact fun h => e13 b h hb; rw [List.mem_singleton.1 hu]; exact fun h => e23 b h hb⟩), .inr (.inl ⟨rfl, trivial⟩), .inr (.inl ⟨rfl, trivial⟩), .inr (.inl ⟨rfl, trivial⟩), .inr (.inl ⟨rfl, trivial⟩), trivial⟩, trivial⟩, ?_⟩
  cbv
  refine hand_mark hg hhd fits 3 (by kernel_rfl) (fun mk hmk => ?_)
  cbv
  subst hmk
  refine ⟨_, _, _, [(b3, V, R3)], _, [(2, .t (.c (.ptr 0 0 0))), (4, .t (ai 0))], [.bx 50 8 [.fv b0 R0, .fv b1 R1, .fv b2 R2, .fv b3 R3, .imm (.int .i64 x0), .imm (.int .i64 x1), .imm (.int .i64 x2), .imm (.bool x3)]], rfl, rfl, rfl, rfl, rfl, hm2, fun u hu b hb => hx3 b (by rw [List.mem_singleton.1 hu] at hb; exact hb), fun u hu => by rw [List.mem_singleton.1 hu]; exact ⟨_, List.mem_cons_self .., List.mem_singleton.2 rfl⟩, ⟨.inr (.inl ⟨rfl, trivial⟩), .inr (.inl ⟨rfl, trivial⟩), trivial⟩, ⟨⟨rfl, rfl, .inr (.inl ⟨rfl, fun b hb u hu => by rw [List.mem_singleton.1 hu]; exact e03 b hb⟩), .inr (.inl ⟨rfl, fun b hb u hu => by rw [List.mem_singleton.1 hu]; exact e13 b hb⟩), .inr (.inl ⟨rfl, fun b hb u hu => by rw [List.mem_singleton.1 hu]; exact e23 b hb⟩), .inr (.inr ⟨_, List.mem_cons_self .., rfl, rfl⟩), .inr (.inl ⟨rfl, trivial⟩), .inr (.inl ⟨rfl, trivial⟩), .inr (.inl ⟨rfl, trivial⟩), .inr (.inl ⟨rfl, trivial⟩), trivial⟩, trivial⟩, ?_⟩
  cbv
  refine finW hF 0 _ _ [.fv b0 R0, .fv b1 R1, .fv b2 R2, .fv b3 R3, .imm (.int .i64 x0), .imm (.int .i64 x1), .imm (.int .i64 x2), .imm (.bool x3)] rfl rfl (fun u hu => ?_)
  rcases List.mem_cons.1 hu with rfl | hu
  · exact List.mem_cons_self ..
  rcases List.mem_cons.1 hu with rfl | hu
  · exact List.mem_cons_of_mem _ (List.mem_cons_self ..)
  rcases List.mem_cons.1 hu with rfl | hu
  · exact List.mem_cons_of_mem _ (List.mem_cons_of_mem _ (List.mem_cons_self ..))
  rw [List.mem_singleton.1 hu]; exact List.mem_cons_of_mem _ (List.mem_cons_of_mem _ (List.mem_cons_of_mem _ (List.mem_cons_self ..)))
theorem laws_heldTree_n (k0 K1 : Int) (R0 : List (List AC)) (h0 : 0 ≤ K1) (c0 : PCon Tryz.prog 94 [.c (.view R0), ai k0] (fun res rows => res = .t (ai K1) ∧ rows = [])) : PCon Tryz.prog 50 [.agg [.view R0], ai k0] fun res rows => res = .t (ai K1) ∧ rows = [] := by
  refine pcon_run (c := body Tryz.f50) fits Tryz.func50 (by kernel_rfl) (by kernel_rfl) (by rfl) (by kernel_rfl) fun g F hg hF => ?_
  cbv
  have n1 : g .q .lss K1 0 = false := by rw [goLss hg]; exact decide_eq_false (by omega)
  refine call0 hg c0 rfl rfl ?_
  cbv
  rw [n1]
  cbv
  exact fin0i hF rfl
theorem laws_heldEngine_n (k0 K1 K2 K3 : Int) (R0 R1 R2 R3 : List (List AC)) (x0 x1 x2 : Int) (x3 : Bool) (h1 : 0 ≤ K1) (h2 : 0 ≤ K2) (h3 : 0 ≤ K3) (c0 : PCon Tryz.prog 50 [.agg [.view R0], ai k0] (fun res rows => res = .t (ai K1) ∧ rows = [])) (c1 : PCon Tryz.prog 51 [.agg [.view R1, .view R2], ai K1] (fun res rows => res = .t (ai K2) ∧ rows = [])) (c2 : PCon Tryz.prog 52 [.c (.view R3), ai K2] (fun res rows => res = .t (ai K3) ∧ rows = [])) :
    PCon Tryz.prog 16 [.agg [.view R0, .view R1, .view R2, .view R3, .imm (.int .i64 x0), .imm (.int .i64 x1), .imm (.int .i64 x2), .imm (.bool x3)], ai k0] fun res rows => res = .t (ai K3) ∧ rows = [] := by
  refine pcon_run (c := body Tryz.f16) fits Tryz.func16 (by kernel_rfl) (by kernel_rfl) (by rfl) (by kernel_rfl) fun g F hg hF => ?_
  cbv
  have n1 : g .q .lss K1 0 = false := by rw [goLss hg]; exact decide_eq_false (by omega)
  have n2 : g .q .lss K2 0 = false := by rw [goLss hg]; exact decide_eq_false (by omega)
  have n3 : g .q .lss K3 0 = false := by rw [goLss hg]; exact decide_eq_false (by omega)
  refine call0 hg c0 rfl rfl ?_
  cbv
  rw [n1]
  cbv
  refine call0 hg c1 rfl rfl ?_
  cbv
  rw [n2]
  cbv
  refine call0 hg c2 rfl rfl ?_
  cbv
  rw [n3]
  cbv
  exact fin0i hF rfl
theorem markEngine_x (x : NEngine) (hs : x.small) (k0 : Int) (h0 : 0 ≤ k0) (h1 : k0 ≤ 1000000000000000) : ∃ (R0 R1 R2 R3 : List (List AC)) (K : Int), k0 ≤ K ∧ K ≤ k0 + 100000000000000 ∧
    (∀ b0 b1 b2 b3 : List Nat, (b0 ++ b1 ++ b2 ++ b3).Nodup → MCon Tryz.prog 15 [.agg (engR b0 b1 b2 b3 x), ai k0] [(b0, vwA NNode.ac x.tree.nodes, R0), (b1, vwA NMemo.ac x.kept.memos, R1), (b2, vw GAsked.c x.kept.asked, R2), (b3, vw GFrame.c x.frames, R3)] (.int .i64 K)) ∧
    PCon Tryz.prog 16 [.agg [.view R0, .view R1, .view R2, .view R3, .imm (.int .i64 x.root), .imm (.int .i64 x.wide), .imm (.int .i64 x.high), .imm (.bool x.rtl)], ai k0] (fun res rows => res = .t (ai K) ∧ rows = []) := by
  obtain ⟨⟨ns⟩, ⟨ms, qs⟩, fs, x0, x1, x2, x3⟩ := x
  obtain ⟨s0, s1, s2, s3, s4, s5, -⟩ := hs
  obtain ⟨ls, hls⟩ : ∃ ls, ls = ns.map fun m => (m.kids.length, m.table.rules.length) := ⟨_, rfl⟩
  have hll : ls.length = ns.length := by rw [hls, List.length_map]
  have hls1 : ∀ l ∈ ls, l.1 ≤ 1048576 ∧ l.2 ≤ 1048576 := fun l hl => by
    rw [hls] at hl
    obtain ⟨m, hm, rfl⟩ := List.mem_map.1 hl
    have := s1 m hm
    obtain ⟨a0, a1, ⟨a2, a3, a4, a5, a6, a7, a8, a9, a10, a11, a12, ⟨a13, a14⟩, ⟨a15, a16⟩, ⟨a17, a18⟩, ⟨a19, a20⟩, ⟨a21, a22⟩, ⟨a23, a24⟩, ⟨a25, a26⟩, a27, ⟨⟨a28, a29⟩, ⟨a30, a31⟩, ⟨a32, a33⟩, ⟨a34, a35⟩, ⟨a36, a37⟩, ⟨a38, a39⟩⟩, ⟨⟨a40, a41⟩, ⟨a42, a43⟩, ⟨a44, a45⟩, ⟨a46, a47⟩, ⟨a48, a49⟩, ⟨a50, a51⟩⟩, ⟨a52, a53, a54, a55⟩, ⟨a56, a57, a58, a59⟩, a60, a61⟩, a62, ⟨a63⟩⟩ := m
    exact ⟨this.1, this.2.1⟩
  obtain ⟨K1, hK1⟩ : ∃ K, K = endMkNode k0 ls := ⟨_, rfl⟩
  have k1 : k0 ≤ K1 := hK1 ▸ endMkNode_le ls k0
  have k1' : K1 ≤ k0 + 10000000000000 := by
    have := endMkNode_bound ls k0 hls1
    rw [← hK1, hll] at this
    have : (ns.length : Int) ≤ 1048576 := by omega
    omega
  obtain ⟨L, hL⟩ : ∃ L, L = ms.map fun m => m.box.frames.length := ⟨_, rfl⟩
  obtain ⟨L2, hL2⟩ : ∃ L, L = qs.map fun _ => () := ⟨_, rfl⟩
  have hlL : L.length = ms.length := by rw [hL, List.length_map]
  have hlL2 : L2.length = qs.length := by rw [hL2, List.length_map]
  have hlm : ∀ l ∈ L, l ≤ 1048576 := fun l hl => by
    rw [hL] at hl
    obtain ⟨m, hm, rfl⟩ := List.mem_map.1 hl
    have := s3 m hm
    obtain ⟨a0, ⟨a1, a2⟩, ⟨a3, a4⟩, a5, ⟨a6, a7, a8, a9⟩⟩ := m
    exact this.1
  obtain ⟨K2, hK2⟩ : ∃ K, K = endMkAsked (endMkMemo K1 L) L2 := ⟨_, rfl⟩
  have k20 := endMkMemo_le L K1
  have k2 : K1 ≤ K2 := Int.le_trans k20 (hK2 ▸ endMkAsked_le L2 _)
  have k2' : K2 ≤ K1 + 10000000000000 := by
    have h2 := endMkMemo_bound L K1 hlm
    have h3 := endMkAsked_bound L2 (endMkMemo K1 L)
    rw [← hK2, hlL2] at h3
    rw [hlL] at h2
    have : (ms.length : Int) ≤ 1048576 := by omega
    have : (qs.length : Int) ≤ 1048576 := by omega
    omega
  have hok0 : ∀ (i : Nat) (x : List AC) (l : Nat × Nat), (vwA NNode.ac ns)[i]? = some x → ls[i]? = some l → okMkNode x l := fun i x l hx hl => by
    rw [hls] at hl
    simp only [vwA, List.getElem?_map, Option.map_eq_some_iff] at hx hl
    obtain ⟨m, hm, rfl⟩ := hx
    obtain ⟨m', hm', rfl⟩ := hl
    rw [hm] at hm'
    cases hm'
    exact okMkNode_of m (s1 m (List.mem_of_getElem? hm))
  have hok1 : ∀ (i : Nat) (x : List AC) (l : Nat), (vwA NMemo.ac ms)[i]? = some x → L[i]? = some l → okMkMemo x l := fun i x l hx hl => by
    rw [hL] at hl
    simp only [vwA, List.getElem?_map, Option.map_eq_some_iff] at hx hl
    obtain ⟨m, hm, rfl⟩ := hx
    obtain ⟨m', hm', rfl⟩ := hl
    rw [hm] at hm'
    cases hm'
    exact okMkMemo_of m (s3 m (List.mem_of_getElem? hm))
  have hok2 : ∀ (i : Nat) (x : List AC) (l : Unit), (vw GAsked.c qs)[i]? = some x → L2[i]? = some l → okMkAsked x l := fun i x l hx hl => by
    simp only [vw, List.getElem?_map, Option.map_eq_some_iff] at hx
    obtain ⟨q, hq, rfl⟩ := hx
    exact ⟨_, _, _, _, _, _, rfl⟩
  have n0 : (vwA NNode.ac ns).length = ls.length := by rw [vwA_length, hll]
  have n1 : (vwA NMemo.ac ms).length = L.length := by rw [vwA_length, hlL]
  have n2 : (vw GAsked.c qs).length = L2.length := by rw [vw_length, hlL2]
  have n3 : (vw GFrame.c fs).length = fs.length := vw_length _ _
  refine ⟨mkRowsNode k0 ls, mkRowsMemo K1 L, mkRowsAsked (endMkMemo K1 L) L2, vw GFrame.c (marksFrame K2 fs.length), K2 + 5 * (fs.length : Int), by omega, by omega, fun b0 b1 b2 b3 hnd => ?_, ?_⟩
  · obtain ⟨hn012, hn3, hd3⟩ := List.nodup_append.1 hnd
    obtain ⟨hn01, hn2, hd2⟩ := List.nodup_append.1 hn012
    obtain ⟨hn0, hn1, hd1⟩ := List.nodup_append.1 hn01
    have h12 : (b1 ++ b2).Nodup := by
      have : (b1 ++ b2).Sublist (b0 ++ b1 ++ b2) := by rw [List.append_assoc]; exact List.sublist_append_right _ _
      exact hn012.sublist this
    have hf := laws_markFrameS_n K2 b3 (vw GFrame.c fs) (by omega) (vw_k (c := GFrame.c) (k := 5) fun _ => rfl) (vw_imm _ _) hn3 (by omega) (by omega)
    rw [n3] at hf
    refine laws_markEngine_m k0 K1 K2 _ b0 b1 b2 b3 _ _ _ _ _ _ _ _ x0 x1 x2 x3 (by rw [hK1]; exact laws_markTree_m k0 b0 _ ls n0 (by omega) hok0 hn0 h0 (by omega)) (by rw [hK2]; exact laws_markKept_m K1 b1 b2 _ _ L L2 n1 (by omega) hok1 n2 (by omega) hok2 h12 (by omega) (by omega)) hf (fun u hu => ?_) hnd
    rcases List.mem_cons.1 hu with rfl | hu
    · exact ⟨⟨64, fun x hx => by
        obtain ⟨i, hi, rfl⟩ := List.getElem_of_mem hx
        exact okMkNode_len (hok0 i _ _ (List.getElem?_eq_getElem hi) (List.getElem?_eq_getElem (n0 ▸ hi))), mkRowsNode_k ls k0⟩, by rw [mkRowsNode_len, n0]⟩
    rcases List.mem_cons.1 hu with rfl | hu
    · exact ⟨⟨10, fun x hx => by
        obtain ⟨i, hi, rfl⟩ := List.getElem_of_mem hx
        obtain ⟨u0, u1, u2, u3, u4, u5, u6, u7, u8, F0, he, -⟩ := hok1 i _ _ (List.getElem?_eq_getElem hi) (List.getElem?_eq_getElem (n1 ▸ hi))
        rw [he]; rfl, mkRowsMemo_k L K1⟩, by rw [mkRowsMemo_len, n1]⟩
    rcases List.mem_cons.1 hu with rfl | hu
    · exact ⟨⟨6, vw_k (c := GAsked.c) (k := 6) fun _ => rfl, mkRowsAsked_k L2 _⟩, by rw [mkRowsAsked_len, n2]⟩
    rw [List.mem_singleton.1 hu]
    exact ⟨⟨5, vw_k (c := GFrame.c) (k := 5) fun _ => rfl, vw_k (c := GFrame.c) (k := 5) fun _ => rfl⟩, by rw [vw_length, vw_length]; simp [marksFrame]⟩
  · exact laws_heldEngine_n k0 K1 K2 _ _ _ _ _ x0 x1 x2 x3 (by omega) (by omega) (by omega) (laws_heldTree_n k0 K1 _ (by omega) (by rw [hK1]; exact laws_heldNodeS_n k0 ls (by omega) (fun l hl => (hls1 l hl).1) (fun l hl => (hls1 l hl).2) h0 (by omega))) (by rw [hK2]; exact laws_heldKept_n K1 L L2 (by omega) hlm (by omega) (by omega) (by omega)) (laws_heldFrameS_a K2 fs.length s5 (by omega) (by omega))
theorem markEngine_m (x : NEngine) (hs : x.small) (k0 : Int) (h0 : 0 ≤ k0) (h1 : k0 ≤ 1000000000000000) : ∃ (R0 R1 R2 R3 : List (List AC)) (K : Int), k0 ≤ K ∧ K ≤ k0 + 100000000000000 ∧
    ∀ b0 b1 b2 b3 : List Nat, (b0 ++ b1 ++ b2 ++ b3).Nodup → MCon Tryz.prog 15 [.agg (engR b0 b1 b2 b3 x), ai k0] [(b0, vwA NNode.ac x.tree.nodes, R0), (b1, vwA NMemo.ac x.kept.memos, R1), (b2, vw GAsked.c x.kept.asked, R2), (b3, vw GFrame.c x.frames, R3)] (.int .i64 K) := by
  obtain ⟨R0, R1, R2, R3, K, h2, h3, h4, -⟩ := markEngine_x x hs k0 h0 h1
  exact ⟨R0, R1, R2, R3, K, h2, h3, h4⟩
theorem markEngine_h (x : NEngine) (hs : x.small) : ∃ (R0 R1 R2 R3 : List (List AC)) (K : Int), 1 ≤ K ∧ K ≤ 1 + 100000000000000 ∧
    (∀ b0 b1 b2 b3 : List Nat, (b0 ++ b1 ++ b2 ++ b3).Nodup → MCon Tryz.prog 15 [.agg (engR b0 b1 b2 b3 x), ai 1] [(b0, vwA NNode.ac x.tree.nodes, R0), (b1, vwA NMemo.ac x.kept.memos, R1), (b2, vw GAsked.c x.kept.asked, R2), (b3, vw GFrame.c x.frames, R3)] (.int .i64 K)) ∧
    PCon Tryz.prog 16 [.agg [.view R0, .view R1, .view R2, .view R3, .imm (.int .i64 x.root), .imm (.int .i64 x.wide), .imm (.int .i64 x.high), .imm (.bool x.rtl)], ai 1] (fun res rows => res = .t (ai K) ∧ rows = []) := markEngine_x x hs 1 (by decide) (by decide)
theorem kpM_small (ns : List NNode) (x : NKept) (code n : Int) (hs : x.small) : NKept.small ⟨kpM ns x.memos code n, x.asked⟩ := by
  unfold kpM
  split
  · exact fgM_small ns x n hs
  · exact hs
theorem setT_small (x : NEngine) (ns : List NNode) (code n : Int) (hs : x.small) (hl : ns.length ≤ 1048576) (hn : ∀ y ∈ ns, NNode.small y) : (setT x ns code n).small := by
  obtain ⟨⟨ms0⟩, ⟨ms, qs⟩, fs, x0, x1, x2, x3⟩ := x
  obtain ⟨s0, s1, s2, s3, s4, s5, -⟩ := hs
  obtain ⟨h1, h2, h3, -⟩ := kpM_small ns ⟨ms, qs⟩ code n ⟨s2, s3, s4, trivial⟩
  exact ⟨hl, hn, h1, h2, h3, s5, trivial⟩
theorem fpL_node (u : Int) (K R : List (List AC)) (s : GStyle) (m : Bool) (b1 b2 : List Nat) : fpL (nodeE u K R s m b1 b2) = b1 ++ b2 := by
  show b1 ++ (b2 ++ []) = _
  rw [List.append_nil]
theorem fpE_split {E : List (List AC)} {j : Nat} {e : List AC} (he : E[j]? = some e) : ∃ A B, E = A ++ e :: B ∧ ∀ y, E.set j y = A ++ y :: B := by
  obtain ⟨hj, rfl⟩ := List.getElem?_eq_some_iff.1 he
  refine ⟨E.take j, E.drop (j + 1), ?_, fun y => ?_⟩
  · exact (List.take_append_drop j E).symm.trans (by rw [List.drop_eq_getElem_cons hj])
  · rw [List.set_eq_take_append_cons_drop, if_pos hj]
theorem CopyE.put {k lo lo' : Nat} {E V : List (List AC)} (h : CopyE k E V lo) {j : Nat} {e y v : List AC} (he : E[j]? = some e) (hy : y.map vwC = v) (hk : y.length = k) (hb : y.all bareF = true) {b1 bn : List Nat} (hf : (fpL y).Perm (b1 ++ bn)) (hs : b1.Sublist (fpL e)) (hn : NewB lo' bn) (hlo : lo ≤ lo') (hlt : ∀ b ∈ fpE E, b < lo') : CopyE k (E.set j y) (V.set j v) lo :=
  ⟨fun x hx => (List.mem_or_eq_of_mem_set hx).elim (h.kk x) fun h1 => by rw [h1]; exact hk, fun x hx => (List.mem_or_eq_of_mem_set hx).elim (h.bare x) fun h1 => by rw [h1]; exact hb, by rw [List.map_set, h.eq, hy], by
    obtain ⟨A, B, h1, h2⟩ := fpE_split he
    have hE : fpE E = fpE A ++ (fpL e ++ fpE B) := by rw [h1, fpE_app]; rfl
    rw [h2 y]
    have hE2 : fpE (A ++ y :: B) = fpE A ++ (fpL y ++ fpE B) := by rw [fpE_app]; rfl
    rw [hE2]
    have hsub : (fpE A ++ (b1 ++ fpE B)).Sublist (fpE E) := by rw [hE]; exact List.Sublist.append (List.Sublist.refl _) (List.Sublist.append hs (List.Sublist.refl _))
    have h3 : NewB lo (fpE A ++ (b1 ++ fpE B)) := h.new.sub hsub
    refine (h3.app hlo hn fun b hb => hlt b (hsub.subset hb)).perm (List.perm_iff_count.2 fun a => ?_)
    have := List.perm_iff_count.1 hf a
    simp only [List.count_append] at this ⊢
    omega⟩
def hasI (xs : List Int) (n : Int) : Bool := xs.any fun x => decide (x = n)
theorem vw_app (xs ys : List Int) : vw intC (xs ++ ys) = vw intC xs ++ vw intC ys := by simp [vw]
theorem cnt_mem : ∀ (xs : List Int) (n : Int), cnt xs n = 1 → n ∈ xs
  | [], n, h => by simp [cnt] at h
  | x :: xs, n, h => by
    by_cases hx : x = n
    · rw [hx]; exact List.mem_cons_self ..
    · refine List.mem_cons_of_mem _ (cnt_mem xs n ?_)
      simpa [cnt, hx] using h
theorem hasI_iff (xs : List Int) (n : Int) : hasI xs n = true ↔ n ∈ xs := by simp [hasI]
theorem tree_at {ns : List NNode} (h : treeB ns = true) {n : Int} {x : NNode} (h1 : 1 ≤ n) (hx : ns[(n - 1).toNat]? = some x) : nodeOk ns n x = true := by
  simp only [treeB, Bool.and_eq_true] at h
  have := (goT_iff ns ns 0).1 h.2 _ x hx
  rwa [show (0 : Int) + (((n - 1).toNat : Nat) : Int) + 1 = n by omega] at this
theorem up_has {ns : List NNode} (h : treeB ns = true) {n k : Int} {x y : NNode} (h1 : 1 ≤ n) (hx : ns[(n - 1).toNat]? = some x) (k1 : 1 ≤ k) (hy : ns[(k - 1).toNat]? = some y) : y.up = n ↔ hasI x.kids k = true := by
  have hk : kidsN ns n = x.kids := by unfold kidsN; rw [hx]
  have hu : upN ns k = y.up := by unfold upN; rw [hy]
  constructor
  · intro he
    have := tree_at h k1 hy
    simp only [nodeOk, upOk, Bool.and_eq_true, Bool.or_eq_true, decide_eq_true_eq, he, hk] at this
    rcases this.2.2.1 with h2 | h2
    · omega
    · exact (hasI_iff _ _).2 (cnt_mem _ _ h2)
  · intro he
    have := tree_at h h1 hx
    simp only [nodeOk, Bool.and_eq_true, List.all_eq_true, kidOk, decide_eq_true_eq] at this
    rw [← hu]
    exact (this.2.2.2.1 k ((hasI_iff _ _).1 he)).2
def fa (bl : Nat → Nat) (h : AH) : List AC → List AC → Prop
  | [], [] => True
  | c :: l, d :: l' => ResS bl h c d ∧ fa bl h l l'
  | _, _ => False
theorem fa_refl {bl : Nat → Nat} {h : AH} : ∀ {x : List AC}, x.all bareF = true → fa bl h x x
  | [], _ => trivial
  | c :: l, hb => by
    simp only [List.all_cons, Bool.and_eq_true] at hb
    refine ⟨?_, fa_refl hb.2⟩
    cases c <;> first | exact .imm _ | exact .fv _ _ | cases hb.1
structure FE (bl : Nat → Nat) (h : AH) (X Y : List (List AC)) : Prop where
  len : X.length = Y.length
  at_ : ∀ (i : Nat) (x y : List AC), X[i]? = some x → Y[i]? = some y → fa bl h x y
theorem FE.refl {bl : Nat → Nat} {h : AH} {X : List (List AC)} (hb : ∀ e ∈ X, e.all bareF = true) : FE bl h X X := ⟨rfl, fun i x y hx hy => by
  rw [hx] at hy; cases hy; exact fa_refl (hb x (List.mem_of_getElem? hx))⟩
theorem FE.set {bl : Nat → Nat} {h : AH} {X Y : List (List AC)} (hf : FE bl h X Y) {j : Nat} {x y : List AC} (hx : fa bl h x y) : FE bl h (X.set j x) (Y.set j y) := ⟨by simp [hf.len], fun i a b ha hb => by
  have la := (List.getElem?_eq_some_iff.1 ha).1
  have lb := (List.getElem?_eq_some_iff.1 hb).1
  rw [List.length_set] at la lb
  by_cases hij : j = i
  · subst hij
    rw [List.getElem?_set_self la] at ha
    rw [List.getElem?_set_self lb] at hb
    cases ha
    cases hb
    exact hx
  · rw [List.getElem?_set_ne hij] at ha hb
    exact hf.at_ i a b ha hb⟩
def nodeK (u : Int) (q : Nat) (R : List (List AC)) (s : GStyle) (m : Bool) (b2 : List Nat) : List AC := .imm (.int .i64 u) :: .own q :: (lc (GStyle.c s) ++ [.imm (.bool m), .fv b2 R])
inductive Ch (ns : List NNode) : Int → List Int → Prop
  | root : Ch ns 0 []
  | up {v : Int} {l : List Int} (h0 : v ≠ 0) (hi : isN ns v = true) (h : Ch ns (upN ns v) l) : Ch ns v (v :: l)
theorem Ch.dep {ns : List NNode} : ∀ {v : Int} {l : List Int}, Ch ns v l → ∀ (f : Nat) (k : Int), l.length ≤ f → depF ns f k v = k + (l.length : Int)
  | _, _, .root, f, k, _ => by rw [dep_zero]; simp
  | _, _, .up h0 hi h, f, k, hf => by
    cases f with
    | zero => simp at hf
    | succ f =>
      simp only [List.length_cons] at hf
      rw [dep_step ns h0 hi, h.dep f (k + 1) (by omega), List.length_cons]
      omega
theorem Ch.of_dep {ns : List NNode} : ∀ (f : Nat) (k v : Int), 0 ≤ k → (v ≠ 0 ∨ 1 ≤ k) → 1 ≤ depF ns f k v → ∃ l, Ch ns v l ∧ l.length ≤ f
  | 0, k, v, h0, h1, h => by
    by_cases hv : v = 0
    · subst hv; exact ⟨[], .root, Nat.le_refl _⟩
    · simp [depF, hv] at h
  | f + 1, k, v, h0, h1, h => by
    by_cases hv : v = 0
    · subst hv; exact ⟨[], .root, Nat.zero_le _⟩
    · cases hi : isN ns v with
      | false => rw [dep_out ns _ _ _ hv hi] at h; omega
      | true =>
        rw [dep_step ns hv hi] at h
        obtain ⟨l, hl, hf⟩ := Ch.of_dep f (k + 1) (upN ns v) (by omega) (.inr (by omega)) h
        exact ⟨v :: l, .up hv hi hl, by simp; omega⟩
theorem Ch.det {ns : List NNode} : ∀ {v : Int} {l l' : List Int}, Ch ns v l → Ch ns v l' → l = l'
  | _, _, _, .root, .root => rfl
  | _, _, _, .root, .up h0 _ _ => absurd rfl h0
  | _, _, _, .up h0 _ _, .root => absurd rfl h0
  | _, _, _, .up _ _ h, .up _ _ h' => by rw [h.det h']
theorem Ch.suffix {ns : List NNode} : ∀ {v : Int} {l : List Int}, Ch ns v l → ∀ u ∈ l, ∃ l2, Ch ns u l2 ∧ l2.length ≤ l.length ∧ ∃ l1, l = l1 ++ l2
  | _, _, .root, u, hu => by simp at hu
  | _, _, .up (v := v) (l := l) h0 hi h, u, hu => by
    rcases List.mem_cons.1 hu with rfl | hu
    · exact ⟨_, .up h0 hi h, Nat.le_refl _, [], rfl⟩
    · obtain ⟨l2, h1, h2, l1, h3⟩ := h.suffix u hu
      exact ⟨l2, h1, by simp; omega, v :: l1, by rw [h3]; rfl⟩
theorem Ch.nodup {ns : List NNode} : ∀ {v : Int} {l : List Int}, Ch ns v l → l.Nodup
  | _, _, .root => List.nodup_nil
  | _, _, .up (v := v) (l := l) h0 hi h => by
    refine List.nodup_cons.2 ⟨fun hm => ?_, h.nodup⟩
    obtain ⟨l2, h1, h2, _⟩ := h.suffix v hm
    have := (Ch.up h0 hi h).det h1
    rw [← this] at h2
    simp only [List.length_cons] at h2
    omega
theorem Ch.nodes {ns : List NNode} : ∀ {v : Int} {l : List Int}, Ch ns v l → ∀ u ∈ l, isN ns u = true
  | _, _, .root, u, hu => by simp at hu
  | _, _, .up h0 hi h, u, hu => by
    rcases List.mem_cons.1 hu with rfl | hu
    · exact hi
    · exact h.nodes u hu
theorem nodup_le : ∀ (N : Nat) (l : List Int), l.Nodup → (∀ u ∈ l, 1 ≤ u ∧ u ≤ (N : Int)) → l.length ≤ N
  | 0, l, hn, h => by
    cases l with
    | nil => exact Nat.le_refl _
    | cons u l => have := h u (List.mem_cons_self ..); omega
  | N + 1, l, hn, h => by
    by_cases hm : ((N + 1 : Nat) : Int) ∈ l
    · have h1 := nodup_le N (l.erase ((N + 1 : Nat) : Int)) (hn.erase _) (fun u hu => by
        have h2 := h u (List.mem_of_mem_erase hu)
        have h3 : u ≠ ((N + 1 : Nat) : Int) := fun e => by rw [e] at hu; exact (hn.mem_erase_iff.1 hu).1 rfl
        omega)
      rw [List.length_erase_of_mem hm] at h1
      omega
    · have := nodup_le N l hn (fun u hu => by
        have h2 := h u hu
        have h3 : u ≠ ((N + 1 : Nat) : Int) := fun e => hm (e ▸ hu)
        omega)
      omega
theorem Ch.len {ns : List NNode} {v : Int} {l : List Int} (h : Ch ns v l) : l.length ≤ ns.length :=
  nodup_le _ l h.nodup fun u hu => by
    obtain ⟨h1, h2, _⟩ := isN_at (h.nodes u hu)
    exact ⟨h1, h2⟩
theorem tree_ch {ns : List NNode} (h : treeB ns = true) {v : Int} (hi : isN ns v = true) : ∃ l, Ch ns v l := by
  obtain ⟨h1, h2, x, hx⟩ := isN_at hi
  have := tree_at h h1 hx
  simp only [nodeOk, Bool.and_eq_true] at this
  have h3 : 1 ≤ depN ns v := by
    have h4 := this.2.1
    simp only [rng, Bool.and_eq_true, decide_eq_true_eq] at h4
    exact h4.1
  obtain ⟨l, hl, _⟩ := Ch.of_dep ns.length 0 v (Int.le_refl 0) (.inl (by omega)) h3
  exact ⟨l, hl⟩
theorem und_ch {ns : List NNode} {a : Int} (ha : isN ns a = true) : ∀ {v : Int} {l : List Int}, Ch ns v l → ∀ (k : Nat), l.length ≤ k → undF ns a k v = false → a ∉ l.tail
  | _, _, .root, k, _, _ => by simp
  | _, _, .up (v := v) (l := l) h0 hi h, k, hk, hu => by
    cases k with
    | zero => simp at hk
    | succ k =>
      simp only [List.length_cons] at hk
      by_cases hup : upN ns v = a
      · rw [undF_hit hi rfl hup, ha] at hu; cases hu
      · rw [undF_up hi rfl hup] at hu
        have h1 := und_ch ha h k (by omega) hu
        simp only [List.tail_cons]
        obtain ⟨u, hu'⟩ : ∃ u, u = upN ns v := ⟨_, rfl⟩
        rw [← hu'] at h hup
        cases h with
        | root => simp
        | up h0' hi' h' =>
          intro hm
          rcases List.mem_cons.1 hm with e | hm
          · exact hup e.symm
          · exact h1 (by simpa using hm)
def inO (ns : List NNode) (n kid : Int) : Bool := treeB ns && (isN ns n && isN ns kid)
def inK (ks : List Int) (kid : Int) (p : Int) : List Int := ks.take p.toNat ++ (kid :: ks.drop p.toNat)
def inT (ns : List NNode) (n kid p : Int) : List NNode := match ns[(n - 1).toNat]?, ns[(kid - 1).toNat]? with
  | some x, some y => (ns.set (n - 1).toNat { x with kids := inK x.kids kid p }).set (kid - 1).toNat { y with up := n }
  | _, _ => ns
structure InF (ns : List NNode) (n kid p : Int) (x y : NNode) : Prop where
  tr : treeB ns = true
  hn : isN ns n = true
  hk : isN ns kid = true
  hx : ns[(n - 1).toNat]? = some x
  hy : ns[(kid - 1).toNat]? = some y
  ne : kid ≠ n
  und : undF ns kid ns.length n = false
  up0 : y.up = 0
  mea : x.measured = false
variable {ns : List NNode} {n kid p : Int} {x y : NNode}
theorem InF.n1 (h : InF ns n kid p x y) : 1 ≤ n ∧ n ≤ (ns.length : Int) ∧ 1 ≤ kid ∧ kid ≤ (ns.length : Int) := by
  obtain ⟨a, b, _⟩ := isN_at h.hn
  obtain ⟨c, d, _⟩ := isN_at h.hk
  exact ⟨a, b, c, d⟩
theorem InF.eq (h : InF ns n kid p x y) : inT ns n kid p = (ns.set (n - 1).toNat { x with kids := inK x.kids kid p }).set (kid - 1).toNat { y with up := n } := by
  unfold inT; rw [h.hx, h.hy]
theorem InF.len (h : InF ns n kid p x y) : (inT ns n kid p).length = ns.length := by rw [h.eq]; simp
theorem InF.isN (h : InF ns n kid p x y) (v : Int) : Go.Proofs.YtenbloaopcfdlaaGreat.isN (inT ns n kid p) v = Go.Proofs.YtenbloaopcfdlaaGreat.isN ns v := by unfold Go.Proofs.YtenbloaopcfdlaaGreat.isN; rw [h.len]
theorem InF.at_ (h : InF ns n kid p x y) {v : Int} (hv : 1 ≤ v) : (inT ns n kid p)[(v - 1).toNat]? = if v = kid then some { y with up := n } else if v = n then some { x with kids := inK x.kids kid p } else ns[(v - 1).toNat]? := by
  obtain ⟨n1, n2, k1, k2⟩ := h.n1
  have hne := h.ne
  rw [h.eq]
  by_cases h1 : v = kid
  · subst h1
    rw [if_pos rfl, List.getElem?_set_self (by simp; omega)]
  · rw [if_neg h1, List.getElem?_set_ne (by omega)]
    by_cases h2 : v = n
    · subst h2
      rw [if_pos rfl, List.getElem?_set_self (by omega)]
    · rw [if_neg h2, List.getElem?_set_ne (by omega)]
theorem InF.upN (h : InF ns n kid p x y) {v : Int} (hv : 1 ≤ v) : Go.Proofs.YtenbloaopcfdlaaGreat.upN (inT ns n kid p) v = if v = kid then n else Go.Proofs.YtenbloaopcfdlaaGreat.upN ns v := by
  unfold Go.Proofs.YtenbloaopcfdlaaGreat.upN
  rw [h.at_ hv]
  by_cases h1 : v = kid
  · rw [if_pos h1, if_pos h1]
  · rw [if_neg h1, if_neg h1]
    by_cases h2 : v = n
    · subst h2; rw [if_pos rfl, h.hx]
    · rw [if_neg h2]
theorem InF.ch_same (h : InF ns n kid p x y) : ∀ {v : Int} {l : List Int}, Ch ns v l → kid ∉ l → Ch (inT ns n kid p) v l
  | _, _, .root, _ => .root
  | _, _, .up h0 hi hc, hk => by
    obtain ⟨v1, _⟩ := isN_at hi
    refine .up h0 (by rw [h.isN]; exact hi) ?_
    rw [h.upN v1, if_neg (fun e => hk (by rw [e]; exact List.mem_cons_self ..))]
    exact h.ch_same hc fun hm => hk (List.mem_cons_of_mem _ hm)
theorem InF.ch_n (h : InF ns n kid p x y) : ∃ l, Ch (inT ns n kid p) n l := by
  obtain ⟨l, hl⟩ := tree_ch h.tr h.hn
  refine ⟨l, h.ch_same hl fun hm => ?_⟩
  have h1 := und_ch h.hk hl ns.length hl.len h.und
  obtain ⟨n1, _⟩ := h.n1
  cases hl with
  | root => simp at hm
  | up h0 hi hc =>
    rcases List.mem_cons.1 hm with e | hm
    · exact h.ne e
    · exact h1 (by simpa using hm)
theorem InF.ch (h : InF ns n kid p x y) : ∀ {v : Int} {l : List Int}, Ch ns v l → ∃ l', Ch (inT ns n kid p) v l'
  | _, _, .root => ⟨[], .root⟩
  | _, _, .up (v := v) (l := l) h0 hi hc => by
    obtain ⟨v1, _⟩ := isN_at hi
    have hi' : Go.Proofs.YtenbloaopcfdlaaGreat.isN (inT ns n kid p) v = true := by rw [h.isN]; exact hi
    by_cases hv : v = kid
    · obtain ⟨l', hl⟩ := h.ch_n
      exact ⟨v :: l', .up h0 hi' (by rw [h.upN v1, if_pos hv]; exact hl)⟩
    · obtain ⟨l', hl⟩ := h.ch hc
      exact ⟨v :: l', .up h0 hi' (by rw [h.upN v1, if_neg hv]; exact hl)⟩
theorem InF.dep (h : InF ns n kid p x y) {v : Int} (hi : Go.Proofs.YtenbloaopcfdlaaGreat.isN ns v = true) : 1 ≤ depN (inT ns n kid p) v := by
  obtain ⟨l, hl⟩ := tree_ch h.tr hi
  obtain ⟨l', hl'⟩ := h.ch hl
  obtain ⟨v1, _⟩ := isN_at hi
  have h1 := hl'.dep (inT ns n kid p).length 0 hl'.len
  unfold depN
  rw [h1]
  cases hl' with
  | root => omega
  | up h0 hi hc => simp only [List.length_cons]; omega
theorem cnt_app (a b : List Int) (v : Int) : cnt (a ++ b) v = cnt a v + cnt b v := by simp [cnt]
theorem cnt_in (ks : List Int) (kid p v : Int) : cnt (inK ks kid p) v = cnt ks v + if kid = v then 1 else 0 := by
  unfold inK
  have h1 := cnt_app (ks.take p.toNat) (ks.drop p.toNat) v
  rw [List.take_append_drop] at h1
  rw [cnt_app, h1]
  have h2 : cnt (kid :: ks.drop p.toNat) v = (if kid = v then 1 else 0) + cnt (ks.drop p.toNat) v := by simp [cnt]
  rw [h2]
  omega
theorem cnt_none (xs : List Int) (v : Int) (h : v ∉ xs) : cnt xs v = 0 := by
  induction xs with
  | nil => rfl
  | cons x xs ih =>
    simp only [List.mem_cons, not_or] at h
    have := ih h.2
    have h1 : ¬ x = v := fun e => h.1 e.symm
    simp only [cnt, List.map_cons, List.sum_cons, if_neg h1] at this ⊢
    omega
theorem mem_in {ks : List Int} {kid p k : Int} : k ∈ inK ks kid p ↔ k = kid ∨ k ∈ ks := by
  unfold inK
  constructor
  · intro h
    rcases List.mem_append.1 h with h | h
    · exact .inr (List.mem_of_mem_take h)
    · rcases List.mem_cons.1 h with h | h
      · exact .inl h
      · exact .inr (List.mem_of_mem_drop h)
  · intro h
    rcases h with h | h
    · rw [h]; exact List.mem_append_right _ (List.mem_cons_self ..)
    · rw [← List.take_append_drop p.toNat ks] at h
      rcases List.mem_append.1 h with h | h
      · exact List.mem_append_left _ h
      · exact List.mem_append_right _ (List.mem_cons_of_mem _ h)
theorem tree_up {ns : List NNode} (h : treeB ns = true) {v : Int} (hi : isN ns v = true) : upN ns v = 0 ∨ isN ns (upN ns v) = true := by
  obtain ⟨l, hl⟩ := tree_ch h hi
  obtain ⟨v1, _⟩ := isN_at hi
  obtain ⟨u, hu⟩ : ∃ u, u = upN ns v := ⟨_, rfl⟩
  cases hl with
  | root => omega
  | up h0 hi hc =>
    rw [← hu] at hc ⊢
    cases hc with
    | root => exact .inl rfl
    | up h0' hi' _ => exact .inr hi'
theorem InF.kid_no (h : InF ns n kid p x y) {v : Int} (v1 : 1 ≤ v) {z : NNode} (hz : ns[(v - 1).toNat]? = some z) : kid ∉ z.kids := fun hm => by
  obtain ⟨n1, n2, k1, k2⟩ := h.n1
  have := (up_has h.tr v1 hz k1 h.hy).2 ((hasI_iff _ _).2 hm)
  rw [h.up0] at this
  omega
theorem InF.kidsN (h : InF ns n kid p x y) {v : Int} (hv : 1 ≤ v) : Go.Proofs.YtenbloaopcfdlaaGreat.kidsN (inT ns n kid p) v = if v = n then inK x.kids kid p else Go.Proofs.YtenbloaopcfdlaaGreat.kidsN ns v := by
  unfold Go.Proofs.YtenbloaopcfdlaaGreat.kidsN
  rw [h.at_ hv]
  by_cases h1 : v = kid
  · subst h1
    rw [if_pos rfl, if_neg h.ne, h.hy]
  · rw [if_neg h1]
    by_cases h2 : v = n
    · rw [if_pos h2, if_pos h2]
    · rw [if_neg h2, if_neg h2]
theorem InF.tree (h : InF ns n kid p x y) : treeB (inT ns n kid p) = true ↔ ∀ v, Go.Proofs.YtenbloaopcfdlaaGreat.isN ns v = true → depN (inT ns n kid p) v ≤ 4 := by
  obtain ⟨n1, n2, k1, k2⟩ := h.n1
  constructor
  · intro ht v hi
    rw [← h.isN] at hi
    obtain ⟨v1, v2, z, hz⟩ := isN_at hi
    have := tree_at ht v1 hz
    simp only [nodeOk, Bool.and_eq_true] at this
    have h4 := this.2.1
    simp only [rng, Bool.and_eq_true, decide_eq_true_eq] at h4
    exact h4.2
  · intro hd
    have htr := h.tr
    simp only [treeB, Bool.and_eq_true, decide_eq_true_eq] at htr ⊢
    refine ⟨by rw [h.len]; exact htr.1, (goT_iff _ _ 0).2 fun i z hz => ?_⟩
    have hil : i < ns.length := by rw [← h.len]; exact (List.getElem?_eq_some_iff.1 hz).1
    obtain ⟨v, hv⟩ : ∃ v : Int, v = 0 + (i : Int) + 1 := ⟨_, rfl⟩
    rw [← hv]
    have v1 : 1 ≤ v := by omega
    have hvi : (v - 1).toNat = i := by omega
    have hi : Go.Proofs.YtenbloaopcfdlaaGreat.isN ns v = true := by
      unfold Go.Proofs.YtenbloaopcfdlaaGreat.isN rng
      simp only [Bool.and_eq_true, decide_eq_true_eq]
      omega
    rw [← hvi, h.at_ v1] at hz
    have hdp : rng (depN (inT ns n kid p) v) 1 4 = true := by
      unfold rng
      simp only [Bool.and_eq_true, decide_eq_true_eq]
      exact ⟨h.dep hi, hd v hi⟩
    obtain ⟨z0, hz0⟩ : ∃ z0, ns[(v - 1).toNat]? = some z0 := ⟨_, List.getElem?_eq_getElem (by omega)⟩
    have hold := tree_at h.tr v1 hz0
    simp only [nodeOk, Bool.and_eq_true, List.all_eq_true, kidOk, decide_eq_true_eq] at hold
    obtain ⟨o1, _, o3, o4, o5⟩ := hold
    have hkn := h.kid_no v1 hz0
    have hkid : ∀ k ∈ z0.kids, (Go.Proofs.YtenbloaopcfdlaaGreat.isN (inT ns n kid p) k && decide (Go.Proofs.YtenbloaopcfdlaaGreat.upN (inT ns n kid p) k = v)) = true := fun k hk => by
      obtain ⟨q1, q2⟩ := o4 k hk
      obtain ⟨k1', _⟩ := isN_at q1
      have hkk : ¬ k = kid := fun e => hkn (by rw [← e]; exact hk)
      rw [h.isN, q1, h.upN k1', if_neg hkk, q2]
      simp
    have hup : v ≠ kid → upOk (inT ns n kid p) v z0.up = true := fun hne => by
      unfold upOk at o3 ⊢
      simp only [Bool.or_eq_true, decide_eq_true_eq] at o3 ⊢
      have hu : Go.Proofs.YtenbloaopcfdlaaGreat.upN ns v = z0.up := by unfold Go.Proofs.YtenbloaopcfdlaaGreat.upN; rw [hz0]
      rcases tree_up h.tr hi with h0 | h0
      · rw [hu] at h0; exact .inl h0
      · rw [hu] at h0
        obtain ⟨u1, _⟩ := isN_at h0
        rcases o3 with h2 | h2
        · exact .inl h2
        · right
          rw [h.kidsN u1]
          by_cases hun : z0.up = n
          · rw [if_pos hun, cnt_in, if_neg (fun e => hne e.symm)]
            rw [hun] at h2
            have : Go.Proofs.YtenbloaopcfdlaaGreat.kidsN ns n = x.kids := by unfold Go.Proofs.YtenbloaopcfdlaaGreat.kidsN; rw [h.hx]
            rw [this] at h2
            omega
          · rw [if_neg hun]; exact h2
    by_cases e1 : v = kid
    · subst e1
      rw [if_pos rfl] at hz
      cases hz
      rw [h.hy] at hz0
      cases hz0
      simp only [nodeOk, Bool.and_eq_true, List.all_eq_true, kidOk]
      refine ⟨o1, hdp, ?_, fun k hk => by simpa using hkid k hk, o5⟩
      unfold upOk
      simp only [Bool.or_eq_true, decide_eq_true_eq]
      right
      rw [h.kidsN n1, if_pos rfl, cnt_in, if_pos rfl, cnt_none _ _ (h.kid_no n1 h.hx)]
      rfl
    · rw [if_neg e1] at hz
      by_cases e2 : v = n
      · subst e2
        rw [if_pos rfl] at hz
        cases hz
        rw [h.hx] at hz0
        cases hz0
        simp only [nodeOk, Bool.and_eq_true, List.all_eq_true, kidOk]
        refine ⟨o1, hdp, hup e1, fun k hk => ?_, ?_⟩
        · rcases mem_in.1 hk with hk | hk
          · subst hk
            rw [h.isN, h.hk, h.upN k1, if_pos rfl]
            simp
          · simpa using hkid k hk
        · unfold tabE at o5 ⊢
          simp only [h.mea] at o5 ⊢
          simpa using o5
      · rw [if_neg e2, hz0] at hz
        cases hz
        simp only [nodeOk, Bool.and_eq_true, List.all_eq_true, kidOk]
        exact ⟨o1, hdp, hup e1, fun k hk => by simpa using hkid k hk, o5⟩
end Go.Proofs.YtenbloaopcfdlaaGreat
namespace Go.Proofs.YtenbloaopcfdlaaGreat
open Go.ChangeShapes Go.WideShapes Go.ChangeAt Go.RowKit Am
set_option linter.unusedVariables false
set_option linter.unusedSimpArgs false
set_option maxRecDepth 100000
theorem impl_copyInts_a (ws : List Int) (hl : ws.length ≤ 1048576) : PCon Tryz.prog 106 [.c (.view (vw intC ws))] fun res rows => res = .t (.c (.own 0)) ∧ rows = [⟨3, 1, vw intC ws⟩] := by
  obtain ⟨V, hV⟩ : ∃ V, V = vw intC ws := ⟨_, rfl⟩
  have hVl : V.length = ws.length := by rw [hV, vw_length]
  have iV : immE V = true := by rw [hV]; exact vw_imm _ _
  have kV : ∀ y ∈ V, y.length = 1 := by rw [hV]; exact vw_k (c := intC) (k := 1) fun _ => rfl
  have dV : ∀ y ∈ V, y.all dat = true := by rw [hV]; exact vw_dat
  have pV : plainE V = true := by rw [hV]; exact vw_plain _ _
  rw [← hV]
  refine pcon_run (c := body Tryz.f106) fits Tryz.func106 (by kernel_rfl) (by kernel_rfl) (by rfl) (by kernel_rfl) fun g F hg hF => ?_
  cbv
  refine goN hg ⟨kV, by omega, by omega⟩ ?_
  cbv
  rw [goAp hg]
  exact finRow hF rfl pV
theorem cnt_nn (xs : List Int) (n : Int) : 0 ≤ cnt xs n ∧ (n ∈ xs → 1 ≤ cnt xs n) := by
  induction xs with
  | nil => simp [cnt]
  | cons x xs ih =>
    have e : cnt (x :: xs) n = (if x = n then 1 else 0) + cnt xs n := by simp [cnt]
    rw [e]
    obtain ⟨i1, i2⟩ := ih
    by_cases hx : x = n
    · rw [if_pos hx]; exact ⟨by omega, fun _ => by omega⟩
    · rw [if_neg hx]
      refine ⟨by omega, fun h => ?_⟩
      rcases List.mem_cons.1 h with h | h
      · exact absurd h.symm hx
      · have := i2 h; omega
theorem nd_of_cnt : ∀ (xs : List Int), (∀ k ∈ xs, cnt xs k = 1) → xs.Nodup
  | [], _ => List.nodup_nil
  | x :: xs, h => by
    have e : ∀ n, cnt (x :: xs) n = (if x = n then 1 else 0) + cnt xs n := fun n => by simp [cnt]
    have hx : x ∉ xs := fun hm => by
      have h1 := h x (List.mem_cons_self ..)
      rw [e, if_pos rfl] at h1
      have := (cnt_nn xs x).2 hm
      omega
    refine List.nodup_cons.2 ⟨hx, nd_of_cnt xs fun k hk => ?_⟩
    have h1 := h k (List.mem_cons_of_mem _ hk)
    rw [e, if_neg (fun hxk : x = k => hx (by rw [hxk]; exact hk))] at h1
    omega
theorem nd_len : ∀ (M : Nat) (xs : List Int), xs.Nodup → (∀ k ∈ xs, 1 ≤ k ∧ k ≤ (M : Int)) → xs.length ≤ M
  | 0, xs, _, h => by
    cases xs with
    | nil => simp
    | cons x xs => have := h x (List.mem_cons_self ..); omega
  | M + 1, xs, hn, h => by
    have h1 := nd_len M (xs.erase ((M : Int) + 1)) (hn.erase _) (fun k hk => by
      have hk2 := (hn.mem_erase_iff).1 hk
      have := h k hk2.2
      have hne := hk2.1
      omega)
    by_cases hm : (M : Int) + 1 ∈ xs
    · have h2 := List.length_erase_of_mem hm
      have := List.length_pos_of_mem hm
      omega
    · rw [List.erase_of_not_mem hm] at h1; omega
theorem tree_len {ns : List NNode} (h : treeB ns = true) : ns.length ≤ 12 := by
  simp only [treeB, Bool.and_eq_true, decide_eq_true_eq] at h
  omega
theorem tree_kids {ns : List NNode} (h : treeB ns = true) {n : Int} {x : NNode} (h1 : 1 ≤ n) (hx : ns[(n - 1).toNat]? = some x) : ∀ k ∈ x.kids, isN ns k = true := fun k hk => by
  simp only [treeB, Bool.and_eq_true] at h
  have := (goT_iff ns ns 0).1 h.2 _ x hx
  simp only [nodeOk, Bool.and_eq_true, List.all_eq_true, kidOk] at this
  exact (this.2.2.2.1 k hk).1
theorem tree_kl {ns : List NNode} (h : treeB ns = true) {n : Int} {x : NNode} (h1 : 1 ≤ n) (hx : ns[(n - 1).toNat]? = some x) : x.kids.length ≤ 12 := by
  have hk := tree_kids h h1 hx
  have hl := tree_len h
  have h2 : ∀ k ∈ x.kids, upN ns k = n := fun k hkm => by
    have h3 := h
    simp only [treeB, Bool.and_eq_true] at h3
    have := (goT_iff ns ns 0).1 h3.2 _ x hx
    simp only [nodeOk, Bool.and_eq_true, List.all_eq_true, kidOk, decide_eq_true_eq] at this
    have := (this.2.2.2.1 k hkm).2
    omega
  have hnd : x.kids.Nodup := nd_of_cnt _ fun k hkm => by
    obtain ⟨k1, k2, y, hy⟩ := isN_at (hk k hkm)
    have h3 := h
    simp only [treeB, Bool.and_eq_true] at h3
    have h4 := (goT_iff ns ns 0).1 h3.2 _ y hy
    simp only [nodeOk, Bool.and_eq_true, upOk, Bool.or_eq_true, decide_eq_true_eq] at h4
    have hu : y.up = n := by have := h2 k hkm; unfold upN at this; rw [hy] at this; exact this
    have h5 := h4.2.2.1
    rw [hu] at h5
    have h6 : kidsN ns n = x.kids := by simp only [kidsN, hx]
    rw [h6, show (0 : Int) + (((k - 1).toNat : Nat) : Int) + 1 = k by omega] at h5
    rcases h5 with h5 | h5
    · omega
    · exact h5
  have := nd_len 12 x.kids hnd fun k hkm => by
    obtain ⟨k1, k2, y, hy⟩ := isN_at (hk k hkm)
    omega
  exact this
theorem inK_vw (ks : List Int) (kid p : Int) : vw intC (inK ks kid p) = vw intC (ks.take p.toNat) ++ [[.imm (.int .i64 kid)]] ++ vw intC (ks.drop p.toNat) := by
  unfold inK
  rw [vw_app, List.append_assoc]; rfl
theorem goSVhi {P : Program} {n0 N : Nat} {β : BP} {g : Gd} (hg : g = G0 P n0 N) {xs A : List (List AC)} {k : Nat} {a : Int} {K : List (List AC) → Prop} (hk : ∀ y ∈ xs, y.length = k) (h0 : 0 ≤ a) (h1 : a ≤ lenI xs) (hA : A = xs.take a.toNat) (hK : K A) : g .S xs k none (some a) K := by
  subst hg hA
  have := lenI_eq xs
  exact ⟨hk, 0, a.toNat, rfl, ⟨h0, rfl⟩, Nat.zero_le _, by omega, by simpa using hK⟩
theorem goSVlo {P : Program} {n0 N : Nat} {β : BP} {g : Gd} (hg : g = G0 P n0 N) {xs A : List (List AC)} {k : Nat} {a : Int} {K : List (List AC) → Prop} (hk : ∀ y ∈ xs, y.length = k) (h0 : 0 ≤ a) (h1 : a ≤ lenI xs) (hA : A = xs.drop a.toNat) (hK : K A) : g .S xs k (some a) none K := by
  subst hg hA
  have := lenI_eq xs
  exact ⟨hk, a.toNat, xs.length, ⟨h0, rfl⟩, rfl, by omega, Nat.le_refl _, by simpa using hK⟩
theorem goNE {P : Program} {n0 N : Nat} {β : BP} {g : Gd} (hg : g = G0 P n0 N) {V es : List (List AC)} {t k k' by_ : Nat} {q : Prop} (hk : ∀ y ∈ V, y.length = k) (hb : by_ ≤ 65536) (hl : V.length ≤ 1048576) (hl2 : es.length ≤ 1048577) (hq : q) :
    g .N ((∀ x, x ∈ V → x.length = k) ∧ ((AB.mk t k' es).es.length + V.length) * by_ ≤ 140737488355328 ∧ (AB.mk t k' es).es.length + V.length ≤ 4611686018427387904) q :=
  goN hg ⟨hk, Nat.le_trans (Nat.mul_le_mul (show es.length + V.length ≤ 2097153 by omega) hb) (by decide), by show es.length + V.length ≤ _; omega⟩ hq
theorem resC_copy {h : AH} {r t k lo : Nat} {E V : List (List AC)} (hr : h[r]? = some (.live ⟨t, k, E⟩)) (hc : CopyE k E V lo) : ResC h (.own r) (.view V) := by
  have hE : ∀ (i : Nat) (x y : List AC), E[i]? = some x → V[i]? = some y → y = x.map vwC := fun i x y hx hy => by
    rw [← hc.eq, List.getElem?_map, hx] at hy
    exact (Option.some.inj hy).symm
  refine .row (.own r) E V k (.inl ⟨r, _, rfl, hr, rfl, rfl⟩) hc.len (fun i x hx => hc.kk x (List.mem_of_getElem? hx)) (fun i y hy => ?_) (fun i x y hx hy j c d hcj hdj => ?_)
  · have hl : i < E.length := by rw [hc.len]; exact (List.getElem?_eq_some_iff.1 hy).1
    rw [hE i _ y (List.getElem?_eq_getElem hl) hy, List.length_map]
    exact hc.kk _ (List.getElem_mem hl)
  · rw [hE i x y hx hy, List.getElem?_map, hcj] at hdj
    cases hdj
    have hb := List.all_eq_true.1 (hc.bare x (List.mem_of_getElem? hx)) c (List.mem_of_getElem? hcj)
    cases c <;> first | exact .imm _ | exact .fv _ _ | cases hb
def msN (ns : List NNode) (n : Int) : Bool := match ns[(n - 1).toNat]? with | some x => x.measured | none => false
def inI (ns : List NNode) (n kid p : Int) : Int :=
  if inO ns n kid = true then (if kid = n ∨ undF ns kid ns.length n = true then 2 else if upN ns kid ≠ 0 ∨ rng p 0 ((kidsN ns n).length : Int) = false then 3 else if msN ns n = true then 6 else if treeB (inT ns n kid p) = true then 0 else 7) else 1
def inN (ns : List NNode) (n kid p : Int) : List NNode := if inI ns n kid p = 0 then inT ns n kid p else ns
def Cd (ns : List NNode) (n kid p c : Int) : Prop := inI ns n kid p = c ∧ inN ns n kid p = ns
theorem Cd.of {ns : List NNode} {n kid p c : Int} (h : inI ns n kid p = c) (hc : c ≠ 0) : Cd ns n kid p c := ⟨h, by unfold inN; rw [if_neg (by rw [h]; exact hc)]⟩
theorem node_up0 {x : NNode} {u : Int} (h : x.small) : NNode.small { x with up := u } := by
  obtain ⟨a0, a1, ⟨a2, a3, a4, a5, a6, a7, a8, a9, a10, a11, a12, ⟨a13, a14⟩, ⟨a15, a16⟩, ⟨a17, a18⟩, ⟨a19, a20⟩, ⟨a21, a22⟩, ⟨a23, a24⟩, ⟨a25, a26⟩, a27, ⟨⟨a28, a29⟩, ⟨a30, a31⟩, ⟨a32, a33⟩, ⟨a34, a35⟩, ⟨a36, a37⟩, ⟨a38, a39⟩⟩, ⟨⟨a40, a41⟩, ⟨a42, a43⟩, ⟨a44, a45⟩, ⟨a46, a47⟩, ⟨a48, a49⟩, ⟨a50, a51⟩⟩, ⟨a52, a53, a54, a55⟩, ⟨a56, a57, a58, a59⟩, a60, a61⟩, a62, ⟨a63⟩⟩ := x
  exact h
structure InQ (ns : List NNode) (n kid p : Int) (ks : List Int) (x y : NNode) : Prop where
  hx : ns[(n - 1).toNat]? = some x
  hy : ns[(kid - 1).toNat]? = some y
  hks : x.kids = ks
  lks : ks.length ≤ 1048576
  n1 : 1 ≤ n
  n2 : n ≤ 1048576
  k1 : 1 ≤ kid
  k2 : kid ≤ 1048576
  c2 : kid = n → Cd ns n kid p 2
  c2' : kid ≠ n → undF ns kid ns.length n = true → Cd ns n kid p 2
  c3 : kid ≠ n → undF ns kid ns.length n = false → y.up ≠ 0 → Cd ns n kid p 3
  c3' : kid ≠ n → undF ns kid ns.length n = false → rng p 0 (ks.length : Int) = false → Cd ns n kid p 3
  c6 : kid ≠ n → undF ns kid ns.length n = false → y.up = 0 → rng p 0 (ks.length : Int) = true → x.measured = true → Cd ns n kid p 6
  cf : kid ≠ n → undF ns kid ns.length n = false → y.up = 0 → rng p 0 (ks.length : Int) = true → x.measured = false → InF ns n kid p x y
  c7 : kid ≠ n → undF ns kid ns.length n = false → y.up = 0 → rng p 0 (ks.length : Int) = true → x.measured = false → treeB (inT ns n kid p) = false → Cd ns n kid p 7
  c0 : kid ≠ n → undF ns kid ns.length n = false → y.up = 0 → rng p 0 (ks.length : Int) = true → x.measured = false → treeB (inT ns n kid p) = true → inI ns n kid p = 0 ∧ inN ns n kid p = inT ns n kid p
theorem inq_of (ns : List NNode) (hl : ns.length ≤ 1048576) (hs : ∀ y ∈ ns, NNode.small y) (n kid p : Int) (h : inO ns n kid = true) : ∃ ks x y, InQ ns n kid p ks x y := by
  have h' := h
  unfold inO at h'
  simp only [Bool.and_eq_true] at h'
  obtain ⟨ht, hi, hi2⟩ := h'
  obtain ⟨i1, i2, x, hx⟩ := isN_at hi
  obtain ⟨k1, k2, y, hy⟩ := isN_at hi2
  have hk : kidsN ns n = x.kids := by unfold kidsN; rw [hx]
  have hu : upN ns kid = y.up := by unfold upN; rw [hy]
  have hm : msN ns n = x.measured := by unfold msN; rw [hx]
  have hkl : x.kids.length ≤ 1048576 := by
    have := hs x (List.mem_of_getElem? hx)
    obtain ⟨a0, a1, ⟨a2, a3, a4, a5, a6, a7, a8, a9, a10, a11, a12, ⟨a13, a14⟩, ⟨a15, a16⟩, ⟨a17, a18⟩, ⟨a19, a20⟩, ⟨a21, a22⟩, ⟨a23, a24⟩, ⟨a25, a26⟩, a27, ⟨⟨a28, a29⟩, ⟨a30, a31⟩, ⟨a32, a33⟩, ⟨a34, a35⟩, ⟨a36, a37⟩, ⟨a38, a39⟩⟩, ⟨⟨a40, a41⟩, ⟨a42, a43⟩, ⟨a44, a45⟩, ⟨a46, a47⟩, ⟨a48, a49⟩, ⟨a50, a51⟩⟩, ⟨a52, a53, a54, a55⟩, ⟨a56, a57, a58, a59⟩, a60, a61⟩, a62, ⟨a63⟩⟩ := x
    exact this.1
  have e0 : inI ns n kid p = if kid = n ∨ undF ns kid ns.length n = true then 2 else if y.up ≠ 0 ∨ rng p 0 (x.kids.length : Int) = false then 3 else if x.measured = true then 6 else if treeB (inT ns n kid p) = true then 0 else 7 := by
    unfold inI
    rw [if_pos h, hk, hu, hm]
  refine ⟨x.kids, x, y, hx, hy, rfl, hkl, i1, by omega, k1, by omega, fun g1 => .of (by rw [e0, if_pos (.inl g1)]) (by decide), fun g1 g2 => .of (by rw [e0, if_pos (.inr g2)]) (by decide), fun g1 g2 g3 => .of (by rw [e0, if_neg (by simp [g1, g2]), if_pos (.inl g3)]) (by decide),
    fun g1 g2 g3 => .of (by rw [e0, if_neg (by simp [g1, g2]), if_pos (.inr g3)]) (by decide), fun g1 g2 g3 g4 g5 => .of (by rw [e0, if_neg (by simp [g1, g2]), if_neg (by simp [g3, g4]), if_pos g5]) (by decide), fun g1 g2 g3 g4 g5 => ⟨ht, hi, hi2, hx, hy, g1, g2, g3, g5⟩,
    fun g1 g2 g3 g4 g5 g6 => .of (by rw [e0, if_neg (by simp [g1, g2]), if_neg (by simp [g3, g4]), if_neg (by simp [g5]), if_neg (by simp [g6])]) (by decide), fun g1 g2 g3 g4 g5 g6 => ?_⟩
  have : inI ns n kid p = 0 := by rw [e0, if_neg (by simp [g1, g2]), if_neg (by simp [g3, g4]), if_neg (by simp [g5]), if_pos g6]
  exact ⟨this, by unfold inN; rw [if_pos this]⟩
structure InT (ns : List NNode) (n kid p : Int) (ks : List Int) (x y : NNode) (M T : List (List AC)) : Prop where
  jj : (n - 1).toNat ≠ (kid - 1).toNat
  hT : T = (M.set (n - 1).toNat (nodeA x.up (vw intC (ks.take p.toNat) ++ [[.imm (.int .i64 kid)]] ++ vw intC (ks.drop p.toNat)) (vw GRule.c x.table.rules) x.style x.measured)).set (kid - 1).toNat (nodeA n (vw intC y.kids) (vw GRule.c y.table.rules) y.style y.measured)
  len : (inT ns n kid p).length ≤ 1048576
  small : ∀ z ∈ inT ns n kid p, NNode.small z
  tl : lenI T = lenI M
  deep : ∀ i : Int, 0 ≤ i → i < lenI T → 4 < depN (inT ns n kid p) (i + 1) → treeB (inT ns n kid p) = false
  flat : (∀ i : Int, 0 ≤ i → i < lenI T → depN (inT ns n kid p) (i + 1) ≤ 4) → treeB (inT ns n kid p) = true
theorem InF.t {ns : List NNode} {n kid p : Int} {x y : NNode} (h : InF ns n kid p x y) (hl : ns.length ≤ 1048576) (hs : ∀ y ∈ ns, NNode.small y) (hr : rng p 0 (x.kids.length : Int) = true) : InT ns n kid p x.kids x y (vwA NNode.ac ns) (vwA NNode.ac (inT ns n kid p)) := by
  obtain ⟨n1, n2, k1, k2⟩ := h.n1
  have hT : vwA NNode.ac (inT ns n kid p) = ((vwA NNode.ac ns).set (n - 1).toNat (nodeA x.up (vw intC (x.kids.take p.toNat) ++ [[.imm (.int .i64 kid)]] ++ vw intC (x.kids.drop p.toNat)) (vw GRule.c x.table.rules) x.style x.measured)).set (kid - 1).toNat (nodeA n (vw intC y.kids) (vw GRule.c y.table.rules) y.style y.measured) := by
    rw [h.eq, vwA_set, vwA_set, ← inK_vw]; rfl
  have hln : lenI (vwA NNode.ac (inT ns n kid p)) = (ns.length : Int) := by rw [lenI_eq, vwA_length, h.len]
  have hi : ∀ v, Go.Proofs.YtenbloaopcfdlaaGreat.isN ns v = true ↔ 1 ≤ v ∧ v ≤ (ns.length : Int) := fun v => by unfold Go.Proofs.YtenbloaopcfdlaaGreat.isN rng; simp
  have h12 : (ns.length : Int) ≤ 12 := by
    have := h.tr
    simp only [treeB, Bool.and_eq_true, decide_eq_true_eq] at this
    exact this.1
  have hkx := hs x (List.mem_of_getElem? h.hx)
  refine ⟨fun e => h.ne (by omega), hT, by rw [h.len]; exact hl, fun z hz => ?_, by rw [hln, lenI_eq, vwA_length], fun i i0 i1 i4 => ?_, fun hd => h.tree.2 fun v hv => ?_⟩
  · have hkl := tree_kl h.tr n1 h.hx
    have hky := hs y (List.mem_of_getElem? h.hy)
    rw [h.eq] at hz
    rcases List.mem_or_eq_of_mem_set hz with hz | hz
    · rcases List.mem_or_eq_of_mem_set hz with hz | hz
      · exact hs z hz
      · have hil : (inK x.kids kid p).length ≤ 1048576 := by
          have := congrArg List.length (List.take_append_drop p.toNat x.kids)
          simp only [List.length_append] at this
          unfold inK
          simp only [List.length_append, List.length_cons]
          omega
        rw [hz]
        obtain ⟨a0, a1, ⟨a2, a3, a4, a5, a6, a7, a8, a9, a10, a11, a12, ⟨a13, a14⟩, ⟨a15, a16⟩, ⟨a17, a18⟩, ⟨a19, a20⟩, ⟨a21, a22⟩, ⟨a23, a24⟩, ⟨a25, a26⟩, a27, ⟨⟨a28, a29⟩, ⟨a30, a31⟩, ⟨a32, a33⟩, ⟨a34, a35⟩, ⟨a36, a37⟩, ⟨a38, a39⟩⟩, ⟨⟨a40, a41⟩, ⟨a42, a43⟩, ⟨a44, a45⟩, ⟨a46, a47⟩, ⟨a48, a49⟩, ⟨a50, a51⟩⟩, ⟨a52, a53, a54, a55⟩, ⟨a56, a57, a58, a59⟩, a60, a61⟩, a62, ⟨a63⟩⟩ := x
        exact ⟨hil, hkx.2.1, trivial⟩
    · rw [hz]; exact node_up0 hky
  · cases ht : treeB (inT ns n kid p) with
    | false => rfl
    | true =>
      have := h.tree.1 ht (i + 1) ((hi _).2 (by omega))
      omega
  · obtain ⟨v1, v2⟩ := (hi v).1 hv
    have := hd (v - 1) (by omega) (by omega)
    rwa [show v - 1 + 1 = v by omega] at this
structure InZ (ns : List NNode) (n kid p : Int) (x y : NNode) (A B M T W : List (List AC)) (AI : Int) : Prop where
  jj : (n - 1).toNat ≠ (kid - 1).toNat
  hT : T = (M.set (n - 1).toNat (nodeA x.up (A ++ [[.imm (.int .i64 kid)]] ++ B) (vw GRule.c x.table.rules) x.style x.measured)).set (kid - 1).toNat (nodeA n (vw intC y.kids) (vw GRule.c y.table.rules) y.style y.measured)
  hTT : T = vwA NNode.ac (inT ns n kid p)
  len : (inT ns n kid p).length ≤ 1048576
  small : ∀ z ∈ inT ns n kid p, NNode.small z
  tl : lenI T ≤ 1048576
  deep : ∀ i : Int, 0 ≤ i → i < lenI T → 4 < depN (inT ns n kid p) (i + 1) → treeB (inT ns n kid p) = false
  flat : (∀ i : Int, 0 ≤ i → i < lenI T → depN (inT ns n kid p) (i + 1) ≤ 4) → treeB (inT ns n kid p) = true
  e7 : treeB (inT ns n kid p) = false → W = M ∧ AI = 7
  e0 : treeB (inT ns n kid p) = true → W = T ∧ AI = 0
structure InW (ns : List NNode) (n kid p : Int) (x y : NNode) (K A B M W : List (List AC)) (AI : Int) : Prop where
  n1 : 1 ≤ n
  n2 : n ≤ 1048576
  k1 : 1 ≤ kid
  k2 : kid ≤ 1048576
  z0 : 0 ≤ n - 1
  z1 : (n - 1).toNat < M.length
  y0 : 0 ≤ kid - 1
  y1 : (kid - 1).toNat < M.length
  hMj : M[(n - 1).toNat]? = some (nodeA x.up K (vw GRule.c x.table.rules) x.style x.measured)
  hMk : M[(kid - 1).toNat]? = some (nodeA y.up (vw intC y.kids) (vw GRule.c y.table.rules) y.style y.measured)
  kK : ∀ y ∈ K, y.length = 1
  hA : A = K.take p.toNat
  hB : B = K.drop p.toNat
  cA : A = vw intC (x.kids.take p.toNat) ∧ (x.kids.take p.toNat).length ≤ 1048576
  kA : ∀ y ∈ A, y.length = 1
  kB : ∀ y ∈ B, y.length = 1
  iA : immE A = true
  iN : immE (A ++ [[AC.imm (.int .i64 kid)]] ++ B) = true
  lA : A.length ≤ 1048576
  lB : B.length ≤ 1048576
  lA2 : (A ++ [[AC.imm (.int .i64 kid)]]).length ≤ 1048577
  r1 : rng p 0 (lenI K) = true → 0 ≤ p ∧ p ≤ lenI K
  d2 : kid = n → W = M ∧ AI = 2
  d2' : kid ≠ n → undF ns kid ns.length n = true → W = M ∧ AI = 2
  d3 : kid ≠ n → undF ns kid ns.length n = false → y.up ≠ 0 → W = M ∧ AI = 3
  d3' : kid ≠ n → undF ns kid ns.length n = false → rng p 0 (lenI K) = false → W = M ∧ AI = 3
  d6 : kid ≠ n → undF ns kid ns.length n = false → y.up = 0 → rng p 0 (lenI K) = true → x.measured = true → W = M ∧ AI = 6
  dT : kid ≠ n → undF ns kid ns.length n = false → y.up = 0 → rng p 0 (lenI K) = true → x.measured = false → ∃ T, InZ ns n kid p x y A B M T W AI
theorem inw_of (ns : List NNode) (hl : ns.length ≤ 1048576) (hs : ∀ y ∈ ns, NNode.small y) (n kid p : Int) (h : inO ns n kid = true) (M W : List (List AC)) (AI : Int) (hM : M = vwA NNode.ac ns) (hW : W = vwA NNode.ac (inN ns n kid p)) (hAI : AI = inI ns n kid p) : ∃ x y K A B, InW ns n kid p x y K A B M W AI := by
  obtain ⟨ks, x, y, Q⟩ := inq_of ns hl hs n kid p h
  obtain ⟨hx, hy, hks, lks, n1, n2, k1, k2, c2, c2', c3, c3', c6, cf, c7, c0⟩ := Q
  subst hks
  have cv : ∀ c, Cd ns n kid p c → W = M ∧ AI = c := fun c hc => ⟨by rw [hW, hM, hc.2], by rw [hAI, hc.1]⟩
  have hK : lenI (vw intC x.kids) = (x.kids.length : Int) := by rw [lenI_eq, vw_length]
  have l1 : (x.kids.take p.toNat).length ≤ x.kids.length := List.length_take_le' _ _
  have l2 : (x.kids.drop p.toNat).length ≤ x.kids.length := by rw [List.length_drop]; omega
  have l3 : (vw intC (x.kids.take p.toNat)).length = (x.kids.take p.toNat).length := vw_length _ _
  have l4 : (vw intC (x.kids.drop p.toNat)).length = (x.kids.drop p.toNat).length := vw_length _ _
  refine ⟨x, y, vw intC x.kids, vw intC (x.kids.take p.toNat), vw intC (x.kids.drop p.toNat), n1, n2, k1, k2, by omega, by rw [hM, vwA_length]; exact (List.getElem?_eq_some_iff.1 hx).1, by omega, by rw [hM, vwA_length]; exact (List.getElem?_eq_some_iff.1 hy).1, by rw [hM]; exact vwA_at hx, by rw [hM]; exact vwA_at hy, vw_k (c := intC) (k := 1) fun _ => rfl, by simp [vw, List.map_take], by simp [vw, List.map_drop], ⟨rfl, by omega⟩,
    vw_k (c := intC) (k := 1) fun _ => rfl, vw_k (c := intC) (k := 1) fun _ => rfl, vw_imm _ _, by rw [← inK_vw]; exact vw_imm _ _, by omega, by omega, by rw [List.length_append, List.length_singleton]; omega, fun hr => ?_, fun g1 => cv 2 (c2 g1), fun g1 g2 => cv 2 (c2' g1 g2), fun g1 g2 g3 => cv 3 (c3 g1 g2 g3), fun g1 g2 g3 => cv 3 (c3' g1 g2 (by rw [← hK]; exact g3)), fun g1 g2 g3 g4 g5 => cv 6 (c6 g1 g2 g3 (by rw [← hK]; exact g4) g5), fun g1 g2 g3 g4 g5 => ?_⟩
  · simp only [rng, Bool.and_eq_true, decide_eq_true_eq] at hr
    exact hr
  · rw [hK] at g4
    obtain ⟨t1, t2, t3, t4, t5, t6, t7⟩ := (cf g1 g2 g3 g4 g5).t hl hs g4
    refine ⟨_, t1, by rw [hM]; exact t2, rfl, t3, t4, ?_, t6, t7, fun g6 => cv 7 (c7 g1 g2 g3 g4 g5 g6), fun g6 => ⟨by rw [hW, (c0 g1 g2 g3 g4 g5 g6).2], by rw [hAI, (c0 g1 g2 g3 g4 g5 g6).1]⟩⟩
    have : (inT ns n kid p).length ≤ 1048576 := t3
    rw [lenI_eq, vwA_length]
    omega
set_option maxHeartbeats 16000000 in
theorem impl_InsertKid_t (ns : List NNode) (hl : ns.length ≤ 1048576) (hs : ∀ y ∈ ns, NNode.small y) (n kid p : Int) : TCon Tryz.prog 71 [.agg [.view (vwA NNode.ac ns)], ai n, ai kid, ai p] fun lo res rows => (∃ b0, res = .tup [.agg [.fv b0 (vwA NNode.ac (inN ns n kid p))], ai (inI ns n kid p)] ∧ NewB lo b0) ∧ plainV res = true ∧ rows = [] := by
  have ck := impl_copyTree_t ns hl hs
  have cT := impl_TreeOk_a ns hl hs
  have cU := fun hud : upD ns ns.length n => impl_IsUnder_a ns hl n kid 
  have cTN := fun (ns' : List NNode) h1 h2 => impl_TreeOk_a ns' h1 h2
  obtain ⟨M, hM⟩ : ∃ M, M = vwA NNode.ac ns := ⟨_, rfl⟩
  have hMx : lenI M = (ns.length : Int) := by rw [lenI_eq, hM, vwA_length]
  have cn := impl_isNode_a M n
  have cn2 := impl_isNode_a M kid
  have hin : isN ns n = rng n 1 (lenI M) := by rw [hMx]; rfl
  have hin2 : isN ns kid = rng kid 1 (lenI M) := by rw [hMx]; rfl
  rw [← hin] at cn
  rw [← hin2] at cn2
  obtain ⟨W, hW⟩ : ∃ W, W = vwA NNode.ac (inN ns n kid p) := ⟨_, rfl⟩
  obtain ⟨AI, hAI⟩ : ∃ W, W = inI ns n kid p := ⟨_, rfl⟩
  have hq1 : inO ns n kid = false → W = M ∧ AI = 1 := fun h => by
    have h0 : inI ns n kid p = 1 := by unfold inI; rw [if_neg (by rw [h]; decide)]
    exact ⟨by rw [hW, hM]; unfold inN; rw [if_neg (by rw [h0]; decide)], by rw [hAI, h0]⟩
  have hq := fun h => inw_of ns hl hs n kid p h M W AI hM hW hAI
  rw [← hM] at ck cT cU
  rw [← hM, ← hW, ← hAI]
  clear hin hin2 hMx hW hAI
  refine tcon_run ([(11, .hand)]) ([]) (c := body Tryz.f71) fits Tryz.func71 (by kernel_rfl) (by kernel_rfl) (by rfl) (by kernel_rfl) fun β g eff hd F heff hhd hg hF => ?_
  cbv
  refine callTR1 hg ck (dwA_same rfl) (fun lo E h => bare_plainE h.bare) (fun lo E q1 q2 q3 hE => ?_)
  clear q2 q3
  replace hE : CopyE 64 E M β.lo := ⟨hE.kk, hE.bare, hE.eq, hE.new.mono q1⟩
  clear q1
  cbv
  cases hTB : treeB ns
  case false =>
    rw [hTB] at cT
    refine call0 hg cT rfl rfl ?_
    cbv
    obtain ⟨h1, h2⟩ := hq1 (by unfold inO; rw [hTB]; rfl)
    rw [h1, h2] at hF
    refine finTS hF fun bl hbl => ⟨[.agg [.fv (hd1 (bl 2) E ++ fpE E) M], ai 1], .agg (.cons (ress_copy rfl hE) .nil) (.c (.imm _) .nil), ⟨_, rfl, blk_row hbl (r := 2) (ab := ⟨_, _, E⟩) rfl hE.new⟩, rfl, rfl⟩
  have hud := upD_all hTB n
  rw [hTB] at cT
  refine call0 hg cT rfl rfl ?_
  cbv
  cases hN : isN ns n
  case false =>
    rw [hN] at cn
    refine call0 hg cn rfl rfl ?_
    cbv
    obtain ⟨h1, h2⟩ := hq1 (by unfold inO; rw [hTB, hN]; rfl)
    rw [h1, h2] at hF
    refine finTS hF fun bl hbl => ⟨[.agg [.fv (hd1 (bl 2) E ++ fpE E) M], ai 1], .agg (.cons (ress_copy rfl hE) .nil) (.c (.imm _) .nil), ⟨_, rfl, blk_row hbl (r := 2) (ab := ⟨_, _, E⟩) rfl hE.new⟩, rfl, rfl⟩
  rw [hN] at cn
  refine call0 hg cn rfl rfl ?_
  cbv
  cases hN2 : isN ns kid
  case false =>
    rw [hN2] at cn2
    refine call0 hg cn2 rfl rfl ?_
    cbv
    obtain ⟨h1, h2⟩ := hq1 (by unfold inO; rw [hTB, hN, hN2]; rfl)
    rw [h1, h2] at hF
    refine finTS hF fun bl hbl => ⟨[.agg [.fv (hd1 (bl 2) E ++ fpE E) M], ai 1], .agg (.cons (ress_copy rfl hE) .nil) (.c (.imm _) .nil), ⟨_, rfl, blk_row hbl (r := 2) (ab := ⟨_, _, E⟩) rfl hE.new⟩, rfl, rfl⟩
  rw [hN2] at cn2
  refine call0 hg cn2 rfl rfl ?_
  cbv
  obtain ⟨x, y, K, A, B, q⟩ := hq (by unfold inO; rw [hTB, hN, hN2]; rfl)
  obtain ⟨n1, n2, k1, k2, z0, z1, y0, y1, hMj, hMk, kK, hA, hB', cA, kA, kB, iA, iN, lA, lB, lA2, r1, d2, d2', d3, d3', d6, dT⟩ := q
  clear hq1 hq
  obtain ⟨xu, xks, xs, xm, ⟨xr⟩⟩ := x
  obtain ⟨yu, yks, ys, ym, ⟨yr⟩⟩ := y
  simp only at hMj hMk d3 d6 dT cA
  cases hE0 : g .q .eql kid n
  case true =>
    rw [goEql hg, beq_iff_eq] at hE0
    cbv
    obtain ⟨h1, h2⟩ := d2 hE0
    rw [h1, h2] at hF
    refine finTS hF fun bl hbl => ⟨[.agg [.fv (hd1 (bl 2) E ++ fpE E) M], ai 2], .agg (.cons (ress_copy rfl hE) .nil) (.c (.imm _) .nil), ⟨_, rfl, blk_row hbl (r := 2) (ab := ⟨_, _, E⟩) rfl hE.new⟩, rfl, rfl⟩
  rw [goEql hg, beq_eq_false_iff_ne] at hE0
  cbv
  cases hU : undF ns kid ns.length n
  case true =>
    have cu := cU hud
    rw [hU] at cu
    refine call0 hg cu rfl rfl ?_
    cbv
    obtain ⟨h1, h2⟩ := d2' hE0 hU
    rw [h1, h2] at hF
    refine finTS hF fun bl hbl => ⟨[.agg [.fv (hd1 (bl 2) E ++ fpE E) M], ai 2], .agg (.cons (ress_copy rfl hE) .nil) (.c (.imm _) .nil), ⟨_, rfl, blk_row hbl (r := 2) (ab := ⟨_, _, E⟩) rfl hE.new⟩, rfl, rfl⟩
  have cu := cU hud
  rw [hU] at cu
  refine call0 hg cu rfl rfl ?_
  cbv
  obtain ⟨Rx, hRx⟩ : ∃ R, R = vw GRule.c xr := ⟨_, rfl⟩
  obtain ⟨Ry, hRy⟩ : ∃ R, R = vw GRule.c yr := ⟨_, rfl⟩
  obtain ⟨Ky, hKy⟩ : ∃ R, R = vw intC yks := ⟨_, rfl⟩
  rw [← hRx] at hMj
  rw [← hRy, ← hKy] at hMk
  have c5 := impl_node_a M n n1 n2 hMj
  have c6 := impl_node_a M kid k1 k2 hMk
  have ci := impl_in_r p 0 (lenI K)
  have hgl : g .ln K = lenI K := goLn hg K
  rw [← hgl] at ci
  refine call0 hg c6 rfl rfl ?_
  cbv
  cases hu0 : g .q .neq yu 0
  case true =>
    rw [goNeq hg, bne_iff_ne, ne_eq] at hu0
    cbv
    obtain ⟨h1, h2⟩ := d3 hE0 hU hu0
    rw [h1, h2] at hF
    refine finTS hF fun bl hbl => ⟨[.agg [.fv (hd1 (bl 2) E ++ fpE E) M], ai 3], .agg (.cons (ress_copy rfl hE) .nil) (.c (.imm _) .nil), ⟨_, rfl, blk_row hbl (r := 2) (ab := ⟨_, _, E⟩) rfl hE.new⟩, rfl, rfl⟩
  rw [goNeq hg, bne_eq_false_iff_eq] at hu0
  cbv
  refine call0 hg c5 rfl rfl ?_
  cbv
  cases hr : rng p 0 (lenI K)
  case false =>
    rw [show rng p 0 (g .ln K) = rng p 0 (lenI K) by rw [hgl], hr] at ci
    refine call0 hg ci rfl rfl ?_
    cbv
    obtain ⟨h1, h2⟩ := d3' hE0 hU hr
    rw [h1, h2] at hF
    refine finTS hF fun bl hbl => ⟨[.agg [.fv (hd1 (bl 2) E ++ fpE E) M], ai 3], .agg (.cons (ress_copy rfl hE) .nil) (.c (.imm _) .nil), ⟨_, rfl, blk_row hbl (r := 2) (ab := ⟨_, _, E⟩) rfl hE.new⟩, rfl, rfl⟩
  rw [show rng p 0 (g .ln K) = rng p 0 (lenI K) by rw [hgl], hr] at ci
  refine call0 hg ci rfl rfl ?_
  cbv
  refine call0 hg c5 rfl rfl ?_
  cbv
  cases xm
  case true =>
    cbv
    obtain ⟨h1, h2⟩ := d6 hE0 hU hu0 hr rfl
    rw [h1, h2] at hF
    refine finTS hF fun bl hbl => ⟨[.agg [.fv (hd1 (bl 2) E ++ fpE E) M], ai 6], .agg (.cons (ress_copy rfl hE) .nil) (.c (.imm _) .nil), ⟨_, rfl, blk_row hbl (r := 2) (ab := ⟨_, _, E⟩) rfl hE.new⟩, rfl, rfl⟩
  cbv
  refine call0 hg c5 rfl rfl ?_
  cbv
  obtain ⟨T, jj, hT, hTT, hTl, hTs, tl, deep, flat, e7, e0⟩ := dT hE0 hU hu0 hr rfl
  simp only at hT
  rw [← hRx, ← hRy, ← hKy] at hT
  clear d2 d2' d3 d3' d6 dT
  obtain ⟨r0, r1⟩ := r1 hr
  obtain ⟨b1, b2, he⟩ := hE.node hMj
  obtain ⟨c1, c2, he2⟩ := hE.node hMk
  have cT2 := cTN _ hTl hTs
  rw [← hTT] at cT2
  have cD := fun v => impl_DepthOf_a (inT ns n kid p) v hTl
  rw [← hTT] at cD
  obtain ⟨cA1, cA2⟩ := cA
  have c7 := impl_copyInts_a (xks.take p.toNat) cA2
  rw [← cA1] at c7
  have es2 : g .w .sub .i64 kid 1 = kid - 1 := by rw [goSub hg, wrap_small _ (by omega)]
  have es1 : g .w .sub .i64 n 1 = n - 1 := by rw [goSub hg, wrap_small _ (by omega)]
  obtain ⟨z, hz⟩ : ∃ z, z = n - 1 := ⟨_, rfl⟩
  rw [← hz] at es1 z0 z1 he jj hT
  obtain ⟨j, hj⟩ : ∃ j, j = z.toNat := ⟨_, rfl⟩
  rw [← hj] at z1 he jj hT
  obtain ⟨y, hy⟩ : ∃ y, y = kid - 1 := ⟨_, rfl⟩
  rw [← hy] at es2 y0 y1 he2 jj hT
  obtain ⟨j2, hj2⟩ : ∃ j, j = y.toNat := ⟨_, rfl⟩
  rw [← hj2] at y1 he2 jj hT
  obtain ⟨NN, hNN⟩ : ∃ NN, NN = A ++ [[AC.imm (.int .i64 kid)]] ++ B := ⟨_, rfl⟩
  rw [← hNN] at hT iN
  have hlen0 : j < E.length := by rw [hE.len]; exact z1
  obtain ⟨F2, hF2⟩ : ∃ F2 : List Nat → List (List AC), ∀ b, F2 b = E.set j (nodeE xu NN Rx xs false b b2) := ⟨_, fun _ => rfl⟩
  obtain ⟨F3, hF3⟩ : ∃ F3, F3 = E.set j (nodeK xu 7 Rx xs false b2) := ⟨_, rfl⟩
  have hz1 : ∀ b, F2 b = F3.set j (nodeE xu NN Rx xs false b b2) := fun b => by rw [hF2, hF3, List.set_set]
  have hz2 : F3[j]? = some (nodeK xu 7 Rx xs false b2) := by rw [hF3]; exact List.getElem?_set_self hlen0
  have hE2 : ∀ (l1 : Nat) (bn : List Nat), NewB l1 bn → β.lo ≤ l1 → (∀ b ∈ fpE E, b < l1) → CopyE 64 (F2 bn) (M.set j (nodeA xu NN Rx xs false)) β.lo := fun l1 bn h1 h2 h3 => by
    rw [hF2]
    exact hE.put (y := nodeE xu NN Rx xs false bn b2) (v := nodeA xu NN Rx xs false) he rfl rfl rfl (b1 := b2) (bn := bn) (by rw [fpL_node]; exact List.perm_append_comm) (by rw [fpL_node]; exact List.sublist_append_right _ _) h1 h2 h3
  refine hand_nm hhd fits [(11, .hand)] [] 7 NN (imm_bareE iN) rfl (by kernel_rfl) (fun g2 eff2 hd2 B2 he3 hh2 hg2 hB2 => ?_)
  have es3 : g2 .w .sub .i64 n 1 = z := by rw [← es1, hg2, hg]; rfl
  have key2 : ∀ y, y = nodeK xu 7 Rx xs false b2 → g2 .st E j y = F3 := fun y h => by rw [h, goSt hg2, hF3]
  have keyN : A ++ [[AC.imm (.int .i64 kid)]] ++ B = NN := hNN.symm
  clear hF3 hNN
  cbv
  refine hand_lazy hg2 hh2 fits [0, 1, 2, 3, 4, 5, 6, 8, 11, 12, 13] (.op 7 [] (.op 9 [] (.op 10 [] (.op 14 [] (.op 15 [16] (.op 17 [] .done .none) .none) .none) .none) .none) (.op 9 [] (.op 7 [] (.op 10 [] (.op 14 [] (.op 15 [16] (.op 17 [] .done .none) .none) .none) .none) .none) .none)) (by kernel_rfl) (by kernel_rfl) (S := Unit) (fun _ => True) (fun _ => [(1, .t (ai (n))), (2, .t (ai (kid))), (4, .t (.c (.ptr 0 0 0))), (8, .t (.c (.ptr 1 0 0))), (10, .t (.c (.ptr 3 0 0)))]) (fun _ => [.bx 43 1 [.view M], .bx 43 1 [.imm (.slice none 0 0)], .rw ⟨106, 64, F3⟩, .bx 43 1 [.own 2], .gn, .gn, .gn, .rw ⟨3, 1, NN⟩]) (fun B' hB => ?_) (fun _ _ => ?_)
  · cbv
    try rw [es3]

    repeat' (first | exact trivial | exact rfl | exact congrArg (fun x => AV.t (AT.c (AC.imm (Value.int .i64 x)))) es3 | refine And.intro ?_ ?_ | (refine goSVhi hg2 kK r0 r1 hA ?_; cbv; try rw [es3]) | (refine goSVlo hg2 kK r0 r1 hB' ?_; cbv; try rw [es3]) | (refine callRow hg2 c7 (dat_data rfl) iA ?_; cbv; try rw [es3]) | (refine goNV0 hg2 kA (by decide) lA ?_; cbv; rw [goAp hg2, List.nil_append]; try rw [es3]) | (refine goNAt hg2 rfl (by decide) lA ?_; cbv; rw [goAp hg2]; try rw [es3]) | (refine goNE hg2 kB (by decide) lB lA2 ?_; cbv; rw [goAp hg2, keyN]; try rw [es3]) | (refine goYt hg2 z0 hj hlen0 ?_; cbv; try rw [es3]) | (refine ⟨_, he, ?_⟩; cbv; rw [key2]; rotate_left; rfl) | exact hB () trivial _ _ (weak_gone ⟨rfl, rfl, rfl, rfl, rfl, trivial⟩ (by repeat' (first | exact trivial | exact Or.inl rfl | exact Or.inr rfl | apply And.intro))))
  refine hB2 _ _ _ _ rfl rfl (fun l1 b p1 hn1 => ?_)
  rw [fv_imm iN]
  obtain ⟨bn, hbn⟩ : ∃ c, c = hd1 b NN := ⟨_, rfl⟩
  rw [← hbn] at hn1 ⊢
  clear hbn
  refine ⟨[(1, .t (ai (n))), (2, .t (ai (kid))), (4, .t (.c (.ptr 0 0 0))), (8, .t (.c (.ptr 1 0 0))), (10, .t (.c (.ptr 3 0 0)))], [.bx 43 1 [.view M], .bx 43 1 [.imm (.slice none 0 0)], .rw ⟨106, 64, F2 bn⟩, .bx 43 1 [.own 2], .gn, .gn, .gn, .gn], ⟨.inl rfl, .inl rfl, .inl rfl, .inl rfl, .inl rfl, trivial⟩, ⟨⟨rfl, rfl, .inl rfl, trivial⟩, ⟨rfl, rfl, .inl rfl, trivial⟩, .inr ⟨_, _, _, rfl, rfl, hz1 bn, hz2, ⟨.inl rfl, .inr (.inl ⟨rfl, rfl⟩), .inl rfl, .inl rfl, .inl rfl, .inl rfl, .inl rfl, .inl rfl, .inl rfl, .inl rfl, .inl rfl, .inl rfl, .inl rfl, .inl rfl, .inl rfl, .inl rfl, .inl rfl, .inl rfl, .inl rfl, .inl rfl, .inl rfl, .inl rfl, .inl rfl, .inl rfl, .inl rfl, .inl rfl, .inl rfl, .inl rfl, .inl rfl, .inl rfl, .inl rfl, .inl rfl, .inl rfl, .inl rfl, .inl rfl, .inl rfl, .inl rfl, .inl rfl, .inl rfl, .inl rfl, .inl rfl, .inl rfl, .inl rfl, .inl rfl, .inl rfl, .inl rfl, .inl rfl, .inl rfl, .inl rfl, .inl rfl, .inl rfl, .inl rfl, .inl rfl, .inl rfl, .inl rfl, .inl rfl, .inl rfl, .inl rfl, .inl rfl, .inl rfl, .inl rfl, .inl rfl, .inl rfl, .inl rfl, trivial⟩⟩, ⟨rfl, rfl, .inl rfl, trivial⟩, trivial, trivial, trivial, rfl, trivial⟩, ?_⟩
  have hE3 := hE2 l1 bn ⟨hn1.nd, hn1.ge⟩ p1 (fun b hb => hn1.old b (fpH_row _ 2 rfl b hb))
  clear hE2 hB2 hg2 hh2 he3 hz1 hz2 hn1
  have he5 : (F2 bn)[j2]? = some (nodeE yu Ky Ry ys ym c1 c2) := by rw [hF2, List.getElem?_set_ne jj]; exact he2
  have hlen1 : j2 < (F2 bn).length := (List.getElem?_eq_some_iff.1 he5).1
  have hE4 := hE3.set (y := nodeE n Ky Ry ys ym c1 c2) (v := nodeA n Ky Ry ys ym) he5 rfl rfl rfl rfl
  rw [← hT] at hE4
  obtain ⟨E4, he4⟩ : ∃ E4, E4 = (F2 bn).set j2 (nodeE n Ky Ry ys ym c1 c2) := ⟨_, rfl⟩
  rw [← he4] at hE4
  have key3 : ∀ y, y = nodeE n Ky Ry ys ym c1 c2 → g .st (F2 bn) j2 y = E4 := fun y h => by rw [h, goSt hg, he4]
  clear he4
  cbv
  rw [es2]
  refine goYt hg y0 hj2 hlen1 ?_
  cbv
  refine ⟨_, he5, ?_⟩
  cbv
  rw [key3]
  rotate_left
  · rfl
  have hlT : lenI E4 = lenI T := by rw [lenI_eq, lenI_eq, hE4.len]
  obtain ⟨D, hD⟩ : ∃ D : Int → Int, ∀ v, D v = depN (inT ns n kid p) v := ⟨_, fun _ => rfl⟩
  simp only [← hD] at cD deep flat
  refine loop_runW4 [(11, .hand)] [] heff hhd hg fits (by kernel_rfl) (fun i : Int => [(4, .t (.c (.ptr 0 0 0))), (8, .t (.c (.ptr 1 0 0))), (10, .t (.c (.ptr 3 0 0))), (96, .t (ai (g .ln E4))), (97, .t (ai (i)))]) (fun _ => [.bx 43 1 [.view M], .bx 43 1 [.imm (.slice none 0 0)], .rw ⟨106, 64, E4⟩, .bx 43 1 [.own 2]]) (fun i => 0 ≤ i ∧ ∀ k : Int, 0 ≤ k → k < i → D (k + 1) ≤ 4) (fun i => (lenI E4).toNat - i.toNat)
    0 ⟨Int.le_refl 0, fun k h1 h2 => absurd h2 (by omega)⟩ (Wk.weak (wkG [some 0, some 1, some 2, some 3] ⟨rfl, rfl, rfl, rfl, rfl, trivial⟩ ⟨⟨_, _, rfl, rfl, rfl, rfl, .inl ⟨rfl, rfl⟩⟩, ⟨_, _, rfl, rfl, rfl, rfl, .inl ⟨rfl, rfl⟩⟩, ⟨_, _, rfl, rfl, rfl, rfl, .inl ⟨rfl, bare_plainE hE4.bare⟩⟩, ⟨_, _, rfl, rfl, rfl, rfl, .inr ⟨⟨rfl, trivial⟩, trivial⟩⟩, trivial⟩ (by decide) no_lt)) (fun i B' hi hB => ?_)
  obtain ⟨i0, hall⟩ := hi
  cbv
  cases hc : g .q .lss i (g .ln E4)
  case false =>
    rw [goLss hg, goLn hg, decide_eq_false_iff_not] at hc
    cbv
    obtain ⟨h1, h2⟩ := e0 (flat fun k a1 a2 => hall k a1 (by omega))
    rw [h1, h2] at hF
    refine finTS hF fun bl hbl => ⟨[.agg [.fv (hd1 (bl 2) E4 ++ fpE E4) T], ai 0], .agg (.cons (ress_copy (t := 106) (k := 64) rfl hE4) .nil) (.c (.imm _) .nil), ⟨_, rfl, blk_row hbl (r := 2) (ab := ⟨106, 64, E4⟩) rfl hE4.new⟩, rfl, rfl⟩
  rw [goLss hg, goLn hg, decide_eq_true_eq] at hc
  cbv
  have ei : g .w .add .i64 i 1 = i + 1 := by rw [goAdd hg, wrap_small _ (by omega)]
  rw [ei]
  refine callXR hg (cD (i + 1)) (.agg (.cons (resC_copy (t := 106) (k := 64) (r := 2) rfl hE4) .nil) (.c (.imm _) .nil)) rfl ?_
  have hme : (lenI E4).toNat - (i + 1).toNat < (lenI E4).toNat - i.toNat := by omega
  cbv
  cases hd4 : g .q .gtr (D (i + 1)) 4
  case true =>
    rw [goGtr hg, decide_eq_true_eq] at hd4
    cbv
    obtain ⟨h1, h2⟩ := e7 (deep i i0 (by omega) hd4)
    refine callTR1 hg ck (dwA_same rfl) (fun lo E h => bare_plainE h.bare) (fun lo E' q1 q2 q3 hE' => ?_)
    clear q2 q3
    replace hE' : CopyE 64 E' M β.lo := ⟨hE'.kk, hE'.bare, hE'.eq, hE'.new.mono q1⟩
    cbv
    rw [h1, h2] at hF
    refine finTS hF fun bl hbl => ⟨[.agg [.fv (hd1 (bl 4) E' ++ fpE E') M], ai 7], .agg (.cons (ress_copy (t := 106) (k := 64) rfl hE') .nil) (.c (.imm _) .nil), ⟨_, rfl, blk_row hbl (r := 4) (ab := ⟨106, 64, E'⟩) rfl hE'.new⟩, rfl, rfl⟩
  rw [goGtr hg, decide_eq_false_iff_not] at hd4
  cbv
  try rw [ei]
  rw [hB]
  exact ⟨i + 1, ⟨by omega, fun k a1 a2 => by
    by_cases hk : k < i
    · exact hall k a1 hk
    · rw [show k = i by omega]; omega⟩, hme, Wk.weak (wkG [some 0, some 1, some 2, some 3] ⟨rfl, rfl, rfl, rfl, rfl, trivial⟩ ⟨⟨_, _, rfl, rfl, rfl, rfl, .inl ⟨rfl, rfl⟩⟩, ⟨_, _, rfl, rfl, rfl, rfl, .inl ⟨rfl, rfl⟩⟩, ⟨_, _, rfl, rfl, rfl, rfl, .inl ⟨rfl, bare_plainE hE4.bare⟩⟩, ⟨_, _, rfl, rfl, rfl, rfl, .inr ⟨⟨rfl, trivial⟩, trivial⟩⟩, trivial⟩ (by decide) no_lt)⟩
set_option maxHeartbeats 16000000 in
theorem spec_InsertKid_t (ns : List NNode) (hl : ns.length ≤ 1048576) (hs : ∀ y ∈ ns, NNode.small y) (n kid p : Int) : TCon Tryz.prog 70 [.agg [.view (vwA NNode.ac ns)], ai n, ai kid, ai p] fun lo res rows => (∃ b0, res = .tup [.agg [.fv b0 (vwA NNode.ac (inN ns n kid p))], ai (inI ns n kid p)] ∧ NewB lo b0) ∧ plainV res = true ∧ rows = [] := by
  have ck := spec_l10Copy_t ns hl hs
  have cT := spec_TreeOk_a ns hl hs
  have cU := fun hud : upD ns ns.length n => spec_IsUnder_a ns hl n kid hud
  have cTN := fun (ns' : List NNode) h1 h2 => spec_TreeOk_a ns' h1 h2
  obtain ⟨M, hM⟩ : ∃ M, M = vwA NNode.ac ns := ⟨_, rfl⟩
  have hMx : lenI M = (ns.length : Int) := by rw [lenI_eq, hM, vwA_length]
  have cn := spec_l10Is_a M n
  have cn2 := spec_l10Is_a M kid
  have hin : isN ns n = rng n 1 (lenI M) := by rw [hMx]; rfl
  have hin2 : isN ns kid = rng kid 1 (lenI M) := by rw [hMx]; rfl
  rw [← hin] at cn
  rw [← hin2] at cn2
  obtain ⟨W, hW⟩ : ∃ W, W = vwA NNode.ac (inN ns n kid p) := ⟨_, rfl⟩
  obtain ⟨AI, hAI⟩ : ∃ W, W = inI ns n kid p := ⟨_, rfl⟩
  have hq1 : inO ns n kid = false → W = M ∧ AI = 1 := fun h => by
    have h0 : inI ns n kid p = 1 := by unfold inI; rw [if_neg (by rw [h]; decide)]
    exact ⟨by rw [hW, hM]; unfold inN; rw [if_neg (by rw [h0]; decide)], by rw [hAI, h0]⟩
  have hq := fun h => inw_of ns hl hs n kid p h M W AI hM hW hAI
  rw [← hM] at ck cT cU
  rw [← hM, ← hW, ← hAI]
  clear hin hin2 hMx hW hAI
  refine tcon_run ([(11, .hand)]) ([]) (c := body Tryz.f70) fits Tryz.func70 (by kernel_rfl) (by kernel_rfl) (by rfl) (by kernel_rfl) fun β g eff hd F heff hhd hg hF => ?_
  cbv
  refine callTR1 hg ck (dwA_same rfl) (fun lo E h => bare_plainE h.bare) (fun lo E q1 q2 q3 hE => ?_)
  clear q2 q3
  replace hE : CopyE 64 E M β.lo := ⟨hE.kk, hE.bare, hE.eq, hE.new.mono q1⟩
  clear q1
  cbv
  cases hTB : treeB ns
  case false =>
    rw [hTB] at cT
    refine call0 hg cT rfl rfl ?_
    cbv
    obtain ⟨h1, h2⟩ := hq1 (by unfold inO; rw [hTB]; rfl)
    rw [h1, h2] at hF
    refine finTS hF fun bl hbl => ⟨[.agg [.fv (hd1 (bl 2) E ++ fpE E) M], ai 1], .agg (.cons (ress_copy rfl hE) .nil) (.c (.imm _) .nil), ⟨_, rfl, blk_row hbl (r := 2) (ab := ⟨_, _, E⟩) rfl hE.new⟩, rfl, rfl⟩
  have hud := upD_all hTB n
  rw [hTB] at cT
  refine call0 hg cT rfl rfl ?_
  cbv
  cases hN : isN ns n
  case false =>
    rw [hN] at cn
    refine call0 hg cn rfl rfl ?_
    cbv
    obtain ⟨h1, h2⟩ := hq1 (by unfold inO; rw [hTB, hN]; rfl)
    rw [h1, h2] at hF
    refine finTS hF fun bl hbl => ⟨[.agg [.fv (hd1 (bl 2) E ++ fpE E) M], ai 1], .agg (.cons (ress_copy rfl hE) .nil) (.c (.imm _) .nil), ⟨_, rfl, blk_row hbl (r := 2) (ab := ⟨_, _, E⟩) rfl hE.new⟩, rfl, rfl⟩
  rw [hN] at cn
  refine call0 hg cn rfl rfl ?_
  cbv
  cases hN2 : isN ns kid
  case false =>
    rw [hN2] at cn2
    refine call0 hg cn2 rfl rfl ?_
    cbv
    obtain ⟨h1, h2⟩ := hq1 (by unfold inO; rw [hTB, hN, hN2]; rfl)
    rw [h1, h2] at hF
    refine finTS hF fun bl hbl => ⟨[.agg [.fv (hd1 (bl 2) E ++ fpE E) M], ai 1], .agg (.cons (ress_copy rfl hE) .nil) (.c (.imm _) .nil), ⟨_, rfl, blk_row hbl (r := 2) (ab := ⟨_, _, E⟩) rfl hE.new⟩, rfl, rfl⟩
  rw [hN2] at cn2
  refine call0 hg cn2 rfl rfl ?_
  cbv
  obtain ⟨x, y, K, A, B, q⟩ := hq (by unfold inO; rw [hTB, hN, hN2]; rfl)
  obtain ⟨n1, n2, k1, k2, z0, z1, y0, y1, hMj, hMk, kK, hA, hB', cA, kA, kB, iA, iN, lA, lB, lA2, r1, d2, d2', d3, d3', d6, dT⟩ := q
  clear hq1 hq
  obtain ⟨xu, xks, xs, xm, ⟨xr⟩⟩ := x
  obtain ⟨yu, yks, ys, ym, ⟨yr⟩⟩ := y
  simp only at hMj hMk d3 d6 dT cA
  cases hE0 : g .q .eql kid n
  case true =>
    rw [goEql hg, beq_iff_eq] at hE0
    cbv
    obtain ⟨h1, h2⟩ := d2 hE0
    rw [h1, h2] at hF
    refine finTS hF fun bl hbl => ⟨[.agg [.fv (hd1 (bl 2) E ++ fpE E) M], ai 2], .agg (.cons (ress_copy rfl hE) .nil) (.c (.imm _) .nil), ⟨_, rfl, blk_row hbl (r := 2) (ab := ⟨_, _, E⟩) rfl hE.new⟩, rfl, rfl⟩
  rw [goEql hg, beq_eq_false_iff_ne] at hE0
  cbv
  cases hU : undF ns kid ns.length n
  case true =>
    have cu := cU hud
    rw [hU] at cu
    refine call0 hg cu rfl rfl ?_
    cbv
    obtain ⟨h1, h2⟩ := d2' hE0 hU
    rw [h1, h2] at hF
    refine finTS hF fun bl hbl => ⟨[.agg [.fv (hd1 (bl 2) E ++ fpE E) M], ai 2], .agg (.cons (ress_copy rfl hE) .nil) (.c (.imm _) .nil), ⟨_, rfl, blk_row hbl (r := 2) (ab := ⟨_, _, E⟩) rfl hE.new⟩, rfl, rfl⟩
  have cu := cU hud
  rw [hU] at cu
  refine call0 hg cu rfl rfl ?_
  cbv
  obtain ⟨Rx, hRx⟩ : ∃ R, R = vw GRule.c xr := ⟨_, rfl⟩
  obtain ⟨Ry, hRy⟩ : ∃ R, R = vw GRule.c yr := ⟨_, rfl⟩
  obtain ⟨Ky, hKy⟩ : ∃ R, R = vw intC yks := ⟨_, rfl⟩
  rw [← hRx] at hMj
  rw [← hRy, ← hKy] at hMk
  have c5 := spec_l10Node_a M n n1 n2 hMj
  have c6 := spec_l10Node_a M kid k1 k2 hMk
  have ci := spec_l01In_r p 0 (lenI K)
  have hgl : g .ln K = lenI K := goLn hg K
  rw [← hgl] at ci
  refine call0 hg c6 rfl rfl ?_
  cbv
  cases hu0 : g .q .neq yu 0
  case true =>
    rw [goNeq hg, bne_iff_ne, ne_eq] at hu0
    cbv
    obtain ⟨h1, h2⟩ := d3 hE0 hU hu0
    rw [h1, h2] at hF
    refine finTS hF fun bl hbl => ⟨[.agg [.fv (hd1 (bl 2) E ++ fpE E) M], ai 3], .agg (.cons (ress_copy rfl hE) .nil) (.c (.imm _) .nil), ⟨_, rfl, blk_row hbl (r := 2) (ab := ⟨_, _, E⟩) rfl hE.new⟩, rfl, rfl⟩
  rw [goNeq hg, bne_eq_false_iff_eq] at hu0
  cbv
  refine call0 hg c5 rfl rfl ?_
  cbv
  cases hr : rng p 0 (lenI K)
  case false =>
    rw [show rng p 0 (g .ln K) = rng p 0 (lenI K) by rw [hgl], hr] at ci
    refine call0 hg ci rfl rfl ?_
    cbv
    obtain ⟨h1, h2⟩ := d3' hE0 hU hr
    rw [h1, h2] at hF
    refine finTS hF fun bl hbl => ⟨[.agg [.fv (hd1 (bl 2) E ++ fpE E) M], ai 3], .agg (.cons (ress_copy rfl hE) .nil) (.c (.imm _) .nil), ⟨_, rfl, blk_row hbl (r := 2) (ab := ⟨_, _, E⟩) rfl hE.new⟩, rfl, rfl⟩
  rw [show rng p 0 (g .ln K) = rng p 0 (lenI K) by rw [hgl], hr] at ci
  refine call0 hg ci rfl rfl ?_
  cbv
  refine call0 hg c5 rfl rfl ?_
  cbv
  cases xm
  case true =>
    cbv
    obtain ⟨h1, h2⟩ := d6 hE0 hU hu0 hr rfl
    rw [h1, h2] at hF
    refine finTS hF fun bl hbl => ⟨[.agg [.fv (hd1 (bl 2) E ++ fpE E) M], ai 6], .agg (.cons (ress_copy rfl hE) .nil) (.c (.imm _) .nil), ⟨_, rfl, blk_row hbl (r := 2) (ab := ⟨_, _, E⟩) rfl hE.new⟩, rfl, rfl⟩
  cbv
  refine call0 hg c5 rfl rfl ?_
  cbv
  obtain ⟨T, jj, hT, hTT, hTl, hTs, tl, deep, flat, e7, e0⟩ := dT hE0 hU hu0 hr rfl
  simp only at hT
  rw [← hRx, ← hRy, ← hKy] at hT
  clear d2 d2' d3 d3' d6 dT
  obtain ⟨r0, r1⟩ := r1 hr
  obtain ⟨b1, b2, he⟩ := hE.node hMj
  obtain ⟨c1, c2, he2⟩ := hE.node hMk
  have cT2 := cTN _ hTl hTs
  rw [← hTT] at cT2
  have es2 : g .w .sub .i64 kid 1 = kid - 1 := by rw [goSub hg, wrap_small _ (by omega)]
  have es1 : g .w .sub .i64 n 1 = n - 1 := by rw [goSub hg, wrap_small _ (by omega)]
  obtain ⟨z, hz⟩ : ∃ z, z = n - 1 := ⟨_, rfl⟩
  rw [← hz] at es1 z0 z1 he jj hT
  obtain ⟨j, hj⟩ : ∃ j, j = z.toNat := ⟨_, rfl⟩
  rw [← hj] at z1 he jj hT
  obtain ⟨y, hy⟩ : ∃ y, y = kid - 1 := ⟨_, rfl⟩
  rw [← hy] at es2 y0 y1 he2 jj hT
  obtain ⟨j2, hj2⟩ : ∃ j, j = y.toNat := ⟨_, rfl⟩
  rw [← hj2] at y1 he2 jj hT
  obtain ⟨NN, hNN⟩ : ∃ NN, NN = A ++ [[AC.imm (.int .i64 kid)]] ++ B := ⟨_, rfl⟩
  rw [← hNN] at hT iN
  have hlen0 : j < E.length := by rw [hE.len]; exact z1
  obtain ⟨F2, hF2⟩ : ∃ F2 : List Nat → List (List AC), ∀ b, F2 b = E.set j (nodeE xu NN Rx xs false b b2) := ⟨_, fun _ => rfl⟩
  obtain ⟨F3, hF3⟩ : ∃ F3, F3 = E.set j (nodeK xu 8 Rx xs false b2) := ⟨_, rfl⟩
  have hz1 : ∀ b, F2 b = F3.set j (nodeE xu NN Rx xs false b b2) := fun b => by rw [hF2, hF3, List.set_set]
  have hz2 : F3[j]? = some (nodeK xu 8 Rx xs false b2) := by rw [hF3]; exact List.getElem?_set_self hlen0
  have hE2 : ∀ (l1 : Nat) (bn : List Nat), NewB l1 bn → β.lo ≤ l1 → (∀ b ∈ fpE E, b < l1) → CopyE 64 (F2 bn) (M.set j (nodeA xu NN Rx xs false)) β.lo := fun l1 bn h1 h2 h3 => by
    rw [hF2]
    exact hE.put (y := nodeE xu NN Rx xs false bn b2) (v := nodeA xu NN Rx xs false) he rfl rfl rfl (b1 := b2) (bn := bn) (by rw [fpL_node]; exact List.perm_append_comm) (by rw [fpL_node]; exact List.sublist_append_right _ _) h1 h2 h3
  refine hand_nm hhd fits [(11, .hand)] [] 8 NN (imm_bareE iN) rfl (by kernel_rfl) (fun g2 eff2 hd2 B2 he3 hh2 hg2 hB2 => ?_)
  have es3 : g2 .w .sub .i64 n 1 = z := by rw [← es1, hg2, hg]; rfl
  have key2 : ∀ y, y = nodeK xu 8 Rx xs false b2 → g2 .st E j y = F3 := fun y h => by rw [h, goSt hg2, hF3]
  have keyN : A ++ [[AC.imm (.int .i64 kid)]] ++ B = NN := hNN.symm
  clear hF3 hNN
  cbv
  refine hand_lazy hg2 hh2 fits [0, 1, 2, 3, 5, 6, 7, 9, 12, 13, 14] (.op 4 [] (.op 8 [] (.op 10 [] (.op 11 [] (.op 15 [] (.op 16 [17] (.op 18 [] .done .none) .none) .none) .none) .none) (.op 10 [] (.op 8 [] (.op 11 [] (.op 15 [] (.op 16 [17] (.op 18 [] .done .none) .none) .none) .none) .none) .none)) (.op 10 [] (.op 4 [] (.op 8 [] (.op 11 [] (.op 15 [] (.op 16 [17] (.op 18 [] .done .none) .none) .none) .none) .none) .none) .none)) (by kernel_rfl) (by kernel_rfl) (S := Unit) (fun _ => True) (fun _ => [(1, .t (ai (n))), (2, .t (ai (kid))), (4, .t (.c (.ptr 0 0 0))), (8, .t (.c (.ptr 1 0 0))), (10, .t (.c (.ptr 3 0 0)))]) (fun _ => [.bx 43 1 [.view M], .bx 43 1 [.imm (.slice none 0 0)], .rw ⟨106, 64, F3⟩, .bx 43 1 [.own 2], .gn, .gn, .gn, .gn, .rw ⟨3, 1, NN⟩]) (fun B' hB => ?_) (fun _ _ => ?_)
  · cbv
    try rw [es3]

    repeat' (first | exact trivial | exact rfl | exact congrArg (fun x => AV.t (AT.c (AC.imm (Value.int .i64 x)))) es3 | refine And.intro ?_ ?_ | (refine goSVhi hg2 kK r0 r1 hA ?_; cbv; try rw [es3]) | (refine goSVlo hg2 kK r0 r1 hB' ?_; cbv; try rw [es3])  | (refine goNV0 hg2 kA (by decide) lA ?_; cbv; rw [goAp hg2, List.nil_append]; try rw [es3]) | (refine goNAt hg2 rfl (by decide) lA ?_; cbv; rw [goAp hg2]; try rw [es3]) | (refine goNE hg2 kB (by decide) lB lA2 ?_; cbv; rw [goAp hg2, keyN]; try rw [es3]) | (refine goYt hg2 z0 hj hlen0 ?_; cbv; try rw [es3]) | (refine ⟨_, he, ?_⟩; cbv; rw [key2]; rotate_left; rfl) | exact hB () trivial _ _ (weak_gone ⟨rfl, rfl, rfl, rfl, rfl, trivial⟩ (by repeat' (first | exact trivial | exact Or.inl rfl | exact Or.inr rfl | apply And.intro))))
  refine hB2 _ _ _ _ rfl rfl (fun l1 b p1 hn1 => ?_)
  rw [fv_imm iN]
  obtain ⟨bn, hbn⟩ : ∃ c, c = hd1 b NN := ⟨_, rfl⟩
  rw [← hbn] at hn1 ⊢
  clear hbn
  refine ⟨[(1, .t (ai (n))), (2, .t (ai (kid))), (4, .t (.c (.ptr 0 0 0))), (8, .t (.c (.ptr 1 0 0))), (10, .t (.c (.ptr 3 0 0)))], [.bx 43 1 [.view M], .bx 43 1 [.imm (.slice none 0 0)], .rw ⟨106, 64, F2 bn⟩, .bx 43 1 [.own 2], .gn, .gn, .gn, .gn, .gn], ⟨.inl rfl, .inl rfl, .inl rfl, .inl rfl, .inl rfl, trivial⟩, ⟨⟨rfl, rfl, .inl rfl, trivial⟩, ⟨rfl, rfl, .inl rfl, trivial⟩, .inr ⟨_, _, _, rfl, rfl, hz1 bn, hz2, ⟨.inl rfl, .inr (.inl ⟨rfl, rfl⟩), .inl rfl, .inl rfl, .inl rfl, .inl rfl, .inl rfl, .inl rfl, .inl rfl, .inl rfl, .inl rfl, .inl rfl, .inl rfl, .inl rfl, .inl rfl, .inl rfl, .inl rfl, .inl rfl, .inl rfl, .inl rfl, .inl rfl, .inl rfl, .inl rfl, .inl rfl, .inl rfl, .inl rfl, .inl rfl, .inl rfl, .inl rfl, .inl rfl, .inl rfl, .inl rfl, .inl rfl, .inl rfl, .inl rfl, .inl rfl, .inl rfl, .inl rfl, .inl rfl, .inl rfl, .inl rfl, .inl rfl, .inl rfl, .inl rfl, .inl rfl, .inl rfl, .inl rfl, .inl rfl, .inl rfl, .inl rfl, .inl rfl, .inl rfl, .inl rfl, .inl rfl, .inl rfl, .inl rfl, .inl rfl, .inl rfl, .inl rfl, .inl rfl, .inl rfl, .inl rfl, .inl rfl, .inl rfl, trivial⟩⟩, ⟨rfl, rfl, .inl rfl, trivial⟩, trivial, trivial, trivial, trivial, rfl, trivial⟩, ?_⟩
  have hE3 := hE2 l1 bn ⟨hn1.nd, hn1.ge⟩ p1 (fun b hb => hn1.old b (fpH_row _ 2 rfl b hb))
  clear hE2 hB2 hg2 hh2 he3 hz1 hz2 hn1
  have he5 : (F2 bn)[j2]? = some (nodeE yu Ky Ry ys ym c1 c2) := by rw [hF2, List.getElem?_set_ne jj]; exact he2
  have hlen1 : j2 < (F2 bn).length := (List.getElem?_eq_some_iff.1 he5).1
  have hE4 := hE3.set (y := nodeE n Ky Ry ys ym c1 c2) (v := nodeA n Ky Ry ys ym) he5 rfl rfl rfl rfl
  rw [← hT] at hE4
  obtain ⟨E4, he4⟩ : ∃ E4, E4 = (F2 bn).set j2 (nodeE n Ky Ry ys ym c1 c2) := ⟨_, rfl⟩
  rw [← he4] at hE4
  have key3 : ∀ y, y = nodeE n Ky Ry ys ym c1 c2 → g .st (F2 bn) j2 y = E4 := fun y h => by rw [h, goSt hg, he4]
  clear he4
  cbv
  rw [es2]
  refine goYt hg y0 hj2 hlen1 ?_
  cbv
  refine ⟨_, he5, ?_⟩
  cbv
  rw [key3]
  rotate_left
  · rfl
  have hlT : lenI E4 = lenI T := by rw [lenI_eq, lenI_eq, hE4.len]
  cases hTN : treeB (inT ns n kid p)
  case false =>
    rw [hTN] at cT2
    refine callXR hg cT2 (.agg (.cons (resC_copy (t := 106) (k := 64) (r := 2) rfl hE4) .nil) .nil) rfl ?_
    cbv
    obtain ⟨h1, h2⟩ := e7 hTN
    refine callTR1 hg ck (dwA_same rfl) (fun lo E h => bare_plainE h.bare) (fun lo E' q1 q2 q3 hE' => ?_)
    clear q2 q3
    replace hE' : CopyE 64 E' M β.lo := ⟨hE'.kk, hE'.bare, hE'.eq, hE'.new.mono q1⟩
    cbv
    rw [h1, h2] at hF
    refine finTS hF fun bl hbl => ⟨[.agg [.fv (hd1 (bl 9) E' ++ fpE E') M], ai 7], .agg (.cons (ress_copy (t := 106) (k := 64) rfl hE') .nil) (.c (.imm _) .nil), ⟨_, rfl, blk_row hbl (r := 9) (ab := ⟨106, 64, E'⟩) rfl hE'.new⟩, rfl, rfl⟩
  rw [hTN] at cT2
  refine callXR hg cT2 (.agg (.cons (resC_copy (t := 106) (k := 64) (r := 2) rfl hE4) .nil) .nil) rfl ?_
  cbv
  obtain ⟨h1, h2⟩ := e0 hTN
  rw [h1, h2] at hF
  refine finTS hF fun bl hbl => ⟨[.agg [.fv (hd1 (bl 2) E4 ++ fpE E4) T], ai 0], .agg (.cons (ress_copy (t := 106) (k := 64) rfl hE4) .nil) (.c (.imm _) .nil), ⟨_, rfl, blk_row hbl (r := 2) (ab := ⟨106, 64, E4⟩) rfl hE4.new⟩, rfl, rfl⟩
theorem inN_at (ns : List NNode) (hl : ns.length ≤ 1048576) (hs : ∀ y ∈ ns, NNode.small y) (n kid p : Int) : (inN ns n kid p).length ≤ 1048576 ∧ (∀ y ∈ inN ns n kid p, NNode.small y) ∧ (inI ns n kid p ≠ 0 → inN ns n kid p = ns) := by
  by_cases h0 : inI ns n kid p = 0
  · have hO : inO ns n kid = true := by
      cases ho : inO ns n kid with
      | true => rfl
      | false =>
        unfold inI at h0
        rw [if_neg (by rw [ho]; decide)] at h0
        cases h0
    obtain ⟨ks, x, y, Q⟩ := inq_of ns hl hs n kid p hO
    have no : ∀ c, Cd ns n kid p c → c ≠ 0 → False := fun c hc hne => hne (hc.1.symm.trans h0)
    have g1 : kid ≠ n := fun e => no 2 (Q.c2 e) (by decide)
    have g2 : undF ns kid ns.length n = false := by
      cases hu : undF ns kid ns.length n with
      | false => rfl
      | true => exact (no 2 (Q.c2' g1 hu) (by decide)).elim
    have g3 : y.up = 0 := Classical.byContradiction fun e => no 3 (Q.c3 g1 g2 e) (by decide)
    have g4 : rng p 0 (ks.length : Int) = true := by
      cases hr : rng p 0 (ks.length : Int) with
      | true => rfl
      | false => exact (no 3 (Q.c3' g1 g2 hr) (by decide)).elim
    have g5 : x.measured = false := by
      cases hm : x.measured with
      | false => rfl
      | true => exact (no 6 (Q.c6 g1 g2 g3 g4 hm) (by decide)).elim
    have t := (Q.cf g1 g2 g3 g4 g5).t hl hs (by rw [Q.hks]; exact g4)
    have e : inN ns n kid p = inT ns n kid p := by unfold inN; rw [if_pos h0]
    rw [e]
    exact ⟨t.len, t.small, fun h => absurd h0 h⟩
  · have e : inN ns n kid p = ns := by unfold inN; rw [if_neg h0]
    rw [e]
    exact ⟨hl, hs, fun _ => rfl⟩
theorem inT_small (x : NEngine) (code n m kid p : Int) (hs : x.small) : (setT x (inN x.tree.nodes m kid p) code n).small := by
  have := inN_at x.tree.nodes (by obtain ⟨⟨ms0⟩, ⟨ms, qs⟩, fs, x0, x1, x2, x3⟩ := x; exact hs.1) (by obtain ⟨⟨ms0⟩, ⟨ms, qs⟩, fs, x0, x1, x2, x3⟩ := x; exact hs.2.1) m kid p
  exact setT_small x _ code n hs this.1 this.2.1
set_option maxHeartbeats 16000000 in
theorem impl_EngInsert_t (x : NEngine) (hs : x.small) (n kid p : Int) : TCon Tryz.prog 28 [.agg x.ac, ai n, ai kid, ai p] (fun lo res rows => (∃ b0 b1 b2 b3, res = .tup [.agg (engR b0 b1 b2 b3 (setT x (inN x.tree.nodes n kid p) (inI x.tree.nodes n kid p) n)), ai (inI x.tree.nodes n kid p)] ∧ NewB lo (b0 ++ b1 ++ b2 ++ b3)) ∧ plainV res = true ∧ rows = []) := by
  have hsx := hs
  have hx0 := x
  obtain ⟨hl', hs', hc'⟩ : (inN x.tree.nodes n kid p).length ≤ 1048576 ∧ (∀ y ∈ inN x.tree.nodes n kid p, NNode.small y) ∧ (inI x.tree.nodes n kid p ≠ 0 → inN x.tree.nodes n kid p = x.tree.nodes) := by
    obtain ⟨⟨ns⟩, ⟨ms, qs⟩, fs, x0, x1, x2, x3⟩ := x
    obtain ⟨s0, s1, s2, s3, s4, s5, -⟩ := hs
    exact inN_at ns s0 s1 n kid p
  have c3 := fun bt => impl_changed_t x hs bt _ hl' hs' (inI x.tree.nodes n kid p) n hc'
  obtain ⟨⟨ns⟩, ⟨ms, qs⟩, fs, x0, x1, x2, x3⟩ := x
  obtain ⟨s0, s1, s2, s3, s4, s5, -⟩ := hs
  have c2 := impl_InsertKid_t ns s0 s1 n kid p
  simp only at hl' hs' hc'
  obtain ⟨N, hN⟩ : ∃ V, V = vwA NNode.ac ns := ⟨_, rfl⟩
  obtain ⟨M, hM⟩ : ∃ V, V = vwA NMemo.ac ms := ⟨_, rfl⟩
  obtain ⟨Q, hQ⟩ : ∃ V, V = vw GAsked.c qs := ⟨_, rfl⟩
  obtain ⟨V, hV⟩ : ∃ V, V = vw GFrame.c fs := ⟨_, rfl⟩
  obtain ⟨T, hT⟩ : ∃ V, V = vwA NNode.ac (inN ns n kid p) := ⟨_, rfl⟩
  obtain ⟨C, hC⟩ : ∃ V, V = inI ns n kid p := ⟨_, rfl⟩
  obtain ⟨MC, hMC⟩ : ∃ V, V = vwA NMemo.ac (kpM (inN ns n kid p) ms (inI ns n kid p) n) := ⟨_, rfl⟩
  replace c2 : TCon Tryz.prog 71 [.agg [.view N], ai n, ai kid, ai p] (fun lo res rows => (∃ b0, res = .tup [.agg [.fv b0 T], ai C] ∧ NewB lo b0) ∧ plainV res = true ∧ rows = []) := by rw [hN, hT, hC]; exact c2
  replace c3 : ∀ bt, TCon Tryz.prog 60 [.agg [.view N, .view M, .view Q, .view V, .imm (.int .i64 x0), .imm (.int .i64 x1), .imm (.int .i64 x2), .imm (.bool x3)], .agg [.fv bt T], ai C, ai n] (fun lo res rows => (∃ b0 b1 b2 b3, res = .tup [.agg [.fv b0 T, .fv b1 MC, .fv b2 Q, .fv b3 V, .imm (.int .i64 x0), .imm (.int .i64 x1), .imm (.int .i64 x2), .imm (.bool x3)], ai C] ∧ ∀ l0, NewB l0 bt → l0 ≤ lo → (∀ b ∈ bt, b < lo) → NewB l0 (b0 ++ b1 ++ b2 ++ b3)) ∧ plainV res = true ∧ rows = []) := fun bt => by rw [hN, hM, hQ, hV, hT, hC, hMC]; exact c3 bt
  show TCon _ _ [.agg [.view (vwA NNode.ac ns), .view (vwA NMemo.ac ms), .view (vw GAsked.c qs), .view (vw GFrame.c fs), .imm (.int .i64 x0), .imm (.int .i64 x1), .imm (.int .i64 x2), .imm (.bool x3)], ai n, ai kid, ai p] (fun lo res rows => (∃ b0 b1 b2 b3, res = .tup [.agg [.fv b0 (vwA NNode.ac (inN ns n kid p)), .fv b1 (vwA NMemo.ac (kpM (inN ns n kid p) ms (inI ns n kid p) n)), .fv b2 (vw GAsked.c qs), .fv b3 (vw GFrame.c fs), .imm (.int .i64 x0), .imm (.int .i64 x1), .imm (.int .i64 x2), .imm (.bool x3)], ai (inI ns n kid p)] ∧ NewB lo (b0 ++ b1 ++ b2 ++ b3)) ∧ plainV res = true ∧ rows = [])
  rw [← hN, ← hM, ← hQ, ← hV, ← hMC, ← hT, ← hC]
  clear hN hM hQ hV hT hC hMC  s0 s1 s2 s3 s4 s5 hl' hs' hc' hsx hx0
  refine tcon_run ([]) ([]) (c := body Tryz.f28) fits Tryz.func28 (by kernel_rfl) (by kernel_rfl) (by rfl) (by kernel_rfl) fun β g eff hd F heff hhd hg hF => ?_
  cbv
  refine callT0 hg c2 (dwA_same rfl) (fun l1 res p1 p2 p3 ⟨bt, hres, hn⟩ => ?_)
  subst hres
  clear p2 p3
  cbv
  refine callT0 hg (c3 bt) (dwA_same rfl) (fun l2 res q1 q2 q3 ⟨b0, b1, b2, b3, hres, hn2⟩ => ?_)
  subst hres
  have u1 : ∀ b ∈ bt, b < l2 := fun b hb => q2 b (by simp [fpH, fpL, fpC, hb])
  clear q2 q3
  cbv
  exact finT0 hF rfl ⟨⟨b0, b1, b2, b3, rfl, hn2 _ (hn.mono p1) q1 u1⟩, rfl, rfl⟩
set_option maxHeartbeats 16000000 in
theorem spec_EngInsert_t (x : NEngine) (hs : x.small) (n kid p : Int) : TCon Tryz.prog 27 [.agg x.ac, ai n, ai kid, ai p] (fun lo res rows => (∃ b0 b1 b2 b3, res = .tup [.agg (engR b0 b1 b2 b3 (setT x (inN x.tree.nodes n kid p) (inI x.tree.nodes n kid p) n)), ai (inI x.tree.nodes n kid p)] ∧ NewB lo (b0 ++ b1 ++ b2 ++ b3)) ∧ plainV res = true ∧ rows = []) := by
  have c0 := spec_l22Copy_t x hs
  have hsx := hs
  have hx0 := x
  obtain ⟨hl', hs', hc'⟩ : (inN x.tree.nodes n kid p).length ≤ 1048576 ∧ (∀ y ∈ inN x.tree.nodes n kid p, NNode.small y) ∧ (inI x.tree.nodes n kid p ≠ 0 → inN x.tree.nodes n kid p = x.tree.nodes) := by
    obtain ⟨⟨ns⟩, ⟨ms, qs⟩, fs, x0, x1, x2, x3⟩ := x
    obtain ⟨s0, s1, s2, s3, s4, s5, -⟩ := hs
    exact inN_at ns s0 s1 n kid p
  obtain ⟨⟨ns⟩, ⟨ms, qs⟩, fs, x0, x1, x2, x3⟩ := x
  obtain ⟨s0, s1, s2, s3, s4, s5, -⟩ := hs
  have c2 := spec_InsertKid_t ns s0 s1 n kid p
  simp only at hl' hs' hc'
  have c3 := fun d0 d1 d2 d3 => spec_l22Forget_t ⟨⟨inN ns n kid p⟩, ⟨ms, qs⟩, fs, x0, x1, x2, x3⟩ ⟨hl', hs', s2, s3, s4, s5, trivial⟩ d0 d1 d2 d3 n (inI ns n kid p)
  obtain ⟨N, hN⟩ : ∃ V, V = vwA NNode.ac ns := ⟨_, rfl⟩
  obtain ⟨M, hM⟩ : ∃ V, V = vwA NMemo.ac ms := ⟨_, rfl⟩
  obtain ⟨Q, hQ⟩ : ∃ V, V = vw GAsked.c qs := ⟨_, rfl⟩
  obtain ⟨V, hV⟩ : ∃ V, V = vw GFrame.c fs := ⟨_, rfl⟩
  obtain ⟨T, hT⟩ : ∃ V, V = vwA NNode.ac (inN ns n kid p) := ⟨_, rfl⟩
  obtain ⟨C, hC⟩ : ∃ V, V = inI ns n kid p := ⟨_, rfl⟩
  obtain ⟨MC, hMC⟩ : ∃ V, V = vwA NMemo.ac (kpM (inN ns n kid p) ms (inI ns n kid p) n) := ⟨_, rfl⟩
  replace c0 : TCon Tryz.prog 34 [.agg [.view N, .view M, .view Q, .view V, .imm (.int .i64 x0), .imm (.int .i64 x1), .imm (.int .i64 x2), .imm (.bool x3)]] (fun lo res rows => (∃ b0 b1 b2 b3, res = .t (.agg [.fv b0 N, .fv b1 M, .fv b2 Q, .fv b3 V, .imm (.int .i64 x0), .imm (.int .i64 x1), .imm (.int .i64 x2), .imm (.bool x3)]) ∧ NewB lo (b0 ++ b1 ++ b2 ++ b3)) ∧ plainV res = true ∧ rows = []) := by rw [hN, hM, hQ, hV]; exact c0
  replace c2 : TCon Tryz.prog 70 [.agg [.view N], ai n, ai kid, ai p] (fun lo res rows => (∃ b0, res = .tup [.agg [.fv b0 T], ai C] ∧ NewB lo b0) ∧ plainV res = true ∧ rows = []) := by rw [hN, hT, hC]; exact c2
  replace c3 : ∀ d0 d1 d2 d3 : List Nat, TCon Tryz.prog 56 [.agg [.fv d0 T, .fv d1 M, .fv d2 Q, .fv d3 V, .imm (.int .i64 x0), .imm (.int .i64 x1), .imm (.int .i64 x2), .imm (.bool x3)], ai n, ai C] (fun lo res rows => (∃ b0 b1 b2 b3, res = .tup [.agg [.fv b0 T, .fv b1 MC, .fv b2 Q, .fv b3 V, .imm (.int .i64 x0), .imm (.int .i64 x1), .imm (.int .i64 x2), .imm (.bool x3)], ai C] ∧ ∀ l0, NewB l0 (d0 ++ d1 ++ d2 ++ d3) → l0 ≤ lo → (∀ b ∈ d0 ++ d1 ++ d2 ++ d3, b < lo) → NewB l0 (b0 ++ b1 ++ b2 ++ b3)) ∧ plainV res = true ∧ rows = []) := fun d0 d1 d2 d3 => by rw [hM, hQ, hV, hT, hC, hMC]; exact c3 d0 d1 d2 d3
  show TCon _ _ [.agg [.view (vwA NNode.ac ns), .view (vwA NMemo.ac ms), .view (vw GAsked.c qs), .view (vw GFrame.c fs), .imm (.int .i64 x0), .imm (.int .i64 x1), .imm (.int .i64 x2), .imm (.bool x3)], ai n, ai kid, ai p] (fun lo res rows => (∃ b0 b1 b2 b3, res = .tup [.agg [.fv b0 (vwA NNode.ac (inN ns n kid p)), .fv b1 (vwA NMemo.ac (kpM (inN ns n kid p) ms (inI ns n kid p) n)), .fv b2 (vw GAsked.c qs), .fv b3 (vw GFrame.c fs), .imm (.int .i64 x0), .imm (.int .i64 x1), .imm (.int .i64 x2), .imm (.bool x3)], ai (inI ns n kid p)] ∧ NewB lo (b0 ++ b1 ++ b2 ++ b3)) ∧ plainV res = true ∧ rows = [])
  rw [← hN, ← hM, ← hQ, ← hV, ← hMC, ← hT, ← hC]
  clear hN hM hQ hV hT hC hMC  s0 s1 s2 s3 s4 s5 hl' hs' hc' hsx hx0
  refine tcon_run ([]) ([]) (c := body Tryz.f27) fits Tryz.func27 (by kernel_rfl) (by kernel_rfl) (by rfl) (by kernel_rfl) fun β g eff hd F heff hhd hg hF => ?_
  cbv
  refine callT0 hg c0 (dwA_same rfl) (fun l1 res p1 p2 p3 ⟨b0, b1, b2, b3, hres, hn⟩ => ?_)
  subst hres
  clear p2 p3
  cbv
  refine callT0 hg c2 ⟨⟨.inl rfl, trivial⟩, rfl, rfl, rfl, trivial⟩ (fun l2 res q1 q2 q3 ⟨b4, hres, hn2⟩ => ?_)
  subst hres
  have u1 : ∀ b ∈ b1 ++ b2 ++ b3, b < l2 := fun b hb => q2 b (by simp only [List.mem_append] at hb; rcases hb with (h | h) | h <;> simp [fpH, fpL, fpC, h])
  clear q2 q3
  have hn3 : NewB β.lo (b4 ++ b1 ++ b2 ++ b3) := by
    have h1 : NewB l1 (b1 ++ b2 ++ b3) := hn.sub (by rw [List.append_assoc, List.append_assoc, List.append_assoc]; exact List.sublist_append_right _ _)
    exact ((h1.mono p1).app q1 hn2 u1).perm (List.perm_iff_count.2 fun a => by simp only [List.count_append]; omega)
  cbv
  refine callT0 hg (c3 b4 b1 b2 b3) (dwA_same rfl) (fun l3 res r1 r2 r3 ⟨e0, e1, e2, e3, hres, hn4⟩ => ?_)
  subst hres
  have u2 : ∀ b ∈ b4 ++ b1 ++ b2 ++ b3, b < l3 := fun b hb => r2 b (by simp only [List.mem_append] at hb; rcases hb with ((h | h) | h) | h <;> simp [fpH, fpL, fpC, h])
  clear r2 r3
  cbv
  exact finT0 hF rfl ⟨⟨e0, e1, e2, e3, rfl, hn4 _ hn3 r1 u2⟩, rfl, rfl⟩
set_option maxHeartbeats 16000000 in
theorem laws_FnExactEngInsert_w (w : World) (a0 : NEngine) (f0 : a0.fit) (v0 : Value) (r0 : RT (fun b => b < w.heap.size) w [] [] (.agg a0.ac) v0) (a1 : Int) (a2 : Int) (a3 : Int) :
    Calls Tryz.prog 7 #[v0, .int .i64 a1, .int .i64 a2, .int .i64 a3] w fun e w' => e = .returned (.bool true) ∧ Below w.heap.size w w' := by
  have cz0 := fun (L : Int) (h0 : 0 ≤ L) (h1 : L ≤ 1048576) => laws_szEngine_n a0 L f0 h0 h1
  have ck0 : a0.small → _ := fun hs => laws_toEngine_n a0 hs
  have ct0 : a0.small → _ := fun hs => laws_toEngine_t a0 hs
  have ce0 : a0.small → _ := fun hs => laws_eqEngine_n a0 hs
  have cm0 : a0.small → _ := fun hs => markEngine_m a0 hs
  have cs := fun (hs0 : a0.small) => spec_EngInsert_t a0 hs0 a1 a2 a3
  have ci := fun (hs0 : a0.small) => impl_EngInsert_t a0 hs0 a1 a2 a3
  have hR := fun (hs0 : a0.small) => inT_small a0 (inI a0.tree.nodes a1 a2 a3) a1 a1 a2 a3 hs0
  have eg := fun (hs0 : a0.small) => laws_eqEngine_n _ (hR hs0)
  have cg := fun (hs0 : a0.small) => markEngine_h _ (hR hs0)
  clear hR
  obtain ⟨S0, hS0⟩ : ∃ S : Prop, S = a0.small := ⟨_, rfl⟩
  obtain ⟨⟨a0ns⟩, ⟨a0ms, a0qs⟩, a0fs, a0e0, a0e1, a0e2, a0e3⟩ := a0
  obtain ⟨V00, hV00⟩ : ∃ V, V = vwA NNode.ac a0ns := ⟨_, rfl⟩
  obtain ⟨V01, hV01⟩ : ∃ V, V = vwA NMemo.ac a0ms := ⟨_, rfl⟩
  obtain ⟨V02, hV02⟩ : ∃ V, V = vw GAsked.c a0qs := ⟨_, rfl⟩
  obtain ⟨V03, hV03⟩ : ∃ V, V = vw GFrame.c a0fs := ⟨_, rfl⟩

  obtain ⟨G0, hG0⟩ : ∃ V, V = vwA NNode.ac (inN a0ns a1 a2 a3) := ⟨_, rfl⟩
  obtain ⟨G1, hG1⟩ : ∃ V, V = vwA NMemo.ac (kpM (inN a0ns a1 a2 a3) a0ms (inI a0ns a1 a2 a3) a1) := ⟨_, rfl⟩
  obtain ⟨G2, hG2⟩ : ∃ V, V = vw GAsked.c a0qs := ⟨_, rfl⟩
  obtain ⟨G3, hG3⟩ : ∃ V, V = vw GFrame.c a0fs := ⟨_, rfl⟩
  obtain ⟨X0, hX0⟩ : ∃ X : Int, X = inI a0ns a1 a2 a3 := ⟨_, rfl⟩
  replace r0 : RT (fun b => b < w.heap.size) w [] [] (.agg [.view V00, .view V01, .view V02, .view V03, .imm (.int .i64 a0e0), .imm (.int .i64 a0e1), .imm (.int .i64 a0e2), .imm (.bool a0e3)]) v0 := by rw [hV00, hV01, hV02, hV03]; exact r0
  replace cz0 : ∀ L : Int, 0 ≤ L → L ≤ 1048576 → PCon Tryz.prog 9 [.agg [.view V00, .view V01, .view V02, .view V03, .imm (.int .i64 a0e0), .imm (.int .i64 a0e1), .imm (.int .i64 a0e2), .imm (.bool a0e3)], ai L] (fun res rows => ∃ R : Int, res = .t (ai R) ∧ rows = [] ∧ (R ≤ L ∨ R < 0) ∧ (0 ≤ R → S0)) := by rw [hV00, hV01, hV02, hV03, hS0]; exact cz0
  replace ck0 : S0 → PCon Tryz.prog 11 [.agg [.view V00, .view V01, .view V02, .view V03, .imm (.int .i64 a0e0), .imm (.int .i64 a0e1), .imm (.int .i64 a0e2), .imm (.bool a0e3)]] (fun res rows => res = .t (.agg [.view V00, .view V01, .view V02, .view V03, .imm (.int .i64 a0e0), .imm (.int .i64 a0e1), .imm (.int .i64 a0e2), .imm (.bool a0e3)]) ∧ rows = []) := by rw [hV00, hV01, hV02, hV03, hS0]; exact ck0
  replace ct0 : S0 → TCon Tryz.prog 11 [.agg [.view V00, .view V01, .view V02, .view V03, .imm (.int .i64 a0e0), .imm (.int .i64 a0e1), .imm (.int .i64 a0e2), .imm (.bool a0e3)]] (fun lo res rows => (∃ b0 b1 b2 b3, res = .t (.agg [.fv b0 V00, .fv b1 V01, .fv b2 V02, .fv b3 V03, .imm (.int .i64 a0e0), .imm (.int .i64 a0e1), .imm (.int .i64 a0e2), .imm (.bool a0e3)]) ∧ NewB lo (b0 ++ b1 ++ b2 ++ b3)) ∧ plainV res = true ∧ rows = []) := by rw [hV00, hV01, hV02, hV03, hS0]; exact ct0
  replace ce0 : S0 → PCon Tryz.prog 14 [.agg [.view V00, .view V01, .view V02, .view V03, .imm (.int .i64 a0e0), .imm (.int .i64 a0e1), .imm (.int .i64 a0e2), .imm (.bool a0e3)], .agg [.view V00, .view V01, .view V02, .view V03, .imm (.int .i64 a0e0), .imm (.int .i64 a0e1), .imm (.int .i64 a0e2), .imm (.bool a0e3)]] (fun res rows => res = .t (abl true) ∧ rows = []) := by rw [hV00, hV01, hV02, hV03, hS0]; exact ce0
  replace cm0 : S0 → ∀ k0 : Int, 0 ≤ k0 → k0 ≤ 1000000000000000 → ∃ (R0 R1 R2 R3 : List (List AC)) (K : Int), k0 ≤ K ∧ K ≤ k0 + 100000000000000 ∧ (∀ b0 b1 b2 b3 : List Nat, (b0 ++ b1 ++ b2 ++ b3).Nodup → MCon Tryz.prog 15 [.agg [.fv b0 V00, .fv b1 V01, .fv b2 V02, .fv b3 V03, .imm (.int .i64 a0e0), .imm (.int .i64 a0e1), .imm (.int .i64 a0e2), .imm (.bool a0e3)], ai k0] [(b0, V00, R0), (b1, V01, R1), (b2, V02, R2), (b3, V03, R3)] (.int .i64 K)) := by rw [hV00, hV01, hV02, hV03, hS0]; exact cm0
  replace cs : S0 → TCon Tryz.prog 27 [.agg [.view V00, .view V01, .view V02, .view V03, .imm (.int .i64 a0e0), .imm (.int .i64 a0e1), .imm (.int .i64 a0e2), .imm (.bool a0e3)], ai a1, ai a2, ai a3] (fun lo res rows => (∃ b0 b1 b2 b3, res = .tup [.agg [.fv b0 G0, .fv b1 G1, .fv b2 G2, .fv b3 G3, .imm (.int .i64 a0e0), .imm (.int .i64 a0e1), .imm (.int .i64 a0e2), .imm (.bool a0e3)], ai X0] ∧ NewB lo (b0 ++ b1 ++ b2 ++ b3)) ∧ plainV res = true ∧ rows = []) := by rw [hV00, hV01, hV02, hV03, hS0, hG0, hG1, hG2, hG3, hX0]; exact cs
  replace ci : S0 → TCon Tryz.prog 28 [.agg [.view V00, .view V01, .view V02, .view V03, .imm (.int .i64 a0e0), .imm (.int .i64 a0e1), .imm (.int .i64 a0e2), .imm (.bool a0e3)], ai a1, ai a2, ai a3] (fun lo res rows => (∃ b0 b1 b2 b3, res = .tup [.agg [.fv b0 G0, .fv b1 G1, .fv b2 G2, .fv b3 G3, .imm (.int .i64 a0e0), .imm (.int .i64 a0e1), .imm (.int .i64 a0e2), .imm (.bool a0e3)], ai X0] ∧ NewB lo (b0 ++ b1 ++ b2 ++ b3)) ∧ plainV res = true ∧ rows = []) := by rw [hV00, hV01, hV02, hV03, hS0, hG0, hG1, hG2, hG3, hX0]; exact ci
  replace eg : S0 → PCon Tryz.prog 14 [.agg [.view G0, .view G1, .view G2, .view G3, .imm (.int .i64 a0e0), .imm (.int .i64 a0e1), .imm (.int .i64 a0e2), .imm (.bool a0e3)], .agg [.view G0, .view G1, .view G2, .view G3, .imm (.int .i64 a0e0), .imm (.int .i64 a0e1), .imm (.int .i64 a0e2), .imm (.bool a0e3)]] (fun res rows => res = .t (abl true) ∧ rows = []) := by rw [hS0, hG0, hG1, hG2, hG3]; exact eg
  replace cg : S0 → ∃ (R0 R1 R2 R3 : List (List AC)) (K : Int), 1 ≤ K ∧ K ≤ 1 + 100000000000000 ∧ (∀ b0 b1 b2 b3 : List Nat, (b0 ++ b1 ++ b2 ++ b3).Nodup → MCon Tryz.prog 15 [.agg [.fv b0 G0, .fv b1 G1, .fv b2 G2, .fv b3 G3, .imm (.int .i64 a0e0), .imm (.int .i64 a0e1), .imm (.int .i64 a0e2), .imm (.bool a0e3)], ai 1] [(b0, G0, R0), (b1, G1, R1), (b2, G2, R2), (b3, G3, R3)] (.int .i64 K)) ∧ PCon Tryz.prog 16 [.agg [.view R0, .view R1, .view R2, .view R3, .imm (.int .i64 a0e0), .imm (.int .i64 a0e1), .imm (.int .i64 a0e2), .imm (.bool a0e3)], ai 1] (fun res rows => res = .t (ai K) ∧ rows = []) := by rw [hS0, hG0, hG1, hG2, hG3]; exact cg
  have cw : S0 → PCon Tryz.prog 27 [.agg [.view V00, .view V01, .view V02, .view V03, .imm (.int .i64 a0e0), .imm (.int .i64 a0e1), .imm (.int .i64 a0e2), .imm (.bool a0e3)], ai a1, ai a2, ai a3] (fun res rows => res = .tup [.agg [.view G0, .view G1, .view G2, .view G3, .imm (.int .i64 a0e0), .imm (.int .i64 a0e1), .imm (.int .i64 a0e2), .imm (.bool a0e3)], ai X0] ∧ rows = []) := fun h0 => pcon_of_tcon2 (y := .agg [.view G0, .view G1, .view G2, .view G3, .imm (.int .i64 a0e0), .imm (.int .i64 a0e1), .imm (.int .i64 a0e2), .imm (.bool a0e3)]) (Q := fun _ _ => True) ((cs h0).mono fun lo res rows ⟨⟨b0, b1, b2, b3, h1, h2⟩, h3, h4⟩ => ⟨⟨_, h1, ⟨.inl rfl, .inl rfl, .inl rfl, .inl rfl, rfl, rfl, rfl, rfl, trivial⟩, trivial⟩, h3, h4⟩)
  have ch : S0 → PCon Tryz.prog 28 [.agg [.view V00, .view V01, .view V02, .view V03, .imm (.int .i64 a0e0), .imm (.int .i64 a0e1), .imm (.int .i64 a0e2), .imm (.bool a0e3)], ai a1, ai a2, ai a3] (fun res rows => res = .tup [.agg [.view G0, .view G1, .view G2, .view G3, .imm (.int .i64 a0e0), .imm (.int .i64 a0e1), .imm (.int .i64 a0e2), .imm (.bool a0e3)], ai X0] ∧ rows = []) := fun h0 => pcon_of_tcon2 (y := .agg [.view G0, .view G1, .view G2, .view G3, .imm (.int .i64 a0e0), .imm (.int .i64 a0e1), .imm (.int .i64 a0e2), .imm (.bool a0e3)]) (Q := fun _ _ => True) ((ci h0).mono fun lo res rows ⟨⟨b0, b1, b2, b3, h1, h2⟩, h3, h4⟩ => ⟨⟨_, h1, ⟨.inl rfl, .inl rfl, .inl rfl, .inl rfl, rfl, rfl, rfl, rfl, trivial⟩, trivial⟩, h3, h4⟩)
  clear cs hS0 hV00 hV01 hV02 hV03 f0 hG0 hG1 hG2 hG3 hX0
  refine law_cut 5 [(13, .hand), (17, .hand)] [] (S0) (args := fun lo => [.agg [.old lo V00, .old lo V01, .old lo V02, .old lo V03, .imm (.int .i64 a0e0), .imm (.int .i64 a0e1), .imm (.int .i64 a0e2), .imm (.bool a0e3)], ai a1, ai a2, ai a3]) (c := body Tryz.f7) (fun lo => [(1, .t (ai a1)), (2, .t (ai a2)), (3, .t (ai a3)), (4, .t (.c (.ptr 0 0 0))), (10, .t (.c (.ptr 1 0 0))), (11, .t (ai X0))]) (fun lo => [.bx 31 8 [.old lo V00, .old lo V01, .old lo V02, .old lo V03, .imm (.int .i64 a0e0), .imm (.int .i64 a0e1), .imm (.int .i64 a0e2), .imm (.bool a0e3)], .bx 50 8 [.view G0, .view G1, .view G2, .view G3, .imm (.int .i64 a0e0), .imm (.int .i64 a0e1), .imm (.int .i64 a0e2), .imm (.bool a0e3)]]) fits Tryz.func7 (by kernel_rfl) (by kernel_rfl) (fun _ => by rfl) (by kernel_rfl) (fun β g eff hd F B hex heff hhd hg hF hB => ?_) (fun β lo g eff hd F hs0 hlo hex heff hhd hg hF => ?_) (vs := [v0, .int .i64 a1, .int .i64 a2, .int .i64 a3]) rfl (argsR_cons (rt_old (xs := [.view V00, .view V01, .view V02, .view V03, .imm (.int .i64 a0e0), .imm (.int .i64 a0e1), .imm (.int .i64 a0e2), .imm (.bool a0e3)]) rfl r0) (argsR_cons (rt_int _) (argsR_cons (rt_int _) (argsR_cons (rt_int _) (argsR_nil)))))
  · clear r0
    cbv
    refine callDw hg (cz0 1048576 (by decide) (by decide)) ⟨⟨rfl, rfl, rfl, rfl, rfl, rfl, rfl, rfl, trivial⟩, rfl, trivial⟩ (fun res rows ⟨R0, hres, hrows, hz0, hy0⟩ => ?_)
    subst hres hrows
    refine ⟨[], rfl, ?_⟩
    cbv
    cases hl0 : g .q .lss R0 0
    case true =>
      cbv
      rw [hF]
    rw [goLss hg, decide_eq_false_iff_not] at hl0
    have hs0 : S0 := hy0 (by omega)
    cbv
    clear cz0
    repeat' (first | (refine call0DwP hg (ck0 hs0) ⟨⟨rfl, rfl, rfl, rfl, rfl, rfl, rfl, rfl, trivial⟩, trivial⟩ rfl ?_; cbv) | (refine call0Dw hg (ck0 hs0) ⟨⟨rfl, rfl, rfl, rfl, rfl, rfl, rfl, rfl, trivial⟩, trivial⟩ rfl ?_; cbv) | (refine call0DwP hg (cw hs0) (dwA_same rfl) rfl ?_; cbv) | (refine call0Dw hg (cw hs0) (dwA_same rfl) rfl ?_; cbv))
    skip
    exact hB hs0 _ _ (Wk.weak (wkG [some 0, some 1] ⟨rfl, rfl, rfl, rfl, rfl, rfl, trivial⟩ ⟨⟨_, _, rfl, rfl, rfl, rfl, .inl ⟨rfl, rfl⟩⟩, ⟨_, _, rfl, rfl, rfl, rfl, .inl ⟨rfl, rfl⟩⟩, trivial⟩ (by decide) no_lt))
  · clear r0 cz0 cw
    replace ck0 := ck0 hs0
    replace ct0 := ct0 hs0
    replace ce0 := ce0 hs0
    replace cm0 := cm0 hs0
    replace ci := ci hs0
    replace ch := ch hs0
    replace eg := eg hs0
    replace cg := cg hs0
    cbv
    refine callT0 hg ct0 ⟨⟨rfl, rfl, rfl, rfl, rfl, rfl, rfl, rfl, trivial⟩, trivial⟩ (fun lo0 res q1 q2 q3 ⟨b00, b01, b02, b03, hres, hn0⟩ => ?_)
    subst hres
    have p0 : β.lo ≤ lo0 := q1
    clear q1 q2 q3
    cbv
    have l_b00 : ∀ b ∈ b00, lo0 ≤ b := fun b hb => hn0.2 b (by simp [hb])
    have l_b01 : ∀ b ∈ b01, lo0 ≤ b := fun b hb => hn0.2 b (by simp [hb])
    have l_b02 : ∀ b ∈ b02, lo0 ≤ b := fun b hb => hn0.2 b (by simp [hb])
    have l_b03 : ∀ b ∈ b03, lo0 ≤ b := fun b hb => hn0.2 b (by simp [hb])
    refine callT0 hg ci ⟨⟨.inl rfl, .inl rfl, .inl rfl, .inl rfl, rfl, rfl, rfl, rfl, trivial⟩, rfl, rfl, rfl, trivial⟩ (fun log res q1 q2 q3 ⟨c0, c1, c2, c3, hres, hng⟩ => ?_)
    subst hres
    have pg : β.lo ≤ log := q1
    have u_g_b00 : ∀ b ∈ b00, b < log := fun b hb => q2 b (by simp [fpH, fpL, fpC, hb])
    have u_g_b01 : ∀ b ∈ b01, b < log := fun b hb => q2 b (by simp [fpH, fpL, fpC, hb])
    have u_g_b02 : ∀ b ∈ b02, b < log := fun b hb => q2 b (by simp [fpH, fpL, fpC, hb])
    have u_g_b03 : ∀ b ∈ b03, b < log := fun b hb => q2 b (by simp [fpH, fpL, fpC, hb])
    clear q1 q2 q3 ci ct0
    cbv
    have l_c0 : ∀ b ∈ c0, log ≤ b := fun b hb => hng.2 b (by simp [hb])
    have l_c1 : ∀ b ∈ c1, log ≤ b := fun b hb => hng.2 b (by simp [hb])
    have l_c2 : ∀ b ∈ c2, log ≤ b := fun b hb => hng.2 b (by simp [hb])
    have l_c3 : ∀ b ∈ c3, log ≤ b := fun b hb => hng.2 b (by simp [hb])
    have eX : g .q .neq (X0) (X0) = false := by rw [goNeq hg]; simp
    refine call0Dw hg eg ⟨⟨.inl rfl, .inl rfl, .inl rfl, .inl rfl, rfl, rfl, rfl, rfl, trivial⟩, ⟨rfl, rfl, rfl, rfl, rfl, rfl, rfl, rfl, trivial⟩, trivial⟩ rfl ?_
    cbv
    rw [eX]
    cbv
    refine call0DwP hg ck0 ⟨⟨rfl, rfl, rfl, rfl, rfl, rfl, rfl, rfl, trivial⟩, trivial⟩ rfl ?_
    cbv
    refine call0DwP hg ce0 ⟨⟨.inl rfl, .inl rfl, .inl rfl, .inl rfl, rfl, rfl, rfl, rfl, trivial⟩, ⟨rfl, rfl, rfl, rfl, rfl, rfl, rfl, rfl, trivial⟩, trivial⟩ rfl ?_
    cbv
    obtain ⟨Z00, Z01, Z02, Z03, K0, hK0, hL0, hm0⟩ := cm0 1 (by decide) (by decide)
    have hU1 : ∀ u ∈ [(b00, V00, Z00), (b01, V01, Z01), (b02, V02, Z02), (b03, V03, Z03)], ∀ b ∈ u.1, lo0 ≤ b := fun u hu => by
      simp only [List.mem_cons, List.mem_nil_iff, or_false, List.not_mem_nil] at hu
      rcases hu with rfl | rfl | rfl | rfl
      · exact l_b00
      · exact l_b01
      · exact l_b02
      · exact l_b03
    have hVg : ∀ u ∈ [(b00, V00, Z00), (b01, V01, Z01), (b02, V02, Z02), (b03, V03, Z03)], ∀ b ∈ u.1, b < log := fun u hu => by
      simp only [List.mem_cons, List.mem_nil_iff, or_false, List.not_mem_nil] at hu
      rcases hu with rfl | rfl | rfl | rfl
      · exact u_g_b00
      · exact u_g_b01
      · exact u_g_b02
      · exact u_g_b03
    have hUm : ∀ u ∈ [(b00, V00, Z00), (b01, V01, Z01), (b02, V02, Z02), (b03, V03, Z03)], ∃ x ∈ ([.agg [.fv b00 V00, .fv b01 V01, .fv b02 V02, .fv b03 V03, .imm (.int .i64 a0e0), .imm (.int .i64 a0e1), .imm (.int .i64 a0e2), .imm (.bool a0e3)], ai 1] : List AT), .fv u.1 u.2.1 ∈ x.cells := fun u hu => by
      simp only [List.mem_cons, List.mem_nil_iff, or_false, List.not_mem_nil] at hu
      rcases hu with rfl | rfl | rfl | rfl
      · exact ⟨_, List.mem_cons_self .., List.mem_cons_self ..⟩
      · exact ⟨_, List.mem_cons_self .., List.mem_cons_of_mem _ (List.mem_cons_self ..)⟩
      · exact ⟨_, List.mem_cons_self .., List.mem_cons_of_mem _ (List.mem_cons_of_mem _ (List.mem_cons_self ..))⟩
      · exact ⟨_, List.mem_cons_self .., List.mem_cons_of_mem _ (List.mem_cons_of_mem _ (List.mem_cons_of_mem _ (List.mem_cons_self ..)))⟩
    refine hand_mark hg hhd fits 2 (by kernel_rfl) (fun mk hmk => ?_)
    cbv
    subst hmk
    refine ⟨_, _, _, [(b00, V00, Z00), (b01, V01, Z01), (b02, V02, Z02), (b03, V03, Z03)], _, [(1, .t (ai a1)), (2, .t (ai a2)), (3, .t (ai a3)), (4, .t (.c (.ptr 0 0 0))), (10, .t (.c (.ptr 1 0 0))), (11, .t (ai X0)), (12, .t (.c (.ptr 2 0 0))), (13, .t (.c (.ptr 3 0 0))), (14, .t (ai X0))], [.bx 31 8 [.old lo V00, .old lo V01, .old lo V02, .old lo V03, .imm (.int .i64 a0e0), .imm (.int .i64 a0e1), .imm (.int .i64 a0e2), .imm (.bool a0e3)], .bx 50 8 [.old β.lo G0, .old β.lo G1, .old β.lo G2, .old β.lo G3, .imm (.int .i64 a0e0), .imm (.int .i64 a0e1), .imm (.int .i64 a0e2), .imm (.bool a0e3)], .bx 50 8 [.dead, .dead, .dead, .dead, .imm (.int .i64 a0e0), .imm (.int .i64 a0e1), .imm (.int .i64 a0e2), .imm (.bool a0e3)], .bx 50 8 [.fv c0 G0, .fv c1 G1, .fv c2 G2, .fv c3 G3, .imm (.int .i64 a0e0), .imm (.int .i64 a0e1), .imm (.int .i64 a0e2), .imm (.bool a0e3)]], rfl, rfl, rfl, rfl, rfl, hm0 b00 b01 b02 b03 hn0.1, fun u hu b hb => hex b (Nat.le_trans p0 (hU1 u hu b hb)), fun u hu => hUm u hu, ⟨.inr (.inl ⟨rfl, trivial⟩), .inr (.inl ⟨rfl, trivial⟩), .inr (.inl ⟨rfl, trivial⟩), .inr (.inl ⟨rfl, trivial⟩), .inr (.inl ⟨rfl, trivial⟩), .inr (.inl ⟨rfl, trivial⟩), .inr (.inl ⟨rfl, trivial⟩), .inr (.inl ⟨rfl, trivial⟩), .inr (.inl ⟨rfl, trivial⟩), trivial⟩, ⟨⟨rfl, rfl, .inr (.inl ⟨rfl, okM_old (Nat.le_trans hlo p0) hU1⟩), .inr (.inl ⟨rfl, okM_old (Nat.le_trans hlo p0) hU1⟩), .inr (.inl ⟨rfl, okM_old (Nat.le_trans hlo p0) hU1⟩), .inr (.inl ⟨rfl, okM_old (Nat.le_trans hlo p0) hU1⟩), .inr (.inl ⟨rfl, trivial⟩), .inr (.inl ⟨rfl, trivial⟩), .inr (.inl ⟨rfl, trivial⟩), .inr (.inl ⟨rfl, trivial⟩), trivial⟩, ⟨rfl, rfl, .inr (.inl ⟨rfl, okM_old p0 hU1⟩), .inr (.inl ⟨rfl, okM_old p0 hU1⟩), .inr (.inl ⟨rfl, okM_old p0 hU1⟩), .inr (.inl ⟨rfl, okM_old p0 hU1⟩), .inr (.inl ⟨rfl, trivial⟩), .inr (.inl ⟨rfl, trivial⟩), .inr (.inl ⟨rfl, trivial⟩), .inr (.inl ⟨rfl, trivial⟩), trivial⟩, ⟨rfl, rfl, .inl rfl, .inl rfl, .inl rfl, .inl rfl, .inr (.inl ⟨rfl, trivial⟩), .inr (.inl ⟨rfl, trivial⟩), .inr (.inl ⟨rfl, trivial⟩), .inr (.inl ⟨rfl, trivial⟩), trivial⟩, ⟨rfl, rfl, .inr (.inl ⟨rfl, okM_gt l_c0 hVg⟩), .inr (.inl ⟨rfl, okM_gt l_c1 hVg⟩), .inr (.inl ⟨rfl, okM_gt l_c2 hVg⟩), .inr (.inl ⟨rfl, okM_gt l_c3 hVg⟩), .inr (.inl ⟨rfl, trivial⟩), .inr (.inl ⟨rfl, trivial⟩), .inr (.inl ⟨rfl, trivial⟩), .inr (.inl ⟨rfl, trivial⟩), trivial⟩, trivial⟩, ?_⟩
    clear hU1 hUm hVg hm0
    cbv
    have eK : g .q .lss K0 0 = false := by rw [goLss hg]; exact decide_eq_false (by omega)
    rw [eK]
    cbv
    refine call0Dw hg eg ⟨⟨.inl rfl, .inl rfl, .inl rfl, .inl rfl, rfl, rfl, rfl, rfl, trivial⟩, ⟨rfl, rfl, rfl, rfl, rfl, rfl, rfl, rfl, trivial⟩, trivial⟩ rfl ?_
    cbv
    rw [eX]
    cbv
    obtain ⟨Y0, Y1, Y2, Y3, M, hM0, hM1, hmg, hd2⟩ := cg
    have hU1 : ∀ u ∈ [(c0, G0, Y0), (c1, G1, Y1), (c2, G2, Y2), (c3, G3, Y3)], ∀ b ∈ u.1, log ≤ b := fun u hu => by
      simp only [List.mem_cons, List.mem_nil_iff, or_false, List.not_mem_nil] at hu
      rcases hu with rfl | rfl | rfl | rfl
      · exact l_c0
      · exact l_c1
      · exact l_c2
      · exact l_c3
    have hUm : ∀ u ∈ [(c0, G0, Y0), (c1, G1, Y1), (c2, G2, Y2), (c3, G3, Y3)], ∃ x ∈ ([.agg [.fv c0 G0, .fv c1 G1, .fv c2 G2, .fv c3 G3, .imm (.int .i64 a0e0), .imm (.int .i64 a0e1), .imm (.int .i64 a0e2), .imm (.bool a0e3)], ai 1] : List AT), .fv u.1 u.2.1 ∈ x.cells := fun u hu => by
      simp only [List.mem_cons, List.mem_nil_iff, or_false, List.not_mem_nil] at hu
      rcases hu with rfl | rfl | rfl | rfl
      · exact ⟨_, List.mem_cons_self .., List.mem_cons_self ..⟩
      · exact ⟨_, List.mem_cons_self .., List.mem_cons_of_mem _ (List.mem_cons_self ..)⟩
      · exact ⟨_, List.mem_cons_self .., List.mem_cons_of_mem _ (List.mem_cons_of_mem _ (List.mem_cons_self ..))⟩
      · exact ⟨_, List.mem_cons_self .., List.mem_cons_of_mem _ (List.mem_cons_of_mem _ (List.mem_cons_of_mem _ (List.mem_cons_self ..)))⟩
    refine hand_mark hg hhd fits 2 (by kernel_rfl) (fun mk hmk => ?_)
    cbv
    subst hmk
    refine ⟨_, _, _, [(c0, G0, Y0), (c1, G1, Y1), (c2, G2, Y2), (c3, G3, Y3)], _, [(1, .t (ai a1)), (2, .t (ai a2)), (3, .t (ai a3)), (4, .t (.c (.ptr 0 0 0))), (10, .t (.c (.ptr 1 0 0))), (11, .t (ai X0)), (12, .t (.c (.ptr 2 0 0))), (13, .t (.c (.ptr 3 0 0))), (14, .t (ai X0))], [.bx 31 8 [.old lo V00, .old lo V01, .old lo V02, .old lo V03, .imm (.int .i64 a0e0), .imm (.int .i64 a0e1), .imm (.int .i64 a0e2), .imm (.bool a0e3)], .bx 50 8 [.old β.lo G0, .old β.lo G1, .old β.lo G2, .old β.lo G3, .imm (.int .i64 a0e0), .imm (.int .i64 a0e1), .imm (.int .i64 a0e2), .imm (.bool a0e3)], .bx 50 8 [.dead, .dead, .dead, .dead, .imm (.int .i64 a0e0), .imm (.int .i64 a0e1), .imm (.int .i64 a0e2), .imm (.bool a0e3)], .bx 50 8 [.fv c0 Y0, .fv c1 Y1, .fv c2 Y2, .fv c3 Y3, .imm (.int .i64 a0e0), .imm (.int .i64 a0e1), .imm (.int .i64 a0e2), .imm (.bool a0e3)]], rfl, rfl, rfl, rfl, rfl, hmg c0 c1 c2 c3 hng.1, fun u hu b hb => hex b (Nat.le_trans pg (hU1 u hu b hb)), fun u hu => hUm u hu, ⟨.inr (.inl ⟨rfl, trivial⟩), .inr (.inl ⟨rfl, trivial⟩), .inr (.inl ⟨rfl, trivial⟩), .inr (.inl ⟨rfl, trivial⟩), .inr (.inl ⟨rfl, trivial⟩), .inr (.inl ⟨rfl, trivial⟩), .inr (.inl ⟨rfl, trivial⟩), .inr (.inl ⟨rfl, trivial⟩), .inr (.inl ⟨rfl, trivial⟩), trivial⟩, ⟨⟨rfl, rfl, .inr (.inl ⟨rfl, okM_old (Nat.le_trans hlo pg) hU1⟩), .inr (.inl ⟨rfl, okM_old (Nat.le_trans hlo pg) hU1⟩), .inr (.inl ⟨rfl, okM_old (Nat.le_trans hlo pg) hU1⟩), .inr (.inl ⟨rfl, okM_old (Nat.le_trans hlo pg) hU1⟩), .inr (.inl ⟨rfl, trivial⟩), .inr (.inl ⟨rfl, trivial⟩), .inr (.inl ⟨rfl, trivial⟩), .inr (.inl ⟨rfl, trivial⟩), trivial⟩, ⟨rfl, rfl, .inr (.inl ⟨rfl, okM_old pg hU1⟩), .inr (.inl ⟨rfl, okM_old pg hU1⟩), .inr (.inl ⟨rfl, okM_old pg hU1⟩), .inr (.inl ⟨rfl, okM_old pg hU1⟩), .inr (.inl ⟨rfl, trivial⟩), .inr (.inl ⟨rfl, trivial⟩), .inr (.inl ⟨rfl, trivial⟩), .inr (.inl ⟨rfl, trivial⟩), trivial⟩, ⟨rfl, rfl, .inl rfl, .inl rfl, .inl rfl, .inl rfl, .inr (.inl ⟨rfl, trivial⟩), .inr (.inl ⟨rfl, trivial⟩), .inr (.inl ⟨rfl, trivial⟩), .inr (.inl ⟨rfl, trivial⟩), trivial⟩, ⟨rfl, rfl, .inr (.inr ⟨_, List.mem_cons_self .., rfl, rfl⟩), .inr (.inr ⟨_, List.mem_cons_of_mem _ (List.mem_cons_self ..), rfl, rfl⟩), .inr (.inr ⟨_, List.mem_cons_of_mem _ (List.mem_cons_of_mem _ (List.mem_cons_self ..)), rfl, rfl⟩), .inr (.inr ⟨_, List.mem_cons_of_mem _ (List.mem_cons_of_mem _ (List.mem_cons_of_mem _ (List.mem_cons_self ..))), rfl, rfl⟩), .inr (.inl ⟨rfl, trivial⟩), .inr (.inl ⟨rfl, trivial⟩), .inr (.inl ⟨rfl, trivial⟩), .inr (.inl ⟨rfl, trivial⟩), trivial⟩, trivial⟩, ?_⟩
    clear hU1 hUm hmg
    cbv
    have eM : g .q .lss M 0 = false := by rw [goLss hg]; exact decide_eq_false (by omega)
    have eN : g .q .neq M M = false := by rw [goNeq hg]; simp
    refine call0Dw hg hd2 ⟨⟨.inl rfl, .inl rfl, .inl rfl, .inl rfl, rfl, rfl, rfl, rfl, trivial⟩, rfl, trivial⟩ rfl ?_
    cbv
    rw [eM]
    cbv
    rw [eN]
    cbv
    repeat' (first | (refine call0DwP hg ck0 ⟨⟨rfl, rfl, rfl, rfl, rfl, rfl, rfl, rfl, trivial⟩, trivial⟩ rfl ?_; cbv) | (refine call0Dw hg ck0 ⟨⟨rfl, rfl, rfl, rfl, rfl, rfl, rfl, rfl, trivial⟩, trivial⟩ rfl ?_; cbv) | (refine call0DwP hg ch (dwA_same rfl) rfl ?_; cbv) | (refine call0Dw hg ch (dwA_same rfl) rfl ?_; cbv))
    refine call0Dw hg eg ⟨⟨rfl, rfl, rfl, rfl, rfl, rfl, rfl, rfl, trivial⟩, ⟨rfl, rfl, rfl, rfl, rfl, rfl, rfl, rfl, trivial⟩, trivial⟩ rfl ?_
    cbv
    rw [eX]
    cbv
    refine call0Dw hg hd2 ⟨⟨.inl rfl, .inl rfl, .inl rfl, .inl rfl, rfl, rfl, rfl, rfl, trivial⟩, rfl, trivial⟩ rfl ?_
    cbv
    rw [eM]
    cbv
    rw [eN]
    cbv
    rw [hF]
end Go.Proofs.YtenbloaopcfdlaaGreat
