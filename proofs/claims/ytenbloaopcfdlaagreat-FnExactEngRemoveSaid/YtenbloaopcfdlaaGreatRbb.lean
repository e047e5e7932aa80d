/- Copies of what is kept, with the blocks that they make. -/
import Derived.Test.YtenbloaopcfdlaaGreatRba
namespace Go.Proofs.YtenbloaopcfdlaaGreat
open Go.ChangeShapes Go.WideShapes Go.ChangeAt Go.RowKit Am
set_option linter.unusedVariables false
set_option linter.unusedSimpArgs false
set_option maxRecDepth 100000
structure CopyE (k : Nat) (E V : List (List AC)) (lo : Nat) : Prop where
  kk : ∀ e ∈ E, e.length = k
  bare : ∀ e ∈ E, e.all bareF = true
  eq : E.map (·.map vwC) = V
  new : NewB lo (fpE E)
theorem fpE_app (a b : List (List AC)) : fpE (a ++ b) = fpE a ++ fpE b := List.flatMap_append ..
theorem CopyE.nil (k lo : Nat) : CopyE k [] [] lo := ⟨fun e h => by simp at h, fun e h => by simp at h, rfl, NewB.nil lo⟩
theorem CopyE.len {k lo : Nat} {E V : List (List AC)} (h : CopyE k E V lo) : E.length = V.length := by rw [← h.eq, List.length_map]
structure GrowT (k : Nat) (V es : List (List AC)) (z : Int) (lo : Nat) : Prop where
  z0 : 0 ≤ z
  z1 : z ≤ lenI V
  cp : CopyE k es (V.take z.toNat) lo
theorem GrowT.start (k : Nat) (V : List (List AC)) (lo : Nat) : GrowT k V [] 0 lo := ⟨Int.le_refl 0, by rw [lenI_eq]; omega, CopyE.nil k lo⟩
theorem GrowT.len {k : Nat} {V es : List (List AC)} {z : Int} {lo : Nat} (h : GrowT k V es z lo) : es.length ≤ V.length := by rw [h.cp.len, List.length_take]; omega
theorem GrowT.step {k : Nat} {V es : List (List AC)} {z : Int} {lo lo' : Nat} {y v : List AC} (h : GrowT k V es z lo) (hv : V[z.toNat]? = some v) (hy : y.map vwC = v) (hk : y.length = k) (hb : y.all bareF = true) (hlo : lo ≤ lo') (hn : NewB lo' (fpL y)) (hlt : ∀ b ∈ fpE es, b < lo') : GrowT k V (es ++ [y]) (z + 1) lo := by
  have h0 := h.z0
  have hl := (List.getElem?_eq_some_iff.1 hv).1
  refine ⟨by omega, by rw [lenI_eq]; omega, ⟨fun e he => ?_, fun e he => ?_, ?_, ?_⟩⟩
  · rcases List.mem_append.1 he with h1 | h1
    · exact h.cp.kk e h1
    · rw [List.mem_singleton.1 h1]; exact hk
  · rcases List.mem_append.1 he with h1 | h1
    · exact h.cp.bare e h1
    · rw [List.mem_singleton.1 h1]; exact hb
  · rw [show (z + 1).toNat = z.toNat + 1 by omega, List.take_add_one, hv, List.map_append, h.cp.eq, ← hy]; rfl
  · rw [fpE_app, show fpE [y] = fpL y from List.append_nil _]
    exact NewB.app hlo h.cp.new hn hlt
theorem GrowT.done {k : Nat} {V es : List (List AC)} {z : Int} {lo : Nat} (h : GrowT k V es z lo) (hz : ¬ z < lenI V) : CopyE k es V lo := by
  have := h.cp
  rwa [List.take_of_length_le (by rw [lenI_eq] at hz; omega)] at this
theorem fpH_row {ab : AB} : ∀ (h : EH) (r : Nat), h[r]? = some (.rw ab) → ∀ b ∈ fpE ab.es, b ∈ fpH h
  | [], r, hr, b, hb => by simp at hr
  | e :: h, 0, hr, b, hb => by simp at hr; subst hr; exact List.mem_append_left _ hb
  | e :: h, r + 1, hr, b, hb => by have := fpH_row h r (by simpa using hr) b hb; cases e <;> first | exact List.mem_append_right _ this | exact this
theorem goNAt {P : Program} {n0 N : Nat} {β : BP} {g : Gd} (hg : g = G0 P n0 N) {t k by_ : Nat} {es : List (List AC)} {y : List AC} {q : Prop} (hk : y.length = k) (hb : by_ ≤ 65536) (hl : es.length ≤ 1048576) (hq : q) :
    g .N ((∀ x, x ∈ [y] → x.length = k) ∧ ((AB.mk t k es).es.length + [y].length) * by_ ≤ 140737488355328 ∧ (AB.mk t k es).es.length + [y].length ≤ 4611686018427387904) q :=
  goN hg ⟨fun x hx => by rw [List.mem_singleton.1 hx]; exact hk, Nat.le_trans (Nat.mul_le_mul (show es.length + 1 ≤ 1048577 by omega) hb) (by decide), by show es.length + 1 ≤ _; omega⟩ hq
theorem finTR {β : BP} {F : List AT → EH → Prop} {Post : AV → List AB → Prop} {r q : Nat} {eh : EH} {ab ab' : AB} (hF : F = fun xs eh => FinT Post xs (toH eh)) (hr : nth eh r = some (.rw ab)) (hq : nth eh q = some (.rw ab')) (hne : r ≠ q) (hp : plainE ab.es = true) (hp' : plainE ab'.es = true)
    (hpost : Post (.t (.agg [.own 0, .own 1])) [ab, ab']) : F [.agg [.own r, .own q]] eh := by
  subst hF
  refine .inl ⟨.t (.agg [.own 0, .own 1]), [.live ab, .live ab'], [some r, some q], ⟨Nat.zero_le _, fun i hi => absurd hi (Nat.not_lt_zero _), by simp [hne], ?_, ?_⟩, [ab, ab'], rfl, hpost⟩
  · simp only [rnH, List.getElem?_cons_zero, List.getElem?_cons_succ, nth_rw hr, nth_rw hq]
    exact ⟨fun h => absurd h (Nat.not_lt_zero _), ⟨by first | trivial | rfl, by first | trivial | rfl, .inl ⟨by first | trivial | rfl, hp⟩⟩, fun h => absurd h (Nat.not_lt_zero _), ⟨by first | trivial | rfl, by first | trivial | rfl, .inl ⟨by first | trivial | rfl, hp'⟩⟩, trivial⟩
  · exact ⟨.inr ⟨rfl, rfl, trivial⟩, trivial⟩
set_option maxHeartbeats 8000000 in
theorem impl_copyBox_t (x : NBox) (hs : x.small) : TCon Tryz.prog 122 [.agg x.ac] fun lo res rows => (∃ b3, res = .t (.agg [.imm (.int .i64 x.wide), .imm (.int .i64 x.high), .imm (.int .i64 x.base), .fv b3 (vw GFrame.c x.frames)]) ∧ NewB lo b3) ∧ plainV res = true ∧ rows = [] := by
  obtain ⟨a0, a1, a2, a3⟩ := x
  obtain ⟨sa3, -⟩ := hs
  show TCon _ _ [.agg [.imm (.int .i64 a0), .imm (.int .i64 a1), .imm (.int .i64 a2), .view (vw GFrame.c a3)]] (fun lo res rows => (∃ b3, res = .t (.agg [.imm (.int .i64 a0), .imm (.int .i64 a1), .imm (.int .i64 a2), .fv b3 (vw GFrame.c a3)]) ∧ NewB lo b3) ∧ plainV res = true ∧ rows = [])
  have c3 := impl_copyFrames_a a3 sa3
  obtain ⟨Va3, hVa3⟩ : ∃ Va3, Va3 = vw GFrame.c a3 := ⟨_, rfl⟩
  have hVa3l : Va3.length = a3.length := by rw [hVa3, vw_length]
  have iVa3 : immE Va3 = true := by rw [hVa3]; exact vw_imm _ _
  have kVa3 : ∀ y ∈ Va3, y.length = 5 := by rw [hVa3]; exact vw_k (c := GFrame.c) (k := 5) fun _ => rfl
  have dVa3 : ∀ y ∈ Va3, y.all dat = true := by rw [hVa3]; exact vw_dat
  rw [← hVa3] at c3
  rw [← hVa3]
  refine tcon_run ([]) ([]) (c := body Tryz.f122) fits Tryz.func122 (by kernel_rfl) (by kernel_rfl) (by rfl) (by kernel_rfl) fun β g eff hd F heff hhd hg hF => ?_
  cbv
  repeat' (first | (refine callRow hg c3 (dat_data rfl) iVa3 ?_; cbv) | (refine callRowP hg c3 (dat_data rfl) iVa3 ?_; cbv))
  refine finTS hF fun bl hbl => ⟨[.agg [.imm (.int .i64 a0), .imm (.int .i64 a1), .imm (.int .i64 a2), .fv (hd1 (bl 2) Va3) Va3]], .agg (.cons (.imm _) (.cons (.imm _) (.cons (.imm _) (.cons (ress_immRow (r := 2) (ab := ⟨_, _, Va3⟩) rfl iVa3) .nil)))) .nil, ⟨_, rfl, blk_new hbl (r := 2) (ab := ⟨_, _, Va3⟩) rfl⟩, rfl, rfl⟩
set_option maxHeartbeats 8000000 in
theorem spec_l21CopyBox_t (x : NBox) (hs : x.small) : TCon Tryz.prog 115 [.agg x.ac] fun lo res rows => (∃ b3, res = .t (.agg [.imm (.int .i64 x.wide), .imm (.int .i64 x.high), .imm (.int .i64 x.base), .fv b3 (vw GFrame.c x.frames)]) ∧ NewB lo b3) ∧ plainV res = true ∧ rows = [] := by
  obtain ⟨a0, a1, a2, a3⟩ := x
  obtain ⟨sa3, -⟩ := hs
  show TCon _ _ [.agg [.imm (.int .i64 a0), .imm (.int .i64 a1), .imm (.int .i64 a2), .view (vw GFrame.c a3)]] (fun lo res rows => (∃ b3, res = .t (.agg [.imm (.int .i64 a0), .imm (.int .i64 a1), .imm (.int .i64 a2), .fv b3 (vw GFrame.c a3)]) ∧ NewB lo b3) ∧ plainV res = true ∧ rows = [])
  obtain ⟨Va3, hVa3⟩ : ∃ Va3, Va3 = vw GFrame.c a3 := ⟨_, rfl⟩
  have hVa3l : Va3.length = a3.length := by rw [hVa3, vw_length]
  have iVa3 : immE Va3 = true := by rw [hVa3]; exact vw_imm _ _
  have kVa3 : ∀ y ∈ Va3, y.length = 5 := by rw [hVa3]; exact vw_k (c := GFrame.c) (k := 5) fun _ => rfl
  have dVa3 : ∀ y ∈ Va3, y.all dat = true := by rw [hVa3]; exact vw_dat
  rw [← hVa3]
  refine tcon_run ([]) ([]) (c := body Tryz.f115) fits Tryz.func115 (by kernel_rfl) (by kernel_rfl) (by rfl) (by kernel_rfl) fun β g eff hd F heff hhd hg hF => ?_
  cbv
  refine goNV0 hg kVa3 (by decide) (by rw [hVa3l]; exact sa3) ?_
  cbv
  rw [goAp hg, List.nil_append]
  refine finTS hF fun bl hbl => ⟨[.agg [.imm (.int .i64 a0), .imm (.int .i64 a1), .imm (.int .i64 a2), .fv (hd1 (bl 3) Va3) Va3]], .agg (.cons (.imm _) (.cons (.imm _) (.cons (.imm _) (.cons (ress_immRow (r := 3) (ab := ⟨_, _, Va3⟩) rfl iVa3) .nil)))) .nil, ⟨_, rfl, blk_new hbl (r := 3) (ab := ⟨_, _, Va3⟩) rfl⟩, rfl, rfl⟩
set_option maxHeartbeats 8000000 in
theorem impl_copyKept_t (x : NKept) (hs : x.small) : TCon Tryz.prog 84 [.agg x.ac] fun lo res rows => ∃ E, res = .t (.agg [.own 0, .own 1]) ∧ rows = [⟨166, 10, E⟩, ⟨174, 6, vw GAsked.c x.asked⟩] ∧ CopyE 10 E (vwA NMemo.ac x.memos) lo := by
  obtain ⟨ms, qs⟩ := x
  obtain ⟨sm, um, sq, -⟩ := hs
  show TCon _ _ [.agg [.view (vwA NMemo.ac ms), .view (vw GAsked.c qs)]] (fun lo res rows => ∃ E, res = .t (.agg [.own 0, .own 1]) ∧ rows = [⟨166, 10, E⟩, ⟨174, 6, vw GAsked.c qs⟩] ∧ CopyE 10 E (vwA NMemo.ac ms) lo)
  obtain ⟨M, hM⟩ : ∃ M, M = vwA NMemo.ac ms := ⟨_, rfl⟩
  have hMl : M.length = ms.length := by rw [hM, vwA_length]
  have hMx : lenI M = (ms.length : Int) := by rw [lenI_eq, hMl]
  have hM2 : lenI M ≤ 1048576 := by omega
  obtain ⟨Q, hQ⟩ : ∃ Q, Q = vw GAsked.c qs := ⟨_, rfl⟩
  have hQl : Q.length = qs.length := by rw [hQ, vw_length]
  have iQ : immE Q = true := by rw [hQ]; exact vw_imm _ _
  have kQ : ∀ y ∈ Q, y.length = 6 := by rw [hQ]; exact vw_k (c := GAsked.c) (k := 6) fun _ => rfl
  have dQ : ∀ y ∈ Q, y.all dat = true := by rw [hQ]; exact vw_dat
  have pQ := imm_plainE iQ
  rw [← hM, ← hQ]
  refine tcon_run ([]) ([]) (c := body Tryz.f84) fits Tryz.func84 (by kernel_rfl) (by kernel_rfl) (by rfl) (by kernel_rfl) fun β g eff hd F heff hhd hg hF => ?_
  cbv
  refine goNV hg kQ (by decide) (by rw [hQl]; exact sq) ?_
  cbv
  rw [goAp hg, List.nil_append]
  refine loop_runW4 [] [] heff hhd hg fits (by kernel_rfl) (fun s : Int × List (List AC) => [(2, .t (.c (.ptr 0 0 0))), (3, .t (.c (.ptr 2 0 0))), (11, .t (.c (.view M))), (12, .t (ai (g .ln M))), (13, .t (ai (s.1)))]) (fun s => [.bx 47 2 [.imm (.slice none 0 0), .imm (.slice none 0 0)], .rw ⟨174, 6, Q⟩, .bx 47 2 [.own 3, .own 1], .rw ⟨166, 10, s.2⟩]) (fun s => GrowT 10 M s.2 s.1 β.lo) (fun s => (lenI M).toNat - s.1.toNat)
    (0, []) (GrowT.start 10 M β.lo) (Wk.weak (wkG [some 1, some 2, some 3, none] ⟨rfl, rfl, rfl, rfl, rfl, trivial⟩ ⟨⟨_, _, rfl, rfl, rfl, rfl, .inl ⟨rfl, rfl⟩⟩, ⟨_, _, rfl, rfl, rfl, rfl, .inl ⟨rfl, pQ⟩⟩, ⟨_, _, rfl, rfl, rfl, rfl, .inr ⟨⟨rfl, rfl, trivial⟩, trivial⟩⟩, ⟨_, rfl, rfl⟩, trivial⟩ (by decide) no_lt)) (fun s B hs hB => ?_)
  obtain ⟨z, es⟩ := s
  simp only at hs
  have h0 := hs.z0
  have hlen := hs.len
  cbv
  cases hc : g .q .lss z (g .ln M)
  · rw [goLss hg, goLn hg, decide_eq_false_iff_not] at hc
    cbv
    have hd := hs.done hc
    exact finTR hF rfl rfl (by decide) (bare_plainE hd.bare) pQ ⟨es, rfl, rfl, hd⟩
  rw [goLss hg, goLn hg, decide_eq_true_eq] at hc
  cbv
  obtain ⟨x, hx⟩ := at_z (xs := ms) h0 (lt_viaN hMx hc)
  have hsx := um x (List.mem_of_getElem? hx)
  have hyy : M[z.toNat]? = some x.ac := by rw [hM]; exact vwA_at hx
  obtain ⟨a0, ⟨a1, a2⟩, ⟨a3, a4⟩, a5, ⟨a6, a7, a8, a9⟩⟩ := x
  have cx := impl_copyBox_t ⟨a6, a7, a8, a9⟩ ⟨hsx.1, trivial⟩
  replace hyy : M[z.toNat]? = some [.imm (.int .i64 a0), .imm (.int .i64 a1), .imm (.int .i64 a2), .imm (.int .i64 a3), .imm (.int .i64 a4), .imm (.bool a5), .imm (.int .i64 a6), .imm (.int .i64 a7), .imm (.int .i64 a8), .view (vw GFrame.c a9)] := hyy
  replace cx : TCon Tryz.prog 122 [.agg [.imm (.int .i64 a6), .imm (.int .i64 a7), .imm (.int .i64 a8), .view (vw GFrame.c a9)]] (fun lo res rows => (∃ b3, res = .t (.agg [.imm (.int .i64 a6), .imm (.int .i64 a7), .imm (.int .i64 a8), .fv b3 (vw GFrame.c a9)]) ∧ NewB lo b3) ∧ plainV res = true ∧ rows = []) := cx
  obtain ⟨Va9, hVa9⟩ : ∃ V, V = vw GFrame.c a9 := ⟨_, rfl⟩
  rw [← hVa9] at hyy cx
  refine goX hg _ h0 hyy rfl ?_
  cbv
  refine callT0 hg cx (dwA_same rfl) (fun lo res q1 q2 q3 ⟨b9, hres, hn⟩ => ?_)
  subst hres
  have hlt : ∀ b ∈ fpE es, b < lo := fun b hb => q2 b (fpH_row _ 3 rfl b hb)
  clear q2 q3
  cbv
  refine goNAt hg rfl (by decide) (by omega) ?_
  cbv
  have e1 : g .w .add .i64 z 1 = z + 1 := by rw [goAdd hg, wrap_small _ (by omega)]
  rw [e1, goAp hg]
  have hs2 := hs.step (y := [.imm (.int .i64 a0), .imm (.int .i64 a1), .imm (.int .i64 a2), .imm (.int .i64 a3), .imm (.int .i64 a4), .imm (.bool a5), .imm (.int .i64 a6), .imm (.int .i64 a7), .imm (.int .i64 a8), .fv b9 Va9]) hyy rfl rfl rfl q1 (by simpa [fpL, fpC] using hn) hlt
  rw [hB]
  exact ⟨(z + 1, _), hs2, by show (lenI M).toNat - (z + 1).toNat < (lenI M).toNat - z.toNat; omega, Wk.weak (wkG [some 0, some 1, some 2, some 6] ⟨rfl, rfl, rfl, rfl, rfl, trivial⟩ ⟨⟨_, _, rfl, rfl, rfl, rfl, .inl ⟨rfl, rfl⟩⟩, ⟨_, _, rfl, rfl, rfl, rfl, .inl ⟨rfl, pQ⟩⟩, ⟨_, _, rfl, rfl, rfl, rfl, .inr ⟨⟨rfl, rfl, trivial⟩, trivial⟩⟩, ⟨_, _, rfl, rfl, rfl, rfl, .inl ⟨rfl, bare_plainE hs2.cp.bare⟩⟩, trivial⟩ (by decide) no_lt)⟩
set_option maxHeartbeats 8000000 in
theorem spec_l21Copy_t (x : NKept) (hs : x.small) : TCon Tryz.prog 78 [.agg x.ac] fun lo res rows => ∃ E, res = .t (.agg [.own 0, .own 1]) ∧ rows = [⟨166, 10, E⟩, ⟨174, 6, vw GAsked.c x.asked⟩] ∧ CopyE 10 E (vwA NMemo.ac x.memos) lo := by
  obtain ⟨ms, qs⟩ := x
  obtain ⟨sm, um, sq, -⟩ := hs
  show TCon _ _ [.agg [.view (vwA NMemo.ac ms), .view (vw GAsked.c qs)]] (fun lo res rows => ∃ E, res = .t (.agg [.own 0, .own 1]) ∧ rows = [⟨166, 10, E⟩, ⟨174, 6, vw GAsked.c qs⟩] ∧ CopyE 10 E (vwA NMemo.ac ms) lo)
  obtain ⟨M, hM⟩ : ∃ M, M = vwA NMemo.ac ms := ⟨_, rfl⟩
  have hMl : M.length = ms.length := by rw [hM, vwA_length]
  have hMx : lenI M = (ms.length : Int) := by rw [lenI_eq, hMl]
  have hM2 : lenI M ≤ 1048576 := by omega
  obtain ⟨Q, hQ⟩ : ∃ Q, Q = vw GAsked.c qs := ⟨_, rfl⟩
  have hQl : Q.length = qs.length := by rw [hQ, vw_length]
  have iQ : immE Q = true := by rw [hQ]; exact vw_imm _ _
  have kQ : ∀ y ∈ Q, y.length = 6 := by rw [hQ]; exact vw_k (c := GAsked.c) (k := 6) fun _ => rfl
  have dQ : ∀ y ∈ Q, y.all dat = true := by rw [hQ]; exact vw_dat
  have pQ := imm_plainE iQ
  rw [← hM, ← hQ]
  refine tcon_run ([]) ([]) (c := body Tryz.f78) fits Tryz.func78 (by kernel_rfl) (by kernel_rfl) (by rfl) (by kernel_rfl) fun β g eff hd F heff hhd hg hF => ?_
  cbv
  refine goNV0 hg kQ (by decide) (by rw [hQl]; exact sq) ?_
  cbv
  rw [goAp hg, List.nil_append]
  refine loop_runW4 [] [] heff hhd hg fits (by kernel_rfl) (fun s : Int × List (List AC) => [(1, .t (.c (.ptr 4 0 0))), (2, .t (.c (.ptr 0 0 0))), (3, .t (.c (.ptr 2 0 0))), (4, .t (ai (s.1)))]) (fun s => [.bx 47 2 [.imm (.slice none 0 0), .imm (.slice none 0 0)], .rw ⟨174, 6, Q⟩, .bx 47 2 [.own 3, .own 1], .rw ⟨166, 10, s.2⟩, .bx 47 2 [.view M, .view Q]]) (fun s => GrowT 10 M s.2 s.1 β.lo) (fun s => (lenI M).toNat - s.1.toNat)
    (0, []) (GrowT.start 10 M β.lo) (Wk.weak (wkG [some 1, some 3, some 4, none, some 0] ⟨rfl, rfl, rfl, rfl, trivial⟩ ⟨⟨_, _, rfl, rfl, rfl, rfl, .inl ⟨rfl, rfl⟩⟩, ⟨_, _, rfl, rfl, rfl, rfl, .inl ⟨rfl, pQ⟩⟩, ⟨_, _, rfl, rfl, rfl, rfl, .inr ⟨⟨rfl, rfl, trivial⟩, trivial⟩⟩, ⟨_, rfl, rfl⟩, ⟨_, _, rfl, rfl, rfl, rfl, .inl ⟨rfl, rfl⟩⟩, trivial⟩ (by decide) no_lt)) (fun s B hs hB => ?_)
  obtain ⟨z, es⟩ := s
  simp only at hs
  have h0 := hs.z0
  have hlen := hs.len
  cbv
  cases hc : g .q .lss z (g .ln M)
  · rw [goLss hg, goLn hg, decide_eq_false_iff_not] at hc
    cbv
    have hd := hs.done hc
    exact finTR hF rfl rfl (by decide) (bare_plainE hd.bare) pQ ⟨es, rfl, rfl, hd⟩
  rw [goLss hg, goLn hg, decide_eq_true_eq] at hc
  cbv
  obtain ⟨x, hx⟩ := at_z (xs := ms) h0 (lt_viaN hMx hc)
  have hsx := um x (List.mem_of_getElem? hx)
  have hyy : M[z.toNat]? = some x.ac := by rw [hM]; exact vwA_at hx
  obtain ⟨a0, ⟨a1, a2⟩, ⟨a3, a4⟩, a5, ⟨a6, a7, a8, a9⟩⟩ := x
  have cx := spec_l21CopyBox_t ⟨a6, a7, a8, a9⟩ ⟨hsx.1, trivial⟩
  replace hyy : M[z.toNat]? = some [.imm (.int .i64 a0), .imm (.int .i64 a1), .imm (.int .i64 a2), .imm (.int .i64 a3), .imm (.int .i64 a4), .imm (.bool a5), .imm (.int .i64 a6), .imm (.int .i64 a7), .imm (.int .i64 a8), .view (vw GFrame.c a9)] := hyy
  replace cx : TCon Tryz.prog 115 [.agg [.imm (.int .i64 a6), .imm (.int .i64 a7), .imm (.int .i64 a8), .view (vw GFrame.c a9)]] (fun lo res rows => (∃ b3, res = .t (.agg [.imm (.int .i64 a6), .imm (.int .i64 a7), .imm (.int .i64 a8), .fv b3 (vw GFrame.c a9)]) ∧ NewB lo b3) ∧ plainV res = true ∧ rows = []) := cx
  obtain ⟨Va9, hVa9⟩ : ∃ V, V = vw GFrame.c a9 := ⟨_, rfl⟩
  rw [← hVa9] at hyy cx
  refine goX hg _ h0 hyy rfl ?_
  cbv
  refine callT0 hg cx (dwA_same rfl) (fun lo res q1 q2 q3 ⟨b9, hres, hn⟩ => ?_)
  subst hres
  have hlt : ∀ b ∈ fpE es, b < lo := fun b hb => q2 b (fpH_row _ 3 rfl b hb)
  clear q2 q3
  cbv
  refine goNAt hg rfl (by decide) (by omega) ?_
  cbv
  have e1 : g .w .add .i64 z 1 = z + 1 := by rw [goAdd hg, wrap_small _ (by omega)]
  rw [e1, goAp hg]
  have hs2 := hs.step (y := [.imm (.int .i64 a0), .imm (.int .i64 a1), .imm (.int .i64 a2), .imm (.int .i64 a3), .imm (.int .i64 a4), .imm (.bool a5), .imm (.int .i64 a6), .imm (.int .i64 a7), .imm (.int .i64 a8), .fv b9 Va9]) hyy rfl rfl rfl q1 (by simpa [fpL, fpC] using hn) hlt
  rw [hB]
  exact ⟨(z + 1, _), hs2, by show (lenI M).toNat - (z + 1).toNat < (lenI M).toNat - z.toNat; omega, Wk.weak (wkG [some 0, some 1, some 2, some 7, some 4] ⟨rfl, rfl, rfl, rfl, trivial⟩ ⟨⟨_, _, rfl, rfl, rfl, rfl, .inl ⟨rfl, rfl⟩⟩, ⟨_, _, rfl, rfl, rfl, rfl, .inl ⟨rfl, pQ⟩⟩, ⟨_, _, rfl, rfl, rfl, rfl, .inr ⟨⟨rfl, rfl, trivial⟩, trivial⟩⟩, ⟨_, _, rfl, rfl, rfl, rfl, .inl ⟨rfl, bare_plainE hs2.cp.bare⟩⟩, ⟨_, _, rfl, rfl, rfl, rfl, .inl ⟨rfl, rfl⟩⟩, trivial⟩ (by decide) no_lt)⟩
end Go.Proofs.YtenbloaopcfdlaaGreat
