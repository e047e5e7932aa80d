/- What is forgotten of what is kept. Marks that are found again: Asked. -/
import Derived.Test.YtenbloaopcfdlaaGreatRbb
namespace Go.Proofs.YtenbloaopcfdlaaGreat
open Go.ChangeShapes Go.WideShapes Go.ChangeAt Go.RowKit Am
set_option linter.unusedVariables false
set_option linter.unusedSimpArgs false
set_option maxRecDepth 100000
def filt {α β : Type} (p : α → Bool) : List α → List β → List β
  | m :: ms, e :: es => if p m = true then e :: filt p ms es else filt p ms es
  | _, _ => []
theorem filt_app {α β : Type} (p : α → Bool) (m : α) (e : β) : ∀ (ms : List α) (es : List β), ms.length = es.length → filt p (ms ++ [m]) (es ++ [e]) = filt p ms es ++ (if p m = true then [e] else [])
  | [], [], _ => rfl
  | [], _ :: _, h => by simp at h
  | _ :: _, [], h => by simp at h
  | m0 :: ms, e0 :: es, h => by
    have := filt_app p m e ms es (by simpa using h)
    show (if p m0 = true then e0 :: filt p (ms ++ [m]) (es ++ [e]) else filt p (ms ++ [m]) (es ++ [e])) = (if p m0 = true then e0 :: filt p ms es else filt p ms es) ++ _
    rw [this]
    split <;> simp
theorem filt_sub {α β : Type} (p : α → Bool) : ∀ (ms : List α) (es : List β), (filt p ms es).Sublist es
  | [], es => by unfold filt; exact List.nil_sublist _
  | _ :: _, [] => by unfold filt; exact List.nil_sublist _
  | m :: ms, e :: es => by
    unfold filt
    split
    · exact (filt_sub p ms es).cons_cons e
    · exact (filt_sub p ms es).cons e
theorem filt_map {α β γ : Type} (p : α → Bool) (f : β → γ) (c : α → γ) : ∀ (ms : List α) (es : List β), es.map f = ms.map c → (filt p ms es).map f = (ms.filter p).map c
  | [], es, h => by simp [filt]
  | _ :: _, [], h => by simp at h
  | m :: ms, e :: es, h => by
    simp only [List.map_cons, List.cons.injEq] at h
    have := filt_map p f c ms es h.2
    unfold filt
    split
    · rename_i hp
      rw [List.filter_cons_of_pos hp, List.map_cons, List.map_cons, this, h.1]
    · rename_i hp
      rw [List.filter_cons_of_neg hp, this]
theorem filt_take {α β : Type} (p : α → Bool) {ms : List α} {es : List β} {z : Int} {m : α} {e : β} (h0 : 0 ≤ z) (hl : ms.length = es.length) (hm : ms[z.toNat]? = some m) (he : es[z.toNat]? = some e) :
    filt p (ms.take (z + 1).toNat) (es.take (z + 1).toNat) = filt p (ms.take z.toNat) (es.take z.toNat) ++ (if p m = true then [e] else []) := by
  rw [show (z + 1).toNat = z.toNat + 1 by omega, List.take_add_one, List.take_add_one, hm, he]
  exact filt_app p m e _ _ (by simp [List.length_take, hl])
theorem fpE_sub {a b : List (List AC)} (h : a.Sublist b) : (fpE a).Sublist (fpE b) := by
  induction h with
  | slnil => exact List.Sublist.refl _
  | cons x _ ih => exact ih.trans (List.sublist_append_right _ _)
  | cons_cons x _ ih => exact List.Sublist.append (List.Sublist.refl _) ih
theorem CopyE.filt {k lo : Nat} {E : List (List AC)} (p : NMemo → Bool) {ms : List NMemo} (h : CopyE k E (vwA NMemo.ac ms) lo) : CopyE k (Go.Proofs.YtenbloaopcfdlaaGreat.filt p ms E) (vwA NMemo.ac (ms.filter p)) lo :=
  ⟨fun e he => h.kk e ((filt_sub p ms E).mem he), fun e he => h.bare e ((filt_sub p ms E).mem he), filt_map p _ _ ms E h.eq, ⟨(fpE_sub (filt_sub p ms E)).nodup h.new.1, fun b hb => h.new.2 b ((fpE_sub (filt_sub p ms E)).mem hb)⟩⟩
theorem blk_two {lo : Nat} {bl : Nat → Nat} {h : AH} {xs : List AT} (hb : BlkOk lo bl h xs) {r q : Nat} {ab ab' : AB} (hr : h[r]? = some (.live ab)) (hq : h[q]? = some (.live ab')) (hne : r ≠ q) (hn : NewB lo (fpE ab.es)) : NewB lo ((hd1 (bl r) ab.es ++ fpE ab.es) ++ hd1 (bl q) ab'.es) := by
  have h1 := blk_row hb hr hn
  have h2 := blk_new hb hq
  refine ⟨List.nodup_append.2 ⟨h1.1, h2.1, fun a ha b hb' he => ?_⟩, fun b hb' => (List.mem_append.1 hb').elim (h1.2 b) (h2.2 b)⟩
  subst he
  cases hes : ab'.es with
  | nil => rw [hes] at hb'; simp [hd1] at hb'
  | cons e es =>
    rw [hes] at hb'
    simp only [hd1, List.mem_singleton] at hb'
    subst hb'
    have hne' : ab'.es ≠ [] := by rw [hes]; simp
    rcases List.mem_append.1 ha with ha | ha
    · cases hes2 : ab.es with
      | nil => rw [hes2] at ha; simp [hd1] at ha
      | cons e2 es2 =>
        rw [hes2] at ha
        simp only [hd1, List.mem_singleton] at ha
        exact hne ((hb q ab' hq hne').2.1 r ab hr (by rw [hes2]; simp) ha).symm
    · obtain ⟨x, hx, ha⟩ := List.mem_flatMap.1 ha
      obtain ⟨c, hc, ha⟩ := List.mem_flatMap.1 ha
      exact (hb q ab' hq hne').2.2.1 r ab hr x hx c hc ha
theorem ress_copy {bl : Nat → Nat} {h : AH} {r t k k' lo : Nat} {E V : List (List AC)} (hr : h[r]? = some (.live ⟨t, k, E⟩)) (hc : CopyE k' E V lo) : ResS bl h (.own r) (.fv (hd1 (bl r) E ++ fpE E) V) := by
  have := ress_bareRow (bl := bl) hr hc.bare
  rw [hc.eq] at this
  exact this
section
variable {P : Program} {n0 N : Nat} {g : Gd}
theorem callTR {β : BP} (hg : g = G0 P n0 N) {h : EH} {f : FuncId} {args args' : List AT} {K : AV → EH → Prop} {t k : Nat} {ab' : AB} {Q : Nat → List (List AC) → Prop} (hc : TCon P f args' fun lo res rows => ∃ E, res = .t (.agg [.own 0, .own 1]) ∧ rows = [⟨t, k, E⟩, ab'] ∧ Q lo E) (ha : dwA args args')
    (hp : ∀ lo E, Q lo E → plainE E = true) (hp' : plainE ab'.es = true)
    (hK : ∀ lo E, BP.lo ≤ lo → (∀ b ∈ fpH h, b < lo) → (∀ b ∈ fpA args, b < lo) → Q lo E → K (.t (.agg [.own (lenL h), .own (lenL h + 1)])) (h ++ [.rw ⟨t, k, E⟩, .rw ab'])) : g .C f h args K :=
  callT hg hc ha fun lo res rows h1 h2 h3 ⟨E, hres, hrows, hQ⟩ => by
    subst hres hrows
    refine ⟨[.rw ⟨t, k, E⟩, .rw ab'], ?_, ?_⟩
    · simp only [List.map_cons, List.map_nil, shift_row (ab := ⟨t, k, E⟩) (hp lo E hQ), shift_row hp']; rfl
    · have := hK lo E h1 h2 h3 hQ
      rw [lenL_eq] at this
      rw [toH_len]; exact this
end
def keepB (ns : List NNode) (n : Int) (m : NMemo) : Bool := (m.node != n) && !(undF ns m.node ns.length n)
def fgM (ns : List NNode) (ms : List NMemo) (n : Int) : List NMemo := if (treeB ns && isN ns n) = true then ms.filter (keepB ns n) else ms
set_option maxHeartbeats 16000000 in
theorem impl_Forget_t (ns : List NNode) (hl : ns.length ≤ 1048576) (hs : ∀ y ∈ ns, y.small) (x : NKept) (hx : x.small) (n : Int) : TCon Tryz.prog 105 [.agg [.view (vwA NNode.ac ns)], .agg x.ac, ai n] fun lo res rows => (∃ b0 b1, res = .t (.agg [.fv b0 (vwA NMemo.ac (fgM ns x.memos n)), .fv b1 (vw GAsked.c x.asked)]) ∧ NewB lo (b0 ++ b1)) ∧ plainV res = true ∧ rows = [] := by
  have ck := impl_copyKept_t x hx
  have cT := impl_TreeOk_a ns hl hs
  have cU := fun n a => impl_IsUnder_a ns hl n a
  obtain ⟨ms, qs⟩ := x
  obtain ⟨sm, um, sq, -⟩ := hx
  obtain ⟨T, hT⟩ : ∃ T, T = vwA NNode.ac ns := ⟨_, rfl⟩
  have hTx : lenI T = (ns.length : Int) := by rw [lenI_eq, hT, vwA_length]
  have hisN : ∀ n, isN ns n = rng n 1 (lenI T) := fun n => by rw [hTx]; rfl
  obtain ⟨M, hM⟩ : ∃ M, M = vwA NMemo.ac ms := ⟨_, rfl⟩
  have hMl : M.length = ms.length := by rw [hM, vwA_length]
  have hMx : lenI M = (ms.length : Int) := by rw [lenI_eq, hMl]
  have hM2 : lenI M ≤ 1048576 := by omega
  obtain ⟨Q, hQ⟩ : ∃ Q, Q = vw GAsked.c qs := ⟨_, rfl⟩
  have hQl : Q.length = qs.length := by rw [hQ, vw_length]
  have iQ : immE Q = true := by rw [hQ]; exact vw_imm _ _
  have kQ : ∀ y ∈ Q, y.length = 6 := by rw [hQ]; exact vw_k (c := GAsked.c) (k := 6) fun _ => rfl
  have dQ : ∀ y ∈ Q, y.all dat = true := by rw [hQ]; exact vw_dat
  have pQ := imm_plainE iQ
  replace ck : TCon Tryz.prog 84 [.agg [.view M, .view Q]] (fun lo res rows => ∃ E, res = .t (.agg [.own 0, .own 1]) ∧ rows = [⟨166, 10, E⟩, ⟨174, 6, Q⟩] ∧ CopyE 10 E M lo) := by rw [hM, hQ]; exact ck
  show TCon _ _ [_, .agg [.view (vwA NMemo.ac ms), .view (vw GAsked.c qs)], _] (fun lo res rows => (∃ b0 b1, res = .t (.agg [.fv b0 (vwA NMemo.ac (fgM ns ms n)), .fv b1 (vw GAsked.c qs)]) ∧ NewB lo (b0 ++ b1)) ∧ plainV res = true ∧ rows = [])
  obtain ⟨W, hW⟩ : ∃ W, W = vwA NMemo.ac (fgM ns ms n) := ⟨_, rfl⟩
  rw [← hT] at cT cU
  rw [← hT, ← hM, ← hQ, ← hW]
  refine tcon_run ([]) ([]) (c := body Tryz.f105) fits Tryz.func105 (by kernel_rfl) (by kernel_rfl) (by rfl) (by kernel_rfl) fun β g eff hd F heff hhd hg hF => ?_
  cbv
  refine callTR hg ck (dwA_same rfl) (fun lo E h => bare_plainE h.bare) pQ (fun lo E q1 q2 q3 hE => ?_)
  clear q2 q3
  replace hE : CopyE 10 E M β.lo := ⟨hE.kk, hE.bare, hE.eq, hE.new.mono q1⟩
  clear q1
  cbv
  have hEl : E.length = ms.length := by rw [hE.len, hMl]
  have hEx : lenI E = lenI M := by rw [lenI_eq, lenI_eq, hE.len]
  have pE := bare_plainE hE.bare
  cases hTB : treeB ns
  case false =>
    rw [hTB] at cT
    refine call0 hg cT rfl rfl ?_
    cbv
    have hWM : W = M := by rw [hW, fgM, hTB, hM]; rfl
    rw [hWM] at hF
    refine finTS hF fun bl hbl => ⟨[.agg [.fv (hd1 (bl 3) E ++ fpE E) M, .fv (hd1 (bl 4) Q) Q]], .agg (.cons (ress_copy rfl hE) (.cons (ress_immRow (r := 4) (ab := ⟨_, _, Q⟩) rfl iQ) .nil)) .nil, ⟨_, _, rfl, blk_two hbl (r := 3) (q := 4) (ab := ⟨_, _, E⟩) (ab' := ⟨_, _, Q⟩) rfl rfl (by decide) hE.new⟩, rfl, rfl⟩
  rw [hTB] at cT
  refine call0 hg cT rfl rfl ?_
  cbv
  have cn := impl_isNode_a T n
  rw [← hisN n] at cn
  cases hin : isN ns n
  case false =>
    rw [hin] at cn
    refine call0 hg cn rfl rfl ?_
    cbv
    have hWM : W = M := by rw [hW, fgM, hin, Bool.and_false, hM]; rfl
    rw [hWM] at hF
    refine finTS hF fun bl hbl => ⟨[.agg [.fv (hd1 (bl 3) E ++ fpE E) M, .fv (hd1 (bl 4) Q) Q]], .agg (.cons (ress_copy rfl hE) (.cons (ress_immRow (r := 4) (ab := ⟨_, _, Q⟩) rfl iQ) .nil)) .nil, ⟨_, _, rfl, blk_two hbl (r := 3) (q := 4) (ab := ⟨_, _, E⟩) (ab' := ⟨_, _, Q⟩) rfl rfl (by decide) hE.new⟩, rfl, rfl⟩
  rw [hin] at cn
  refine call0 hg cn rfl rfl ?_
  cbv
  obtain ⟨p, hp⟩ : ∃ p, p = keepB ns n := ⟨_, rfl⟩
  have hWp : W = vwA NMemo.ac (ms.filter p) := by rw [hW, fgM, hTB, hin, hp]; rfl
  rw [hM] at hE
  have hall := hE.filt p
  rw [← hWp] at hall
  refine loop_runW4 [] [] heff hhd hg fits (by kernel_rfl) (fun s : Int × List (List AC) => [(2, .t (ai (n))), (3, .t (.c (.ptr 0 0 0))), (6, .t (.c (.ptr 1 0 0))), (7, .t (.c (.ptr 4 0 0))), (8, .t (.c (.own 5))), (24, .t (.c (.own 2))), (25, .t (ai (g .ln E))), (26, .t (ai (s.1)))]) (fun s => [.bx 43 1 [.view T], .bx 47 2 [.imm (.slice none 0 0), .imm (.slice none 0 0)], .rw ⟨166, 10, E⟩, .rw ⟨174, 6, Q⟩, .bx 47 2 [.own 2, .own 3], .rw ⟨166, 10, s.2⟩]) (fun s => 0 ≤ s.1 ∧ s.2 = filt p (ms.take s.1.toNat) (E.take s.1.toNat)) (fun s => (lenI E).toNat - s.1.toNat)
    (0, []) ⟨Int.le_refl 0, rfl⟩ (Wk.weak (wkG [some 0, some 2, some 3, some 4, some 5, none] ⟨rfl, rfl, rfl, rfl, rfl, rfl, rfl, rfl, trivial⟩ ⟨⟨_, _, rfl, rfl, rfl, rfl, .inl ⟨rfl, rfl⟩⟩, ⟨_, _, rfl, rfl, rfl, rfl, .inl ⟨rfl, rfl⟩⟩, ⟨_, _, rfl, rfl, rfl, rfl, .inl ⟨rfl, pE⟩⟩, ⟨_, _, rfl, rfl, rfl, rfl, .inl ⟨rfl, pQ⟩⟩, ⟨_, _, rfl, rfl, rfl, rfl, .inr ⟨⟨rfl, rfl, trivial⟩, trivial⟩⟩, ⟨_, rfl, rfl⟩, trivial⟩ (by decide) no_lt)) (fun s B hst hB => ?_)
  obtain ⟨z, es⟩ := s
  obtain ⟨h0, hes⟩ := hst
  simp only at h0 hes
  have hesl : es.length ≤ E.length := by rw [hes]; exact Nat.le_trans (filt_sub p _ _).length_le (by rw [List.length_take]; omega)
  have hesb : ∀ e ∈ es, e.all bareF = true := fun e he => hE.bare e (List.mem_of_mem_take ((filt_sub p _ _).mem (by rw [← hes]; exact he)))
  cbv
  cases hc : g .q .lss z (g .ln E)
  · rw [goLss hg, goLn hg, decide_eq_false_iff_not] at hc
    cbv
    have he2 : es = filt p ms E := by rw [hes, List.take_of_length_le (by rw [lenI_eq] at hc; omega), List.take_of_length_le (by rw [lenI_eq] at hc; omega)]
    rw [← he2] at hall
    refine finTS hF fun bl hbl => ⟨[.agg [.fv (hd1 (bl 5) es ++ fpE es) W, .fv (hd1 (bl 3) Q) Q]], .agg (.cons (ress_copy rfl hall) (.cons (ress_immRow (r := 3) (ab := ⟨_, _, Q⟩) rfl iQ) .nil)) .nil, ⟨_, _, rfl, blk_two hbl (r := 5) (q := 3) (ab := ⟨_, _, es⟩) (ab' := ⟨_, _, Q⟩) rfl rfl (by decide) hall.new⟩, rfl, rfl⟩
  rw [goLss hg, goLn hg, decide_eq_true_eq] at hc
  cbv
  obtain ⟨j, hj⟩ : ∃ j, j = z.toNat := ⟨_, rfl⟩
  have hjl : j < E.length := by rw [lenI_eq] at hc; omega
  obtain ⟨e, he⟩ : ∃ e, E[j]? = some e := ⟨_, List.getElem?_eq_getElem hjl⟩
  obtain ⟨m, hm⟩ : ∃ m, ms[j]? = some m := ⟨_, List.getElem?_eq_getElem (by omega)⟩
  have hstep := filt_take p (ms := ms) (es := E) (m := m) (e := e) h0 hEl.symm (by rw [← hj]; exact hm) (by rw [← hj]; exact he)
  rw [← hes] at hstep
  have hev : e.map vwC = m.ac := by
    have h1 : (E.map (·.map vwC))[j]? = some (e.map vwC) := by rw [List.getElem?_map, he]; rfl
    rw [hE.eq, vwA_at hm] at h1
    exact (Option.some.inj h1).symm
  have heb := hE.bare e (List.mem_of_getElem? he)
  have hel := hE.kk e (List.mem_of_getElem? he)
  have hpm : p m = ((m.node != n) && !(undF ns m.node ns.length n)) := by rw [hp]; rfl
  obtain ⟨a0, ⟨a1, a2⟩, ⟨a3, a4⟩, a5, ⟨a6, a7, a8, a9⟩⟩ := m
  simp only at hpm
  obtain ⟨b0, b1, b2, b3, b4, b5, b6, b7, b8, b9, rfl⟩ : ∃ b0 b1 b2 b3 b4 b5 b6 b7 b8 b9, e = [b0, b1, b2, b3, b4, b5, b6, b7, b8, b9] := by
    match e, hel with
    | [b0, b1, b2, b3, b4, b5, b6, b7, b8, b9], _ => exact ⟨b0, b1, b2, b3, b4, b5, b6, b7, b8, b9, rfl⟩
  replace hev : [b0, b1, b2, b3, b4, b5, b6, b7, b8, b9].map vwC = [.imm (.int .i64 a0), .imm (.int .i64 a1), .imm (.int .i64 a2), .imm (.int .i64 a3), .imm (.int .i64 a4), .imm (.bool a5), .imm (.int .i64 a6), .imm (.int .i64 a7), .imm (.int .i64 a8), .view (vw GFrame.c a9)] := hev
  simp only [List.map_cons, List.map_nil, List.cons.injEq, and_true] at hev
  simp only [List.all_cons, List.all_nil, Bool.and_true, Bool.and_eq_true] at heb
  obtain ⟨v0, v1, v2, v3, v4, v5, v6, v7, v8, v9⟩ := hev
  obtain ⟨w0, w1, w2, w3, w4, w5, w6, w7, w8, w9⟩ := heb
  obtain rfl := bare_imm w0 v0
  obtain rfl := bare_imm w1 v1
  obtain rfl := bare_imm w2 v2
  obtain rfl := bare_imm w3 v3
  obtain rfl := bare_imm w4 v4
  obtain rfl := bare_imm w5 v5
  obtain rfl := bare_imm w6 v6
  obtain rfl := bare_imm w7 v7
  obtain rfl := bare_imm w8 v8
  obtain ⟨bb, rfl⟩ := bare_fv w9 v9
  clear v0 v1 v2 v3 v4 v5 v6 v7 v8 v9 w0 w1 w2 w3 w4 w5 w6 w7 w8 w9 hel
  obtain ⟨Va9, hVa9⟩ : ∃ V, V = vw GFrame.c a9 := ⟨_, rfl⟩
  rw [← hVa9] at he hstep
  have e1 : g .w .add .i64 z 1 = z + 1 := by rw [goAdd hg, wrap_small _ (by omega)]
  refine goYt hg h0 hj hjl ?_
  cbv
  refine ⟨_, he, ?_⟩
  cbv
  cases ht : g .q .neq a0 n
  case false =>
    rw [goNeq hg] at ht
    have hpf : p ⟨a0, ⟨a1, a2⟩, ⟨a3, a4⟩, a5, ⟨a6, a7, a8, a9⟩⟩ = false := by rw [hpm, ht]; rfl
    rw [hpf, if_neg (by decide), List.append_nil] at hstep
    cbv
    rw [e1, hB]
    exact ⟨(z + 1, es), ⟨by simp only; omega, hstep.symm⟩, by show (lenI E).toNat - (z + 1).toNat < (lenI E).toNat - z.toNat; omega, Wk.weak (wkG [some 0, some 1, some 2, some 3, some 4, some 5] ⟨rfl, rfl, rfl, rfl, rfl, rfl, rfl, rfl, trivial⟩ ⟨⟨_, _, rfl, rfl, rfl, rfl, .inl ⟨rfl, rfl⟩⟩, ⟨_, _, rfl, rfl, rfl, rfl, .inl ⟨rfl, rfl⟩⟩, ⟨_, _, rfl, rfl, rfl, rfl, .inl ⟨rfl, pE⟩⟩, ⟨_, _, rfl, rfl, rfl, rfl, .inl ⟨rfl, pQ⟩⟩, ⟨_, _, rfl, rfl, rfl, rfl, .inr ⟨⟨rfl, rfl, trivial⟩, trivial⟩⟩, ⟨_, _, rfl, rfl, rfl, rfl, .inl ⟨rfl, bare_plainE hesb⟩⟩, trivial⟩ (by decide) no_lt)⟩
  rw [goNeq hg] at ht
  have cu := cU n a0
  cbv
  cases hu : undF ns a0 ns.length n
  case true =>
    rw [hu] at cu
    have hpf : p ⟨a0, ⟨a1, a2⟩, ⟨a3, a4⟩, a5, ⟨a6, a7, a8, a9⟩⟩ = false := by rw [hpm, hu, Bool.not_true, Bool.and_false]
    rw [hpf, if_neg (by decide), List.append_nil] at hstep
    refine call0 hg cu rfl rfl ?_
    cbv
    rw [e1, hB]
    exact ⟨(z + 1, es), ⟨by simp only; omega, hstep.symm⟩, by show (lenI E).toNat - (z + 1).toNat < (lenI E).toNat - z.toNat; omega, Wk.weak (wkG [some 0, some 1, some 2, some 3, some 4, some 5] ⟨rfl, rfl, rfl, rfl, rfl, rfl, rfl, rfl, trivial⟩ ⟨⟨_, _, rfl, rfl, rfl, rfl, .inl ⟨rfl, rfl⟩⟩, ⟨_, _, rfl, rfl, rfl, rfl, .inl ⟨rfl, rfl⟩⟩, ⟨_, _, rfl, rfl, rfl, rfl, .inl ⟨rfl, pE⟩⟩, ⟨_, _, rfl, rfl, rfl, rfl, .inl ⟨rfl, pQ⟩⟩, ⟨_, _, rfl, rfl, rfl, rfl, .inr ⟨⟨rfl, rfl, trivial⟩, trivial⟩⟩, ⟨_, _, rfl, rfl, rfl, rfl, .inl ⟨rfl, bare_plainE hesb⟩⟩, trivial⟩ (by decide) no_lt)⟩
  rw [hu] at cu
  have hpf : p ⟨a0, ⟨a1, a2⟩, ⟨a3, a4⟩, a5, ⟨a6, a7, a8, a9⟩⟩ = true := by rw [hpm, hu, ht]; rfl
  rw [hpf, if_pos rfl] at hstep
  refine call0 hg cu rfl rfl ?_
  cbv
  refine goNAt hg rfl (by decide) (by rw [lenI_eq] at hEx; omega) ?_
  cbv
  rw [e1, goAp hg, hB]
  have hpl : plainE (es ++ [[.imm (.int .i64 a0), .imm (.int .i64 a1), .imm (.int .i64 a2), .imm (.int .i64 a3), .imm (.int .i64 a4), .imm (.bool a5), .imm (.int .i64 a6), .imm (.int .i64 a7), .imm (.int .i64 a8), .fv bb Va9]]) = true := by
    refine bare_plainE fun x hx => ?_
    rcases List.mem_append.1 hx with h | h
    · exact hesb x h
    · rw [List.mem_singleton.1 h]; rfl
  exact ⟨(z + 1, _), ⟨by simp only; omega, hstep.symm⟩, by show (lenI E).toNat - (z + 1).toNat < (lenI E).toNat - z.toNat; omega, Wk.weak (wkG [some 0, some 1, some 2, some 3, some 4, some 8] ⟨rfl, rfl, rfl, rfl, rfl, rfl, rfl, rfl, trivial⟩ ⟨⟨_, _, rfl, rfl, rfl, rfl, .inl ⟨rfl, rfl⟩⟩, ⟨_, _, rfl, rfl, rfl, rfl, .inl ⟨rfl, rfl⟩⟩, ⟨_, _, rfl, rfl, rfl, rfl, .inl ⟨rfl, pE⟩⟩, ⟨_, _, rfl, rfl, rfl, rfl, .inl ⟨rfl, pQ⟩⟩, ⟨_, _, rfl, rfl, rfl, rfl, .inr ⟨⟨rfl, rfl, trivial⟩, trivial⟩⟩, ⟨_, _, rfl, rfl, rfl, rfl, .inl ⟨rfl, hpl⟩⟩, trivial⟩ (by decide) no_lt)⟩
set_option maxHeartbeats 16000000 in
theorem spec_Forget_t (ns : List NNode) (hl : ns.length ≤ 1048576) (hs : ∀ y ∈ ns, y.small) (x : NKept) (hx : x.small) (n : Int) : TCon Tryz.prog 101 [.agg [.view (vwA NNode.ac ns)], .agg x.ac, ai n] fun lo res rows => (∃ b0 b1, res = .t (.agg [.fv b0 (vwA NMemo.ac (fgM ns x.memos n)), .fv b1 (vw GAsked.c x.asked)]) ∧ NewB lo (b0 ++ b1)) ∧ plainV res = true ∧ rows = [] := by
  have ck := spec_l21Copy_t x hx
  have cT := spec_TreeOk_a ns hl hs
  have cU := fun n a (hud : upD ns ns.length n) => spec_IsUnder_a ns hl n a hud
  obtain ⟨ms, qs⟩ := x
  obtain ⟨sm, um, sq, -⟩ := hx
  obtain ⟨T, hT⟩ : ∃ T, T = vwA NNode.ac ns := ⟨_, rfl⟩
  have hTx : lenI T = (ns.length : Int) := by rw [lenI_eq, hT, vwA_length]
  have hisN : ∀ n, isN ns n = rng n 1 (lenI T) := fun n => by rw [hTx]; rfl
  obtain ⟨M, hM⟩ : ∃ M, M = vwA NMemo.ac ms := ⟨_, rfl⟩
  have hMl : M.length = ms.length := by rw [hM, vwA_length]
  have hMx : lenI M = (ms.length : Int) := by rw [lenI_eq, hMl]
  have hM2 : lenI M ≤ 1048576 := by omega
  obtain ⟨Q, hQ⟩ : ∃ Q, Q = vw GAsked.c qs := ⟨_, rfl⟩
  have hQl : Q.length = qs.length := by rw [hQ, vw_length]
  have iQ : immE Q = true := by rw [hQ]; exact vw_imm _ _
  have kQ : ∀ y ∈ Q, y.length = 6 := by rw [hQ]; exact vw_k (c := GAsked.c) (k := 6) fun _ => rfl
  have dQ : ∀ y ∈ Q, y.all dat = true := by rw [hQ]; exact vw_dat
  have pQ := imm_plainE iQ
  replace ck : TCon Tryz.prog 78 [.agg [.view M, .view Q]] (fun lo res rows => ∃ E, res = .t (.agg [.own 0, .own 1]) ∧ rows = [⟨166, 10, E⟩, ⟨174, 6, Q⟩] ∧ CopyE 10 E M lo) := by rw [hM, hQ]; exact ck
  show TCon _ _ [_, .agg [.view (vwA NMemo.ac ms), .view (vw GAsked.c qs)], _] (fun lo res rows => (∃ b0 b1, res = .t (.agg [.fv b0 (vwA NMemo.ac (fgM ns ms n)), .fv b1 (vw GAsked.c qs)]) ∧ NewB lo (b0 ++ b1)) ∧ plainV res = true ∧ rows = [])
  obtain ⟨W, hW⟩ : ∃ W, W = vwA NMemo.ac (fgM ns ms n) := ⟨_, rfl⟩
  rw [← hT] at cT cU
  rw [← hT, ← hM, ← hQ, ← hW]
  refine tcon_run ([(10, .hand)]) ([]) (c := body Tryz.f101) fits Tryz.func101 (by kernel_rfl) (by kernel_rfl) (by rfl) (by kernel_rfl) fun β g eff hd F heff hhd hg hF => ?_
  cbv
  refine callTR hg ck (dwA_same rfl) (fun lo E h => bare_plainE h.bare) pQ (fun lo E q1 q2 q3 hE => ?_)
  clear q2 q3
  replace hE : CopyE 10 E M β.lo := ⟨hE.kk, hE.bare, hE.eq, hE.new.mono q1⟩
  clear q1
  cbv
  have hEl : E.length = ms.length := by rw [hE.len, hMl]
  have hEx : lenI E = lenI M := by rw [lenI_eq, lenI_eq, hE.len]
  have pE := bare_plainE hE.bare
  cases hTB : treeB ns
  case false =>
    rw [hTB] at cT
    refine call0 hg cT rfl rfl ?_
    cbv
    have hWM : W = M := by rw [hW, fgM, hTB, hM]; rfl
    rw [hWM] at hF
    refine finTS hF fun bl hbl => ⟨[.agg [.fv (hd1 (bl 3) E ++ fpE E) M, .fv (hd1 (bl 4) Q) Q]], .agg (.cons (ress_copy rfl hE) (.cons (ress_immRow (r := 4) (ab := ⟨_, _, Q⟩) rfl iQ) .nil)) .nil, ⟨_, _, rfl, blk_two hbl (r := 3) (q := 4) (ab := ⟨_, _, E⟩) (ab' := ⟨_, _, Q⟩) rfl rfl (by decide) hE.new⟩, rfl, rfl⟩
  rw [hTB] at cT
  refine call0 hg cT rfl rfl ?_
  cbv
  have cn := spec_l10Is_a T n
  rw [← hisN n] at cn
  cases hin : isN ns n
  case false =>
    rw [hin] at cn
    refine call0 hg cn rfl rfl ?_
    cbv
    have hWM : W = M := by rw [hW, fgM, hin, Bool.and_false, hM]; rfl
    rw [hWM] at hF
    refine finTS hF fun bl hbl => ⟨[.agg [.fv (hd1 (bl 3) E ++ fpE E) M, .fv (hd1 (bl 4) Q) Q]], .agg (.cons (ress_copy rfl hE) (.cons (ress_immRow (r := 4) (ab := ⟨_, _, Q⟩) rfl iQ) .nil)) .nil, ⟨_, _, rfl, blk_two hbl (r := 3) (q := 4) (ab := ⟨_, _, E⟩) (ab' := ⟨_, _, Q⟩) rfl rfl (by decide) hE.new⟩, rfl, rfl⟩
  rw [hin] at cn
  refine call0 hg cn rfl rfl ?_
  cbv
  obtain ⟨p, hp⟩ : ∃ p, p = keepB ns n := ⟨_, rfl⟩
  have hWp : W = vwA NMemo.ac (ms.filter p) := by rw [hW, fgM, hTB, hin, hp]; rfl
  rw [hM] at hE
  have hall := hE.filt p
  rw [← hWp] at hall
  refine loop_runW4 [(10, .hand)] [] heff hhd hg fits (by kernel_rfl) (fun s : Int × List (List AC) => [(2, .t (ai (n))), (3, .t (.c (.ptr 0 0 0))), (4, .t (.c (.ptr 1 0 0))), (6, .t (.c (.ptr 2 0 0))), (7, .t (.c (.ptr 5 0 0))), (8, .t (ai (s.1)))]) (fun s => [.bx 43 1 [.view T], .bx 47 2 [.own 3, .own 4], .bx 47 2 [.imm (.slice none 0 0), .imm (.slice none 0 0)], .rw ⟨166, 10, E⟩, .rw ⟨174, 6, Q⟩, .bx 47 2 [.own 6, .own 4], .rw ⟨166, 10, s.2⟩]) (fun s => 0 ≤ s.1 ∧ s.2 = filt p (ms.take s.1.toNat) (E.take s.1.toNat)) (fun s => (lenI E).toNat - s.1.toNat)
    (0, []) ⟨Int.le_refl 0, rfl⟩ (Wk.weak (wkG [some 0, some 1, some 2, some 3, some 4, some 5, none] ⟨rfl, rfl, rfl, rfl, rfl, rfl, trivial⟩ ⟨⟨_, _, rfl, rfl, rfl, rfl, .inl ⟨rfl, rfl⟩⟩, ⟨_, _, rfl, rfl, rfl, rfl, .inr ⟨⟨rfl, rfl, trivial⟩, trivial⟩⟩, ⟨_, _, rfl, rfl, rfl, rfl, .inl ⟨rfl, rfl⟩⟩, ⟨_, _, rfl, rfl, rfl, rfl, .inl ⟨rfl, pE⟩⟩, ⟨_, _, rfl, rfl, rfl, rfl, .inl ⟨rfl, pQ⟩⟩, ⟨_, _, rfl, rfl, rfl, rfl, .inr ⟨⟨rfl, rfl, trivial⟩, trivial⟩⟩, ⟨_, rfl, rfl⟩, trivial⟩ (by decide) no_lt)) (fun s B hst hB => ?_)
  obtain ⟨z, es⟩ := s
  obtain ⟨h0, hes⟩ := hst
  simp only at h0 hes
  have hesl : es.length ≤ E.length := by rw [hes]; exact Nat.le_trans (filt_sub p _ _).length_le (by rw [List.length_take]; omega)
  have hesb : ∀ e ∈ es, e.all bareF = true := fun e he => hE.bare e (List.mem_of_mem_take ((filt_sub p _ _).mem (by rw [← hes]; exact he)))
  cbv
  cases hc : g .q .lss z (g .ln E)
  · rw [goLss hg, goLn hg, decide_eq_false_iff_not] at hc
    cbv
    have he2 : es = filt p ms E := by rw [hes, List.take_of_length_le (by rw [lenI_eq] at hc; omega), List.take_of_length_le (by rw [lenI_eq] at hc; omega)]
    rw [← he2] at hall
    refine finTS hF fun bl hbl => ⟨[.agg [.fv (hd1 (bl 6) es ++ fpE es) W, .fv (hd1 (bl 4) Q) Q]], .agg (.cons (ress_copy rfl hall) (.cons (ress_immRow (r := 4) (ab := ⟨_, _, Q⟩) rfl iQ) .nil)) .nil, ⟨_, _, rfl, blk_two hbl (r := 6) (q := 4) (ab := ⟨_, _, es⟩) (ab' := ⟨_, _, Q⟩) rfl rfl (by decide) hall.new⟩, rfl, rfl⟩
  rw [goLss hg, goLn hg, decide_eq_true_eq] at hc
  cbv
  obtain ⟨j, hj⟩ : ∃ j, j = z.toNat := ⟨_, rfl⟩
  have hjl : j < E.length := by rw [lenI_eq] at hc; omega
  obtain ⟨e, he⟩ : ∃ e, E[j]? = some e := ⟨_, List.getElem?_eq_getElem hjl⟩
  obtain ⟨m, hm⟩ : ∃ m, ms[j]? = some m := ⟨_, List.getElem?_eq_getElem (by omega)⟩
  have hstep := filt_take p (ms := ms) (es := E) (m := m) (e := e) h0 hEl.symm (by rw [← hj]; exact hm) (by rw [← hj]; exact he)
  rw [← hes] at hstep
  have hev : e.map vwC = m.ac := by
    have h1 : (E.map (·.map vwC))[j]? = some (e.map vwC) := by rw [List.getElem?_map, he]; rfl
    rw [hE.eq, vwA_at hm] at h1
    exact (Option.some.inj h1).symm
  have heb := hE.bare e (List.mem_of_getElem? he)
  have hel := hE.kk e (List.mem_of_getElem? he)
  have hpm : p m = ((m.node != n) && !(undF ns m.node ns.length n)) := by rw [hp]; rfl
  obtain ⟨a0, ⟨a1, a2⟩, ⟨a3, a4⟩, a5, ⟨a6, a7, a8, a9⟩⟩ := m
  simp only at hpm
  obtain ⟨b0, b1, b2, b3, b4, b5, b6, b7, b8, b9, rfl⟩ : ∃ b0 b1 b2 b3 b4 b5 b6 b7 b8 b9, e = [b0, b1, b2, b3, b4, b5, b6, b7, b8, b9] := by
    match e, hel with
    | [b0, b1, b2, b3, b4, b5, b6, b7, b8, b9], _ => exact ⟨b0, b1, b2, b3, b4, b5, b6, b7, b8, b9, rfl⟩
  replace hev : [b0, b1, b2, b3, b4, b5, b6, b7, b8, b9].map vwC = [.imm (.int .i64 a0), .imm (.int .i64 a1), .imm (.int .i64 a2), .imm (.int .i64 a3), .imm (.int .i64 a4), .imm (.bool a5), .imm (.int .i64 a6), .imm (.int .i64 a7), .imm (.int .i64 a8), .view (vw GFrame.c a9)] := hev
  simp only [List.map_cons, List.map_nil, List.cons.injEq, and_true] at hev
  simp only [List.all_cons, List.all_nil, Bool.and_true, Bool.and_eq_true] at heb
  obtain ⟨v0, v1, v2, v3, v4, v5, v6, v7, v8, v9⟩ := hev
  obtain ⟨w0, w1, w2, w3, w4, w5, w6, w7, w8, w9⟩ := heb
  obtain rfl := bare_imm w0 v0
  obtain rfl := bare_imm w1 v1
  obtain rfl := bare_imm w2 v2
  obtain rfl := bare_imm w3 v3
  obtain rfl := bare_imm w4 v4
  obtain rfl := bare_imm w5 v5
  obtain rfl := bare_imm w6 v6
  obtain rfl := bare_imm w7 v7
  obtain rfl := bare_imm w8 v8
  obtain ⟨bb, rfl⟩ := bare_fv w9 v9
  clear v0 v1 v2 v3 v4 v5 v6 v7 v8 v9 w0 w1 w2 w3 w4 w5 w6 w7 w8 w9 hel
  obtain ⟨Va9, hVa9⟩ : ∃ V, V = vw GFrame.c a9 := ⟨_, rfl⟩
  rw [← hVa9] at he hstep
  have e1 : g .w .add .i64 z 1 = z + 1 := by rw [goAdd hg, wrap_small _ (by omega)]
  refine goYt hg h0 hj hjl ?_
  cbv
  refine ⟨_, he, ?_⟩
  cbv
  cases ht : g .q .neq a0 n
  case false =>
    rw [goNeq hg] at ht
    have hpf : p ⟨a0, ⟨a1, a2⟩, ⟨a3, a4⟩, a5, ⟨a6, a7, a8, a9⟩⟩ = false := by rw [hpm, ht]; rfl
    rw [hpf, if_neg (by decide), List.append_nil] at hstep
    cbv
    rw [e1, hB]
    exact ⟨(z + 1, es), ⟨by simp only; omega, hstep.symm⟩, by show (lenI E).toNat - (z + 1).toNat < (lenI E).toNat - z.toNat; omega, Wk.weak (wkG [some 0, some 1, some 2, some 3, some 4, some 5, some 6] ⟨rfl, rfl, rfl, rfl, rfl, rfl, trivial⟩ ⟨⟨_, _, rfl, rfl, rfl, rfl, .inl ⟨rfl, rfl⟩⟩, ⟨_, _, rfl, rfl, rfl, rfl, .inr ⟨⟨rfl, rfl, trivial⟩, trivial⟩⟩, ⟨_, _, rfl, rfl, rfl, rfl, .inl ⟨rfl, rfl⟩⟩, ⟨_, _, rfl, rfl, rfl, rfl, .inl ⟨rfl, pE⟩⟩, ⟨_, _, rfl, rfl, rfl, rfl, .inl ⟨rfl, pQ⟩⟩, ⟨_, _, rfl, rfl, rfl, rfl, .inr ⟨⟨rfl, rfl, trivial⟩, trivial⟩⟩, ⟨_, _, rfl, rfl, rfl, rfl, .inl ⟨rfl, bare_plainE hesb⟩⟩, trivial⟩ (by decide) no_lt)⟩
  rw [goNeq hg] at ht
  have cu := cU n a0 (upD_all hTB n)
  cbv
  cases hu : undF ns a0 ns.length n
  case true =>
    rw [hu] at cu
    have hpf : p ⟨a0, ⟨a1, a2⟩, ⟨a3, a4⟩, a5, ⟨a6, a7, a8, a9⟩⟩ = false := by rw [hpm, hu, Bool.not_true, Bool.and_false]
    rw [hpf, if_neg (by decide), List.append_nil] at hstep
    refine call0 hg cu rfl rfl ?_
    cbv
    rw [e1, hB]
    exact ⟨(z + 1, es), ⟨by simp only; omega, hstep.symm⟩, by show (lenI E).toNat - (z + 1).toNat < (lenI E).toNat - z.toNat; omega, Wk.weak (wkG [some 0, some 1, some 2, some 3, some 4, some 5, some 6] ⟨rfl, rfl, rfl, rfl, rfl, rfl, trivial⟩ ⟨⟨_, _, rfl, rfl, rfl, rfl, .inl ⟨rfl, rfl⟩⟩, ⟨_, _, rfl, rfl, rfl, rfl, .inr ⟨⟨rfl, rfl, trivial⟩, trivial⟩⟩, ⟨_, _, rfl, rfl, rfl, rfl, .inl ⟨rfl, rfl⟩⟩, ⟨_, _, rfl, rfl, rfl, rfl, .inl ⟨rfl, pE⟩⟩, ⟨_, _, rfl, rfl, rfl, rfl, .inl ⟨rfl, pQ⟩⟩, ⟨_, _, rfl, rfl, rfl, rfl, .inr ⟨⟨rfl, rfl, trivial⟩, trivial⟩⟩, ⟨_, _, rfl, rfl, rfl, rfl, .inl ⟨rfl, bare_plainE hesb⟩⟩, trivial⟩ (by decide) no_lt)⟩
  rw [hu] at cu
  have hpf : p ⟨a0, ⟨a1, a2⟩, ⟨a3, a4⟩, a5, ⟨a6, a7, a8, a9⟩⟩ = true := by rw [hpm, hu, ht]; rfl
  rw [hpf, if_pos rfl] at hstep
  refine call0 hg cu rfl rfl ?_
  cbv
  have hpl : plainE (es ++ [[.imm (.int .i64 a0), .imm (.int .i64 a1), .imm (.int .i64 a2), .imm (.int .i64 a3), .imm (.int .i64 a4), .imm (.bool a5), .imm (.int .i64 a6), .imm (.int .i64 a7), .imm (.int .i64 a8), .fv bb Va9]]) = true := by
    refine bare_plainE fun x hx => ?_
    rcases List.mem_append.1 hx with h | h
    · exact hesb x h
    · rw [List.mem_singleton.1 h]; rfl
  refine hand_app hg hhd fits 10 8 1 6 rfl rfl (by kernel_rfl) (by kernel_rfl) ?_
  cbv
  refine goYt hg h0 hj hjl ?_
  cbv
  refine ⟨_, he, ?_⟩
  cbv
  refine goNAt hg rfl (by decide) (by omega) ?_
  cbv
  refine goN hg (by rw [goAp hg]; exact hpl) ?_
  cbv
  rw [e1, goAp hg, hB]
  exact ⟨(z + 1, _), ⟨by simp only; omega, hstep.symm⟩, by show (lenI E).toNat - (z + 1).toNat < (lenI E).toNat - z.toNat; omega, Wk.weak (wkG [some 0, some 1, some 2, some 3, some 4, some 5, some 8] ⟨rfl, rfl, rfl, rfl, rfl, rfl, trivial⟩ ⟨⟨_, _, rfl, rfl, rfl, rfl, .inl ⟨rfl, rfl⟩⟩, ⟨_, _, rfl, rfl, rfl, rfl, .inr ⟨⟨rfl, rfl, trivial⟩, trivial⟩⟩, ⟨_, _, rfl, rfl, rfl, rfl, .inl ⟨rfl, rfl⟩⟩, ⟨_, _, rfl, rfl, rfl, rfl, .inl ⟨rfl, pE⟩⟩, ⟨_, _, rfl, rfl, rfl, rfl, .inl ⟨rfl, pQ⟩⟩, ⟨_, _, rfl, rfl, rfl, rfl, .inr ⟨⟨rfl, rfl, trivial⟩, trivial⟩⟩, ⟨_, _, rfl, rfl, rfl, rfl, .inl ⟨rfl, hpl⟩⟩, trivial⟩ (by decide) no_lt)⟩
end Go.Proofs.YtenbloaopcfdlaaGreat
namespace Go.Proofs.YtenbloaopcfdlaaGreat
open Go.ChangeShapes Go.WideShapes Go.ChangeAt Go.RowKit Am
set_option linter.unusedVariables false
set_option linter.unusedSimpArgs false
set_option maxRecDepth 100000
set_option maxHeartbeats 8000000 in
theorem laws_heldAskedS_n (k0 : Int) (ls : List (Unit)) (hl : ls.length ≤ 1048576) (hk0 : 0 ≤ k0) (hk1 : endMkAsked k0 ls ≤ 1152921504606846976) : PCon Tryz.prog 96 [.c (.view (mkRowsAsked k0 ls)), ai k0] fun res rows => res = .t (ai (endMkAsked k0 ls)) ∧ rows = [] := by
  obtain ⟨V, hV⟩ : ∃ V, V = mkRowsAsked k0 ls := ⟨_, rfl⟩
  have hVl : V.length = ls.length := by rw [hV, mkRowsAsked_len]
  have hV20 : lenI V ≤ 1048576 := by rw [lenI_eq]; omega
  obtain ⟨K, hKe⟩ : ∃ K, K = endMkAsked k0 ls := ⟨_, rfl⟩
  rw [← hKe] at hk1
  rw [← hV, ← hKe]
  refine pcon_run (c := body Tryz.f96) fits Tryz.func96 (by kernel_rfl) (by kernel_rfl) (by rfl) (by kernel_rfl) fun g F hg hF => ?_
  cbv
  refine loop_run hg fits (by kernel_rfl) (fun s : Int × Int => [(0, .t (.c (.view V))), (1, .t (ai s.2)), (5, .t (ai s.1))]) (fun _ => []) (fun s => 0 ≤ s.1 ∧ (∃ R, V = R ++ mkRowsAsked s.2 (ls.drop s.1.toNat) ∧ R.length = s.1.toNat) ∧ K = endMkAsked s.2 (ls.drop s.1.toNat) ∧ 0 ≤ s.2) (fun s => (lenI V).toNat - s.1.toNat)
    (0, k0) [] ⟨Int.le_refl 0, ⟨[], hV, rfl⟩, hKe, hk0⟩ (wk0 ⟨rfl, rfl, rfl, trivial⟩) (fun s B hs hB => ?_)
  obtain ⟨z, kc⟩ := s
  obtain ⟨h0, ⟨R, hR, hRl⟩, hK, hkc⟩ := hs
  simp only at h0 hR hRl hK hkc
  cbv
  cases hc : g .q .lss z (g .ln V)
  · rw [goLss hg, goLn hg, decide_eq_false_iff_not] at hc
    cbv
    have hdr : ls.drop z.toNat = [] := by rw [lenI_eq] at hc; exact List.drop_eq_nil_of_le (by omega)
    rw [hdr] at hK
    exact fin0i hF hK.symm
  · rw [goLss hg, goLn hg, decide_eq_true_eq] at hc
    cbv
    obtain ⟨j, hj⟩ : ∃ j, j = z.toNat := ⟨_, rfl⟩
    have hjl : j < ls.length := by rw [lenI_eq] at hc; omega
    obtain ⟨l, hl0⟩ : ∃ l, ls[j]? = some l := ⟨_, List.getElem?_eq_getElem hjl⟩
    have hdr : ls.drop z.toNat = l :: ls.drop (z + 1).toNat := by
      rw [← hj, show (z + 1).toNat = j + 1 by omega]
      rw [List.drop_eq_getElem_cons hjl, ← Option.some.inj ((List.getElem?_eq_getElem hjl).symm.trans hl0)]
    rw [hdr] at hR hK
    obtain rfl : l = () := rfl
    have ez : g .w .add .i64 z 1 = z + 1 := by rw [goAdd hg, wrap_small _ (by omega)]
    have hmu : (lenI V).toNat - (z + 1).toNat < (lenI V).toNat - z.toNat := by omega
    have hzz : z.toNat + 1 = (z + 1).toNat := by omega
    have hz1 : 0 ≤ z + 1 := by omega
    have hy : V[z.toNat]? = some (mkRowAsked kc ) := by
      rw [hR, List.getElem?_append_right (by omega), hRl, Nat.sub_self]
      rfl
    have hR2 : V = (R ++ [mkRowAsked kc ]) ++ mkRowsAsked (nxMkAsked kc ) (ls.drop (z + 1).toNat) := by rw [hR, List.append_assoc]; rfl
    have hK2 : K = endMkAsked (nxMkAsked kc ) (ls.drop (z + 1).toNat) := hK
    have hend := endMkAsked_le (ls.drop (z + 1).toNat) (nxMkAsked kc )
    rw [← hK2] at hend
    have hkn : 0 ≤ nxMkAsked kc  := Int.le_trans hkc (by have := endMkAsked_le [()] kc; exact this)
    have hkb : kc + 6 ≤ 1152921504606846976 := by rw [← nxMkAsked_eq]; exact Int.le_trans hend hk1
    clear hK hR hend hdr
    obtain ⟨q0, hq0⟩ : ∃ q, q = kc + 1 := ⟨_, rfl⟩
    obtain ⟨q1, hq1⟩ : ∃ q, q = kc + 2 := ⟨_, rfl⟩
    obtain ⟨q2, hq2⟩ : ∃ q, q = kc + 3 := ⟨_, rfl⟩
    obtain ⟨q3, hq3⟩ : ∃ q, q = kc + 4 := ⟨_, rfl⟩
    obtain ⟨q4, hq4⟩ : ∃ q, q = kc + 5 := ⟨_, rfl⟩
    obtain ⟨q5, hq5⟩ : ∃ q, q = kc + 6 := ⟨_, rfl⟩
    obtain ⟨hnx, g_kc⟩ := numsAsked hkc hkb hq5
    rw [← hnx] at hR2 hK2 hkn
    clear hkb hnx
    have e0 := q_add hg g_kc.1 g_kc.2 (Int.add_zero _).symm hq0 rfl (by decide) (by decide)
    have e1 := q_add hg g_kc.1 g_kc.2 hq0 hq1 rfl (by decide) (by decide)
    have e2 := q_add hg g_kc.1 g_kc.2 hq1 hq2 rfl (by decide) (by decide)
    have e3 := q_add hg g_kc.1 g_kc.2 hq2 hq3 rfl (by decide) (by decide)
    have e4 := q_add hg g_kc.1 g_kc.2 hq3 hq4 rfl (by decide) (by decide)
    have e5 := q_add hg g_kc.1 g_kc.2 hq4 hq5 rfl (by decide) (by decide)
    obtain ⟨t5, ht5⟩ : ∃ t, t = m3 q4 := ⟨_, rfl⟩
    have m5 : g .q .eql (g .w .rem .i64 q4 3) 0 = t5 := by rw [ht5, goRem hg, goEql hg]; rfl
    rw [← rowAsked_eq   ht5 hq0 hq1 hq2 hq3 hq4 hq5] at hy hR2
    replace hy : V[z.toNat]? = some [.imm (.int .i64 kc), .imm (.int .i64 q0), .imm (.int .i64 q1), .imm (.int .i64 q2), .imm (.int .i64 q3), .imm (.bool t5)] := hy
    clear  ht5 hq0 hq1 hq2 hq3 hq4 hq5 g_kc
    refine goX hg _ h0 hy rfl ?_
    cbv
    rw [show g .q .neq kc kc = false by rw [goNeq hg]; simp]
    cbv
    rw [e0]
    cbv
    refine goX hg _ h0 hy rfl ?_
    cbv
    rw [show g .q .neq q0 q0 = false by rw [goNeq hg]; simp]
    cbv
    rw [e1]
    cbv
    refine goX hg _ h0 hy rfl ?_
    cbv
    rw [show g .q .neq q1 q1 = false by rw [goNeq hg]; simp]
    cbv
    rw [e2]
    cbv
    refine goX hg _ h0 hy rfl ?_
    cbv
    rw [show g .q .neq q2 q2 = false by rw [goNeq hg]; simp]
    cbv
    rw [e3]
    cbv
    refine goX hg _ h0 hy rfl ?_
    cbv
    rw [show g .q .neq q3 q3 = false by rw [goNeq hg]; simp]
    cbv
    rw [e4]
    cbv
    refine goX hg _ h0 hy rfl ?_
    cbv
    refine goNZ hg (by decide) ?_
    cbv
    rw [m5]
    cbv
    rw [show g .qb .neq t5 t5 = false by rw [goNeqB hg]; simp]
    cbv
    rw [e5]
    cbv
    rw [ez]
    exact back hB (z + 1, q5) [] (wk0 ⟨rfl, rfl, rfl, trivial⟩) ⟨hz1, ⟨_, hR2, by rw [List.length_append, hRl]; exact hzz⟩, hK2, hkn⟩ hmu
end Go.Proofs.YtenbloaopcfdlaaGreat
