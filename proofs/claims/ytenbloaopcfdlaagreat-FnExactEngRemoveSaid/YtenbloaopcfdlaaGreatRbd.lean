/- Marks that are found again: Memo. Marks on what is kept, and what is found of them. Copies of trees, of what is kept and of engines, with the blocks that they make. -/
import Derived.Test.YtenbloaopcfdlaaGreatRbc
namespace Go.Proofs.YtenbloaopcfdlaaGreat
open Go.ChangeShapes Go.WideShapes Go.ChangeAt Go.RowKit Am
set_option linter.unusedVariables false
set_option linter.unusedSimpArgs false
set_option maxRecDepth 100000
set_option maxHeartbeats 8000000 in
theorem laws_heldMemoS_n (k0 : Int) (ls : List (Nat)) (hl : ls.length ≤ 1048576) (hs0 : ∀ l ∈ ls, l ≤ 1048576) (hk0 : 0 ≤ k0) (hk1 : endMkMemo k0 ls ≤ 1152921504606846976) : PCon Tryz.prog 95 [.c (.view (mkRowsMemo k0 ls)), ai k0] fun res rows => res = .t (ai (endMkMemo k0 ls)) ∧ rows = [] := by
  obtain ⟨V, hV⟩ : ∃ V, V = mkRowsMemo k0 ls := ⟨_, rfl⟩
  have hVl : V.length = ls.length := by rw [hV, mkRowsMemo_len]
  have hV20 : lenI V ≤ 1048576 := by rw [lenI_eq]; omega
  obtain ⟨K, hKe⟩ : ∃ K, K = endMkMemo k0 ls := ⟨_, rfl⟩
  rw [← hKe] at hk1
  rw [← hV, ← hKe]
  refine pcon_run (c := body Tryz.f95) fits Tryz.func95 (by kernel_rfl) (by kernel_rfl) (by rfl) (by kernel_rfl) fun g F hg hF => ?_
  cbv
  refine loop_run hg fits (by kernel_rfl) (fun s : Int × Int => [(0, .t (.c (.view V))), (1, .t (ai s.2)), (5, .t (ai s.1))]) (fun _ => []) (fun s => 0 ≤ s.1 ∧ (∃ R, V = R ++ mkRowsMemo s.2 (ls.drop s.1.toNat) ∧ R.length = s.1.toNat) ∧ K = endMkMemo s.2 (ls.drop s.1.toNat) ∧ 0 ≤ s.2) (fun s => (lenI V).toNat - s.1.toNat)
    (0, k0) [] ⟨Int.le_refl 0, ⟨[], hV, rfl⟩, hKe, hk0⟩ (wk0 ⟨rfl, rfl, rfl, trivial⟩) (fun s B hs hB => ?_)
  obtain ⟨z, kc⟩ := s
  obtain ⟨h0, ⟨R, hR, hRl⟩, hK, hkc⟩ := hs
  simp only at h0 hR hRl hK hkc
  cbv
  cases hc : g .q .lss z (g .ln V)
  · rw [goLss hg, goLn hg, decide_eq_false_iff_not] at hc
    cbv
    have hdr : ls.drop z.toNat = [] := by rw [lenI_eq] at hc; exact List.drop_eq_nil_of_le (by omega)
    rw [hdr] at hK
    exact fin0i hF hK.symm
  · rw [goLss hg, goLn hg, decide_eq_true_eq] at hc
    cbv
    obtain ⟨j, hj⟩ : ∃ j, j = z.toNat := ⟨_, rfl⟩
    have hjl : j < ls.length := by rw [lenI_eq] at hc; omega
    obtain ⟨l, hl0⟩ : ∃ l, ls[j]? = some l := ⟨_, List.getElem?_eq_getElem hjl⟩
    have hdr : ls.drop z.toNat = l :: ls.drop (z + 1).toNat := by
      rw [← hj, show (z + 1).toNat = j + 1 by omega]
      rw [List.drop_eq_getElem_cons hjl, ← Option.some.inj ((List.getElem?_eq_getElem hjl).symm.trans hl0)]
    rw [hdr] at hR hK
    have hl0s := hs0 l (List.mem_of_getElem? hl0)
    obtain ⟨l0, hl0e⟩ : ∃ l0, l0 = l := ⟨_, rfl⟩
    subst hl0e
    have ez : g .w .add .i64 z 1 = z + 1 := by rw [goAdd hg, wrap_small _ (by omega)]
    have hmu : (lenI V).toNat - (z + 1).toNat < (lenI V).toNat - z.toNat := by omega
    have hzz : z.toNat + 1 = (z + 1).toNat := by omega
    have hz1 : 0 ≤ z + 1 := by omega
    have hy : V[z.toNat]? = some (mkRowMemo kc l0) := by
      rw [hR, List.getElem?_append_right (by omega), hRl, Nat.sub_self]
      rfl
    have hR2 : V = (R ++ [mkRowMemo kc l0]) ++ mkRowsMemo (nxMkMemo kc l0) (ls.drop (z + 1).toNat) := by rw [hR, List.append_assoc]; rfl
    have hK2 : K = endMkMemo (nxMkMemo kc l0) (ls.drop (z + 1).toNat) := hK
    have hend := endMkMemo_le (ls.drop (z + 1).toNat) (nxMkMemo kc l0)
    rw [← hK2] at hend
    have hkn : 0 ≤ nxMkMemo kc l0 := Int.le_trans hkc (by have := endMkMemo_le [l0] kc; exact this)
    have hkb : kc + 9 + 5 * ((l0 : Nat) : Int) ≤ 1152921504606846976 := by rw [← nxMkMemo_eq]; exact Int.le_trans hend hk1
    clear hK hR hend hdr
    obtain ⟨q0, hq0⟩ : ∃ q, q = kc + 1 := ⟨_, rfl⟩
    obtain ⟨q1, hq1⟩ : ∃ q, q = kc + 2 := ⟨_, rfl⟩
    obtain ⟨q2, hq2⟩ : ∃ q, q = kc + 3 := ⟨_, rfl⟩
    obtain ⟨q3, hq3⟩ : ∃ q, q = kc + 4 := ⟨_, rfl⟩
    obtain ⟨q4, hq4⟩ : ∃ q, q = kc + 5 := ⟨_, rfl⟩
    obtain ⟨q5, hq5⟩ : ∃ q, q = kc + 6 := ⟨_, rfl⟩
    obtain ⟨q6, hq6⟩ : ∃ q, q = kc + 7 := ⟨_, rfl⟩
    obtain ⟨q7, hq7⟩ : ∃ q, q = kc + 8 := ⟨_, rfl⟩
    obtain ⟨q8, hq8⟩ : ∃ q, q = kc + 9 := ⟨_, rfl⟩
    obtain ⟨q9, hq9⟩ : ∃ q, q = q8 + 5 * ((l0 : Nat) : Int) := ⟨_, rfl⟩
    obtain ⟨hnx, g_kc, g_q9⟩ := numsMemo hkc hkb hq8 hq9
    rw [← hnx] at hR2 hK2 hkn
    clear hkb hnx
    have e0 := q_add hg g_kc.1 g_kc.2 (Int.add_zero _).symm hq0 rfl (by decide) (by decide)
    have e1 := q_add hg g_kc.1 g_kc.2 hq0 hq1 rfl (by decide) (by decide)
    have e2 := q_add hg g_kc.1 g_kc.2 hq1 hq2 rfl (by decide) (by decide)
    have e3 := q_add hg g_kc.1 g_kc.2 hq2 hq3 rfl (by decide) (by decide)
    have e4 := q_add hg g_kc.1 g_kc.2 hq3 hq4 rfl (by decide) (by decide)
    have e5 := q_add hg g_kc.1 g_kc.2 hq4 hq5 rfl (by decide) (by decide)
    obtain ⟨t5, ht5⟩ : ∃ t, t = m3 q4 := ⟨_, rfl⟩
    have m5 : g .q .eql (g .w .rem .i64 q4 3) 0 = t5 := by rw [ht5, goRem hg, goEql hg]; rfl
    have e6 := q_add hg g_kc.1 g_kc.2 hq5 hq6 rfl (by decide) (by decide)
    have e7 := q_add hg g_kc.1 g_kc.2 hq6 hq7 rfl (by decide) (by decide)
    have e8 := q_add hg g_kc.1 g_kc.2 hq7 hq8 rfl (by decide) (by decide)
    have r9 := q_bnd g_kc.1 g_kc.2 hq8 (by decide) (by decide)
    have rn9 := q_bnd g_q9.1 g_q9.2 (Int.add_zero _).symm (by decide) (by decide)
    obtain ⟨M0, hM0⟩ : ∃ M, M = (vw GFrame.c (marksFrame q8 l0)) := ⟨_, rfl⟩
    have ch0 := laws_heldFrameS_a q8 l0 hl0s r9.1 r9.2
    rw [← hM0, ← hq9] at ch0
    have lt9 : g .q .lss q9 0 = false := by rw [goLss hg]; exact decide_eq_false (Int.not_lt.2 rn9.1)
    rw [← rowMemo_eq (B0 := []) hM0 ht5 hq0 hq1 hq2 hq3 hq4 hq5 hq6 hq7 hq8 hq9] at hy hR2
    replace hy : V[z.toNat]? = some [.imm (.int .i64 kc), .imm (.int .i64 q0), .imm (.int .i64 q1), .imm (.int .i64 q2), .imm (.int .i64 q3), .imm (.bool t5), .imm (.int .i64 q5), .imm (.int .i64 q6), .imm (.int .i64 q7), .view M0] := hy
    clear hM0 ht5 hq0 hq1 hq2 hq3 hq4 hq5 hq6 hq7 hq8 hq9 g_kc g_q9
    refine goX hg _ h0 hy rfl ?_
    cbv
    rw [show g .q .neq kc kc = false by rw [goNeq hg]; simp]
    cbv
    rw [e0]
    cbv
    refine goX hg _ h0 hy rfl ?_
    cbv
    rw [show g .q .neq q0 q0 = false by rw [goNeq hg]; simp]
    cbv
    rw [e1]
    cbv
    refine goX hg _ h0 hy rfl ?_
    cbv
    rw [show g .q .neq q1 q1 = false by rw [goNeq hg]; simp]
    cbv
    rw [e2]
    cbv
    refine goX hg _ h0 hy rfl ?_
    cbv
    rw [show g .q .neq q2 q2 = false by rw [goNeq hg]; simp]
    cbv
    rw [e3]
    cbv
    refine goX hg _ h0 hy rfl ?_
    cbv
    rw [show g .q .neq q3 q3 = false by rw [goNeq hg]; simp]
    cbv
    rw [e4]
    cbv
    refine goX hg _ h0 hy rfl ?_
    cbv
    refine goNZ hg (by decide) ?_
    cbv
    rw [m5]
    cbv
    rw [show g .qb .neq t5 t5 = false by rw [goNeqB hg]; simp]
    cbv
    rw [e5]
    cbv
    refine goX hg _ h0 hy rfl ?_
    cbv
    rw [show g .q .neq q5 q5 = false by rw [goNeq hg]; simp]
    cbv
    rw [e6]
    cbv
    refine goX hg _ h0 hy rfl ?_
    cbv
    rw [show g .q .neq q6 q6 = false by rw [goNeq hg]; simp]
    cbv
    rw [e7]
    cbv
    refine goX hg _ h0 hy rfl ?_
    cbv
    rw [show g .q .neq q7 q7 = false by rw [goNeq hg]; simp]
    cbv
    rw [e8]
    cbv
    refine goX hg _ h0 hy rfl ?_
    cbv
    refine call0 hg ch0 rfl rfl ?_
    cbv
    rw [lt9]
    cbv
    rw [ez]
    exact back hB (z + 1, q9) [] (wk0 ⟨rfl, rfl, rfl, trivial⟩) ⟨hz1, ⟨_, hR2, by rw [List.length_append, hRl]; exact hzz⟩, hK2, hkn⟩ hmu
end Go.Proofs.YtenbloaopcfdlaaGreat
namespace Go.Proofs.YtenbloaopcfdlaaGreat
open Go.ChangeShapes Go.WideShapes Go.ChangeAt Go.RowKit Am
set_option linter.unusedVariables false
set_option linter.unusedSimpArgs false
set_option maxRecDepth 100000
set_option maxHeartbeats 4000000 in
theorem laws_heldKept_n (k0 : Int) (ls0 : List Nat) (ls1 : List Unit) (hl0 : ls0.length ≤ 1048576) (hs0 : ∀ l ∈ ls0, l ≤ 1048576) (hl1 : ls1.length ≤ 1048576) (hk0 : 0 ≤ k0) (hk1 : endMkAsked (endMkMemo k0 ls0) ls1 ≤ 1152921504606846976) :
    PCon Tryz.prog 51 [.agg [.view (mkRowsMemo k0 ls0), .view (mkRowsAsked (endMkMemo k0 ls0) ls1)], ai k0] fun res rows => res = .t (ai (endMkAsked (endMkMemo k0 ls0) ls1)) ∧ rows = [] := by
  have hle := endMkAsked_le ls1 (endMkMemo k0 ls0)
  have hle0 := endMkMemo_le ls0 k0
  have c0 := laws_heldMemoS_n k0 ls0 hl0 hs0 hk0 (Int.le_trans hle hk1)
  have c1 := laws_heldAskedS_n (endMkMemo k0 ls0) ls1 hl1 (Int.le_trans hk0 hle0) hk1
  obtain ⟨R0, hR0⟩ : ∃ R, R = mkRowsMemo k0 ls0 := ⟨_, rfl⟩
  obtain ⟨R1, hR1⟩ : ∃ R, R = mkRowsAsked (endMkMemo k0 ls0) ls1 := ⟨_, rfl⟩
  obtain ⟨K2, hK2⟩ : ∃ K, K = endMkAsked (endMkMemo k0 ls0) ls1 := ⟨_, rfl⟩
  obtain ⟨K1, hK1⟩ : ∃ K, K = endMkMemo k0 ls0 := ⟨_, rfl⟩
  rw [← hR1, ← hK2, ← hK1] at c1
  rw [← hR0, ← hK1] at c0
  rw [← hR0, ← hR1, ← hK2]
  rw [← hK1] at hle0 hle hK2
  rw [← hK2] at hle
  refine pcon_run (c := body Tryz.f51) fits Tryz.func51 (by kernel_rfl) (by kernel_rfl) (by rfl) (by kernel_rfl) fun g F hg hF => ?_
  cbv
  have n1 : g .q .lss K1 0 = false := by rw [goLss hg]; exact decide_eq_false (by omega)
  have n2 : g .q .lss K2 0 = false := by rw [goLss hg]; exact decide_eq_false (by omega)
  refine call0 hg c0 rfl rfl ?_
  cbv
  rw [n1]
  cbv
  refine call0 hg c1 rfl rfl ?_
  cbv
  rw [n2]
  cbv
  exact fin0i hF rfl
theorem okMkMemo_of (m : NMemo) (hs : m.small) : okMkMemo m.ac m.box.frames.length := by
  obtain ⟨a0, ⟨a1, a2⟩, ⟨a3, a4⟩, a5, ⟨a6, a7, a8, a9⟩⟩ := m
  exact ⟨_, _, _, _, _, _, _, _, _, _, rfl, by simp [vw], by simpa [vw] using hs.1, vw_imm _ _, vw_k (c := GFrame.c) (k := 5) fun _ => rfl⟩
theorem fgM_small (ns : List NNode) (x : NKept) (n : Int) (hs : x.small) : NKept.small ⟨fgM ns x.memos n, x.asked⟩ := by
  obtain ⟨ms, qs⟩ := x
  obtain ⟨hm, u0, hq, -⟩ := hs
  have h1 : ∀ y ∈ fgM ns ms n, y ∈ ms := fun y hy => by
    unfold fgM at hy
    split at hy
    · exact (List.mem_filter.1 hy).1
    · exact hy
  have h2 : (fgM ns ms n).length ≤ ms.length := by
    unfold fgM
    split
    · exact List.length_filter_le _ _
    · exact Nat.le_refl _
  exact ⟨Nat.le_trans h2 hm, fun y hy => u0 y (h1 y hy), hq, trivial⟩
end Go.Proofs.YtenbloaopcfdlaaGreat
namespace Go.Proofs.YtenbloaopcfdlaaGreat
open Go.ChangeShapes Go.WideShapes Go.ChangeAt Go.RowKit Am
set_option linter.unusedVariables false
set_option linter.unusedSimpArgs false
set_option maxRecDepth 100000
theorem GrowT.step2 {k : Nat} {V es : List (List AC)} {z : Int} {lo : Nat} {y v : List AC} (h : GrowT k V es z lo) (hv : V[z.toNat]? = some v) (hy : y.map vwC = v) (hk : y.length = k) (hb : y.all bareF = true) (hn : NewB lo (fpL y)) (hd : ∀ b ∈ fpE es, b ∉ fpL y) : GrowT k V (es ++ [y]) (z + 1) lo := by
  have h0 := h.z0
  have hl := (List.getElem?_eq_some_iff.1 hv).1
  refine ⟨by omega, by rw [lenI_eq]; omega, ⟨fun e he => ?_, fun e he => ?_, ?_, ?_⟩⟩
  · rcases List.mem_append.1 he with h1 | h1
    · exact h.cp.kk e h1
    · rw [List.mem_singleton.1 h1]; exact hk
  · rcases List.mem_append.1 he with h1 | h1
    · exact h.cp.bare e h1
    · rw [List.mem_singleton.1 h1]; exact hb
  · rw [show (z + 1).toNat = z.toNat + 1 by omega, List.take_add_one, hv, List.map_append, h.cp.eq, ← hy]; rfl
  · rw [fpE_app, show fpE [y] = fpL y from List.append_nil _]
    exact ⟨List.nodup_append.2 ⟨h.cp.new.1, hn.1, fun a h1 b h2 he => by subst he; exact hd a h1 h2⟩, fun b hb' => (List.mem_append.1 hb').elim (h.cp.new.2 b) (hn.2 b)⟩
theorem fv_imm {b : Nat} {es : List (List AC)} (hi : immE es = true) : (AC.fv (hd1 b es ++ fpE es) (es.map (·.map vwC))) = .fv (hd1 b es) es := by rw [imm_vw hi, imm_fp hi, List.append_nil]
theorem imm_bareE {es : List (List AC)} (hi : immE es = true) : ∀ e ∈ es, e.all bareF = true := fun e he => List.all_eq_true.2 fun c hc => by obtain ⟨u, rfl⟩ := imm_of hi e he c hc; rfl
section
variable {P : Program} {n0 N : Nat} {g : Gd}
theorem callTR1 {β : BP} (hg : g = G0 P n0 N) {h : EH} {f : FuncId} {args args' : List AT} {K : AV → EH → Prop} {t k : Nat} {Q : Nat → List (List AC) → Prop} (hc : TCon P f args' fun lo res rows => ∃ E, res = .t (.agg [.own 0]) ∧ rows = [⟨t, k, E⟩] ∧ Q lo E) (ha : dwA args args')
    (hp : ∀ lo E, Q lo E → plainE E = true)
    (hK : ∀ lo E, BP.lo ≤ lo → (∀ b ∈ fpH h, b < lo) → (∀ b ∈ fpA args, b < lo) → Q lo E → K (.t (.agg [.own (lenL h)])) (h ++ [.rw ⟨t, k, E⟩])) : g .C f h args K :=
  callT hg hc ha fun lo res rows h1 h2 h3 ⟨E, hres, hrows, hQ⟩ => by
    subst hres hrows
    refine ⟨[.rw ⟨t, k, E⟩], ?_, ?_⟩
    · simp only [List.map_cons, List.map_nil, shift_row (ab := ⟨t, k, E⟩) (hp lo E hQ)]; rfl
    · have := hK lo E h1 h2 h3 hQ
      rw [lenL_eq] at this
      rw [toH_len]; exact this
theorem finTR1 {β : BP} {F : List AT → EH → Prop} {Post : AV → List AB → Prop} {r : Nat} {eh : EH} {ab : AB} (hF : F = fun xs eh => FinT Post xs (toH eh)) (hr : nth eh r = some (.rw ab)) (hp : plainE ab.es = true) (hpost : Post (.t (.agg [.own 0])) [ab]) : F [.agg [.own r]] eh := by
  subst hF
  refine .inl ⟨.t (.agg [.own 0]), [.live ab], [some r], ⟨Nat.zero_le _, fun i hi => absurd hi (Nat.not_lt_zero _), by simp, ?_, ?_⟩, [ab], rfl, hpost⟩
  · simp only [rnH, List.getElem?_cons_zero, nth_rw hr]
    exact ⟨fun h => absurd h (Nat.not_lt_zero _), ⟨by first | trivial | rfl, by first | trivial | rfl, .inl ⟨by first | trivial | rfl, hp⟩⟩, trivial⟩
  · exact ⟨.inr ⟨rfl, trivial⟩, trivial⟩
end
theorem impl_copyInts_t (xs : List Int) (hx : xs.length ≤ 1048576) : TCon Tryz.prog 106 [.c (.view (vw intC xs))] fun lo res rows => (∃ b, res = .t (.c (.fv b (vw intC xs))) ∧ NewB lo b) ∧ plainV res = true ∧ rows = [] := by
  obtain ⟨V, hV⟩ : ∃ V, V = vw intC xs := ⟨_, rfl⟩
  have hVl : V.length = xs.length := by rw [hV, vw_length]
  have iV : immE V = true := by rw [hV]; exact vw_imm _ _
  have kV : ∀ y ∈ V, y.length = 1 := by rw [hV]; exact vw_k (c := intC) (k := 1) fun _ => rfl
  have dV : ∀ y ∈ V, y.all dat = true := by rw [hV]; exact vw_dat
  rw [← hV]
  refine tcon_run ([]) ([]) (c := body Tryz.f106) fits Tryz.func106 (by kernel_rfl) (by kernel_rfl) (by rfl) (by kernel_rfl) fun β g eff hd F heff hhd hg hF => ?_
  cbv
  refine goNV hg kV (by decide) (by rw [hVl]; exact hx) ?_
  cbv
  rw [goAp hg, List.nil_append]
  exact finTS hF fun bl hbl => ⟨[.c (.fv (hd1 (bl 0) V) V)], .c (ress_immRow (r := 0) (ab := ⟨_, _, V⟩) rfl iV) .nil, ⟨_, rfl, blk_new hbl (r := 0) (ab := ⟨_, _, V⟩) rfl⟩, rfl, rfl⟩
theorem impl_copyFrames_t (xs : List GFrame) (hx : xs.length ≤ 1048576) : TCon Tryz.prog 85 [.c (.view (vw GFrame.c xs))] fun lo res rows => (∃ b, res = .t (.c (.fv b (vw GFrame.c xs))) ∧ NewB lo b) ∧ plainV res = true ∧ rows = [] := by
  obtain ⟨V, hV⟩ : ∃ V, V = vw GFrame.c xs := ⟨_, rfl⟩
  have hVl : V.length = xs.length := by rw [hV, vw_length]
  have iV : immE V = true := by rw [hV]; exact vw_imm _ _
  have kV : ∀ y ∈ V, y.length = 5 := by rw [hV]; exact vw_k (c := GFrame.c) (k := 5) fun _ => rfl
  have dV : ∀ y ∈ V, y.all dat = true := by rw [hV]; exact vw_dat
  rw [← hV]
  refine tcon_run ([]) ([]) (c := body Tryz.f85) fits Tryz.func85 (by kernel_rfl) (by kernel_rfl) (by rfl) (by kernel_rfl) fun β g eff hd F heff hhd hg hF => ?_
  cbv
  refine goNV hg kV (by decide) (by rw [hVl]; exact hx) ?_
  cbv
  rw [goAp hg, List.nil_append]
  exact finTS hF fun bl hbl => ⟨[.c (.fv (hd1 (bl 0) V) V)], .c (ress_immRow (r := 0) (ab := ⟨_, _, V⟩) rfl iV) .nil, ⟨_, rfl, blk_new hbl (r := 0) (ab := ⟨_, _, V⟩) rfl⟩, rfl, rfl⟩
theorem impl_copyTable_t (xs : List GRule) (hx : xs.length ≤ 1048576) : TCon Tryz.prog 107 [.agg [.view (vw GRule.c xs)]] fun lo res rows => (∃ b, res = .t (.agg [.fv b (vw GRule.c xs)]) ∧ NewB lo b) ∧ plainV res = true ∧ rows = [] := by
  obtain ⟨V, hV⟩ : ∃ V, V = vw GRule.c xs := ⟨_, rfl⟩
  have hVl : V.length = xs.length := by rw [hV, vw_length]
  have iV : immE V = true := by rw [hV]; exact vw_imm _ _
  have kV : ∀ y ∈ V, y.length = 3 := by rw [hV]; exact vw_k (c := GRule.c) (k := 3) fun _ => rfl
  have dV : ∀ y ∈ V, y.all dat = true := by rw [hV]; exact vw_dat
  rw [← hV]
  refine tcon_run ([]) ([]) (c := body Tryz.f107) fits Tryz.func107 (by kernel_rfl) (by kernel_rfl) (by rfl) (by kernel_rfl) fun β g eff hd F heff hhd hg hF => ?_
  cbv
  refine goNV hg kV (by decide) (by rw [hVl]; exact hx) ?_
  cbv
  rw [goAp hg, List.nil_append]
  exact finTS hF fun bl hbl => ⟨[.agg [.fv (hd1 (bl 2) V) V]], .agg (.cons (ress_immRow (r := 2) (ab := ⟨_, _, V⟩) rfl iV) .nil) .nil, ⟨_, rfl, blk_new hbl (r := 2) (ab := ⟨_, _, V⟩) rfl⟩, rfl, rfl⟩
set_option maxHeartbeats 16000000 in
theorem impl_copyTree_t (ns : List NNode) (hl : ns.length ≤ 1048576) (hs : ∀ y ∈ ns, NNode.small y) : TCon Tryz.prog 61 [.agg [.view (vwA NNode.ac ns)]] fun lo res rows => ∃ E, res = .t (.agg [.own 0]) ∧ rows = [⟨106, 64, E⟩] ∧ CopyE 64 E (vwA NNode.ac ns) lo := by
  obtain ⟨M, hM⟩ : ∃ M, M = vwA NNode.ac ns := ⟨_, rfl⟩
  have hMl : M.length = ns.length := by rw [hM, vwA_length]
  have hMx : lenI M = (ns.length : Int) := by rw [lenI_eq, hMl]
  have hM2 : lenI M ≤ 1048576 := by omega
  rw [← hM]
  refine tcon_run ([]) ([]) (c := body Tryz.f61) fits Tryz.func61 (by kernel_rfl) (by kernel_rfl) (by rfl) (by kernel_rfl) fun β g eff hd F heff hhd hg hF => ?_
  cbv
  refine loop_runW4 [] [] heff hhd hg fits (by kernel_rfl) (fun s : Int × List (List AC) => [(2, .t (.c (.ptr 0 0 0))), (3, .t (.c (.ptr 1 0 0))), (7, .t (.c (.view M))), (8, .t (ai (g .ln M))), (9, .t (ai (s.1)))]) (fun s => [.bx 43 1 [.imm (.slice none 0 0)], .bx 43 1 [.own 2], .rw ⟨106, 64, s.2⟩]) (fun s => GrowT 64 M s.2 s.1 β.lo) (fun s => (lenI M).toNat - s.1.toNat)
    (0, []) (GrowT.start 64 M β.lo) (Wk.weak (wkG [some 1, some 2, none] ⟨rfl, rfl, rfl, rfl, rfl, trivial⟩ ⟨⟨_, _, rfl, rfl, rfl, rfl, .inl ⟨rfl, rfl⟩⟩, ⟨_, _, rfl, rfl, rfl, rfl, .inr ⟨⟨rfl, trivial⟩, trivial⟩⟩, ⟨_, rfl, rfl⟩, trivial⟩ (by decide) no_lt)) (fun s B hs' hB => ?_)
  obtain ⟨z, es⟩ := s
  simp only at hs'
  have h0 := hs'.z0
  have hlen := hs'.len
  cbv
  cases hc : g .q .lss z (g .ln M)
  · rw [goLss hg, goLn hg, decide_eq_false_iff_not] at hc
    cbv
    have hd := hs'.done hc
    exact finTR1 hF rfl (bare_plainE hd.bare) ⟨es, rfl, rfl, hd⟩
  rw [goLss hg, goLn hg, decide_eq_true_eq] at hc
  cbv
  obtain ⟨x, hx⟩ := at_z (xs := ns) h0 (lt_viaN hMx hc)
  have hsx := hs x (List.mem_of_getElem? hx)
  have hyy : M[z.toNat]? = some x.ac := by rw [hM]; exact vwA_at hx
  obtain ⟨a0, a1, ⟨a2, a3, a4, a5, a6, a7, a8, a9, a10, a11, a12, ⟨a13, a14⟩, ⟨a15, a16⟩, ⟨a17, a18⟩, ⟨a19, a20⟩, ⟨a21, a22⟩, ⟨a23, a24⟩, ⟨a25, a26⟩, a27, ⟨⟨a28, a29⟩, ⟨a30, a31⟩, ⟨a32, a33⟩, ⟨a34, a35⟩, ⟨a36, a37⟩, ⟨a38, a39⟩⟩, ⟨⟨a40, a41⟩, ⟨a42, a43⟩, ⟨a44, a45⟩, ⟨a46, a47⟩, ⟨a48, a49⟩, ⟨a50, a51⟩⟩, ⟨a52, a53, a54, a55⟩, ⟨a56, a57, a58, a59⟩, a60, a61⟩, a62, ⟨a63⟩⟩ := x
  have c1 := impl_copyInts_t a1 hsx.1
  have c2 := impl_copyTable_t a63 hsx.2.1
  replace hyy : M[z.toNat]? = some [.imm (.int .i64 a0), .view (vw intC a1), .imm (.int .i64 a2), .imm (.int .i64 a3), .imm (.int .i64 a4), .imm (.int .i64 a5), .imm (.int .i64 a6), .imm (.int .i64 a7), .imm (.bool a8), .imm (.bool a9), .imm (.int .i64 a10), .imm (.int .i64 a11), .imm (.int .i64 a12), .imm (.int .i64 a13), .imm (.int .i64 a14), .imm (.int .i64 a15), .imm (.int .i64 a16), .imm (.int .i64 a17), .imm (.int .i64 a18), .imm (.int .i64 a19), .imm (.int .i64 a20), .imm (.int .i64 a21), .imm (.int .i64 a22), .imm (.int .i64 a23), .imm (.int .i64 a24), .imm (.int .i64 a25), .imm (.int .i64 a26), .imm (.int .i64 a27), .imm (.int .i64 a28), .imm (.int .i64 a29), .imm (.int .i64 a30), .imm (.int .i64 a31), .imm (.int .i64 a32), .imm (.int .i64 a33), .imm (.int .i64 a34), .imm (.int .i64 a35), .imm (.int .i64 a36), .imm (.int .i64 a37), .imm (.int .i64 a38), .imm (.int .i64 a39), .imm (.int .i64 a40), .imm (.int .i64 a41), .imm (.int .i64 a42), .imm (.int .i64 a43), .imm (.int .i64 a44), .imm (.int .i64 a45), .imm (.int .i64 a46), .imm (.int .i64 a47), .imm (.int .i64 a48), .imm (.int .i64 a49), .imm (.int .i64 a50), .imm (.int .i64 a51), .imm (.int .i64 a52), .imm (.int .i64 a53), .imm (.int .i64 a54), .imm (.int .i64 a55), .imm (.int .i64 a56), .imm (.int .i64 a57), .imm (.int .i64 a58), .imm (.int .i64 a59), .imm (.int .i64 a60), .imm (.int .i64 a61), .imm (.bool a62), .view (vw GRule.c a63)] := hyy
  obtain ⟨Va1, hVa1⟩ : ∃ V, V = vw intC a1 := ⟨_, rfl⟩
  obtain ⟨Va63, hVa63⟩ : ∃ V, V = vw GRule.c a63 := ⟨_, rfl⟩
  rw [← hVa1, ← hVa63] at hyy
  rw [← hVa1] at c1
  rw [← hVa63] at c2
  refine goX hg _ h0 hyy rfl ?_
  cbv
  refine callT0 hg c1 (dwA_same rfl) (fun lo1 res p1 p2 p3 ⟨b1, hres, hn1⟩ => ?_)
  subst hres
  have hlt1 : ∀ b ∈ fpE es, b < lo1 := fun b hb => p2 b (fpH_row _ 2 rfl b hb)
  clear p2 p3
  cbv
  refine callT0 hg c2 (dwA_same rfl) (fun lo2 res q1 q2 q3 ⟨b2, hres, hn2⟩ => ?_)
  subst hres
  have hlt2 : ∀ b ∈ fpE es, b < lo2 := fun b hb => q2 b (fpH_row _ 2 rfl b hb)
  have hlt3 : ∀ b ∈ b1, b < lo2 := fun b hb => q2 b (by simp [fpH, fpL, fpC, hb])
  clear q2 q3
  cbv
  refine goNAt hg rfl (by decide) (by omega) ?_
  cbv
  have e1 : g .w .add .i64 z 1 = z + 1 := by rw [goAdd hg, wrap_small _ (by omega)]
  rw [e1, goAp hg]
  have hs2 := hs'.step2 (y := [.imm (.int .i64 a0), .fv b1 Va1, .imm (.int .i64 a2), .imm (.int .i64 a3), .imm (.int .i64 a4), .imm (.int .i64 a5), .imm (.int .i64 a6), .imm (.int .i64 a7), .imm (.bool a8), .imm (.bool a9), .imm (.int .i64 a10), .imm (.int .i64 a11), .imm (.int .i64 a12), .imm (.int .i64 a13), .imm (.int .i64 a14), .imm (.int .i64 a15), .imm (.int .i64 a16), .imm (.int .i64 a17), .imm (.int .i64 a18), .imm (.int .i64 a19), .imm (.int .i64 a20), .imm (.int .i64 a21), .imm (.int .i64 a22), .imm (.int .i64 a23), .imm (.int .i64 a24), .imm (.int .i64 a25), .imm (.int .i64 a26), .imm (.int .i64 a27), .imm (.int .i64 a28), .imm (.int .i64 a29), .imm (.int .i64 a30), .imm (.int .i64 a31), .imm (.int .i64 a32), .imm (.int .i64 a33), .imm (.int .i64 a34), .imm (.int .i64 a35), .imm (.int .i64 a36), .imm (.int .i64 a37), .imm (.int .i64 a38), .imm (.int .i64 a39), .imm (.int .i64 a40), .imm (.int .i64 a41), .imm (.int .i64 a42), .imm (.int .i64 a43), .imm (.int .i64 a44), .imm (.int .i64 a45), .imm (.int .i64 a46), .imm (.int .i64 a47), .imm (.int .i64 a48), .imm (.int .i64 a49), .imm (.int .i64 a50), .imm (.int .i64 a51), .imm (.int .i64 a52), .imm (.int .i64 a53), .imm (.int .i64 a54), .imm (.int .i64 a55), .imm (.int .i64 a56), .imm (.int .i64 a57), .imm (.int .i64 a58), .imm (.int .i64 a59), .imm (.int .i64 a60), .imm (.int .i64 a61), .imm (.bool a62), .fv b2 Va63]) hyy rfl rfl rfl (by
    have := (hn1.mono p1).app q1 hn2 hlt3
    simpa [fpL, fpC] using this) (fun b hb => by
    have h1 := hlt1 b hb
    have h2 := hlt2 b hb
    simp only [fpL, fpC, List.flatMap_cons, List.flatMap_nil, List.append_nil, List.nil_append, List.mem_append, not_or]
    exact ⟨fun h => by have := hn1.2 b h; omega, fun h => by have := hn2.2 b h; omega⟩)
  rw [hB]
  exact ⟨(z + 1, _), hs2, by show (lenI M).toNat - (z + 1).toNat < (lenI M).toNat - z.toNat; omega, Wk.weak (wkG [some 0, some 1, some 5] ⟨rfl, rfl, rfl, rfl, rfl, trivial⟩ ⟨⟨_, _, rfl, rfl, rfl, rfl, .inl ⟨rfl, rfl⟩⟩, ⟨_, _, rfl, rfl, rfl, rfl, .inr ⟨⟨rfl, trivial⟩, trivial⟩⟩, ⟨_, _, rfl, rfl, rfl, rfl, .inl ⟨rfl, bare_plainE hs2.cp.bare⟩⟩, trivial⟩ (by decide) no_lt)⟩
set_option maxHeartbeats 16000000 in
theorem spec_l10Copy_t (ns : List NNode) (hl : ns.length ≤ 1048576) (hs : ∀ y ∈ ns, NNode.small y) : TCon Tryz.prog 77 [.agg [.view (vwA NNode.ac ns)]] fun lo res rows => ∃ E, res = .t (.agg [.own 0]) ∧ rows = [⟨106, 64, E⟩] ∧ CopyE 64 E (vwA NNode.ac ns) lo := by
  obtain ⟨M, hM⟩ : ∃ M, M = vwA NNode.ac ns := ⟨_, rfl⟩
  have hMl : M.length = ns.length := by rw [hM, vwA_length]
  have hMx : lenI M = (ns.length : Int) := by rw [lenI_eq, hMl]
  have hM2 : lenI M ≤ 1048576 := by omega
  rw [← hM]
  refine tcon_run ([(6, .hand), (7, .hand)]) ([]) (c := body Tryz.f77) fits Tryz.func77 (by kernel_rfl) (by kernel_rfl) (by rfl) (by kernel_rfl) fun β g eff hd F heff hhd hg hF => ?_
  cbv
  refine loop_runW4 [(6, .hand), (7, .hand)] [] heff hhd hg fits (by kernel_rfl) (fun s : Int × List (List AC) => [(1, .t (.c (.ptr 3 0 0))), (2, .t (.c (.ptr 0 0 0))), (3, .t (.c (.ptr 1 0 0))), (4, .t (ai (s.1)))]) (fun s => [.bx 43 1 [.imm (.slice none 0 0)], .bx 43 1 [.own 2], .rw ⟨106, 64, s.2⟩, .bx 43 1 [.view M]]) (fun s => GrowT 64 M s.2 s.1 β.lo) (fun s => (lenI M).toNat - s.1.toNat)
    (0, []) (GrowT.start 64 M β.lo) (Wk.weak (wkG [some 1, some 2, none, some 0] ⟨rfl, rfl, rfl, rfl, trivial⟩ ⟨⟨_, _, rfl, rfl, rfl, rfl, .inl ⟨rfl, rfl⟩⟩, ⟨_, _, rfl, rfl, rfl, rfl, .inr ⟨⟨rfl, trivial⟩, trivial⟩⟩, ⟨_, rfl, rfl⟩, ⟨_, _, rfl, rfl, rfl, rfl, .inl ⟨rfl, rfl⟩⟩, trivial⟩ (by decide) no_lt)) (fun s B hs' hB => ?_)
  obtain ⟨z, es⟩ := s
  simp only at hs'
  have h0 := hs'.z0
  have hlen := hs'.len
  cbv
  cases hc : g .q .lss z (g .ln M)
  · rw [goLss hg, goLn hg, decide_eq_false_iff_not] at hc
    cbv
    have hd := hs'.done hc
    exact finTR1 hF rfl (bare_plainE hd.bare) ⟨es, rfl, rfl, hd⟩
  rw [goLss hg, goLn hg, decide_eq_true_eq] at hc
  cbv
  obtain ⟨x, hx⟩ := at_z (xs := ns) h0 (lt_viaN hMx hc)
  have hsx := hs x (List.mem_of_getElem? hx)
  have hyy : M[z.toNat]? = some x.ac := by rw [hM]; exact vwA_at hx
  obtain ⟨a0, a1, ⟨a2, a3, a4, a5, a6, a7, a8, a9, a10, a11, a12, ⟨a13, a14⟩, ⟨a15, a16⟩, ⟨a17, a18⟩, ⟨a19, a20⟩, ⟨a21, a22⟩, ⟨a23, a24⟩, ⟨a25, a26⟩, a27, ⟨⟨a28, a29⟩, ⟨a30, a31⟩, ⟨a32, a33⟩, ⟨a34, a35⟩, ⟨a36, a37⟩, ⟨a38, a39⟩⟩, ⟨⟨a40, a41⟩, ⟨a42, a43⟩, ⟨a44, a45⟩, ⟨a46, a47⟩, ⟨a48, a49⟩, ⟨a50, a51⟩⟩, ⟨a52, a53, a54, a55⟩, ⟨a56, a57, a58, a59⟩, a60, a61⟩, a62, ⟨a63⟩⟩ := x
  replace hyy : M[z.toNat]? = some [.imm (.int .i64 a0), .view (vw intC a1), .imm (.int .i64 a2), .imm (.int .i64 a3), .imm (.int .i64 a4), .imm (.int .i64 a5), .imm (.int .i64 a6), .imm (.int .i64 a7), .imm (.bool a8), .imm (.bool a9), .imm (.int .i64 a10), .imm (.int .i64 a11), .imm (.int .i64 a12), .imm (.int .i64 a13), .imm (.int .i64 a14), .imm (.int .i64 a15), .imm (.int .i64 a16), .imm (.int .i64 a17), .imm (.int .i64 a18), .imm (.int .i64 a19), .imm (.int .i64 a20), .imm (.int .i64 a21), .imm (.int .i64 a22), .imm (.int .i64 a23), .imm (.int .i64 a24), .imm (.int .i64 a25), .imm (.int .i64 a26), .imm (.int .i64 a27), .imm (.int .i64 a28), .imm (.int .i64 a29), .imm (.int .i64 a30), .imm (.int .i64 a31), .imm (.int .i64 a32), .imm (.int .i64 a33), .imm (.int .i64 a34), .imm (.int .i64 a35), .imm (.int .i64 a36), .imm (.int .i64 a37), .imm (.int .i64 a38), .imm (.int .i64 a39), .imm (.int .i64 a40), .imm (.int .i64 a41), .imm (.int .i64 a42), .imm (.int .i64 a43), .imm (.int .i64 a44), .imm (.int .i64 a45), .imm (.int .i64 a46), .imm (.int .i64 a47), .imm (.int .i64 a48), .imm (.int .i64 a49), .imm (.int .i64 a50), .imm (.int .i64 a51), .imm (.int .i64 a52), .imm (.int .i64 a53), .imm (.int .i64 a54), .imm (.int .i64 a55), .imm (.int .i64 a56), .imm (.int .i64 a57), .imm (.int .i64 a58), .imm (.int .i64 a59), .imm (.int .i64 a60), .imm (.int .i64 a61), .imm (.bool a62), .view (vw GRule.c a63)] := hyy
  obtain ⟨Va1, hVa1⟩ : ∃ Va1, Va1 = vw intC a1 := ⟨_, rfl⟩
  have hVa1l : Va1.length = a1.length := by rw [hVa1, vw_length]
  have iVa1 : immE Va1 = true := by rw [hVa1]; exact vw_imm _ _
  have kVa1 : ∀ y ∈ Va1, y.length = 1 := by rw [hVa1]; exact vw_k (c := intC) (k := 1) fun _ => rfl
  have dVa1 : ∀ y ∈ Va1, y.all dat = true := by rw [hVa1]; exact vw_dat
  obtain ⟨Va63, hVa63⟩ : ∃ Va63, Va63 = vw GRule.c a63 := ⟨_, rfl⟩
  have hVa63l : Va63.length = a63.length := by rw [hVa63, vw_length]
  have iVa63 : immE Va63 = true := by rw [hVa63]; exact vw_imm _ _
  have kVa63 : ∀ y ∈ Va63, y.length = 3 := by rw [hVa63]; exact vw_k (c := GRule.c) (k := 3) fun _ => rfl
  have dVa63 : ∀ y ∈ Va63, y.all dat = true := by rw [hVa63]; exact vw_dat
  rw [← hVa1, ← hVa63] at hyy
  refine goX hg _ h0 hyy rfl ?_
  cbv
  refine hand_nm hhd fits [] [] 6 Va1 (imm_bareE iVa1) rfl (by kernel_rfl) (fun g2 eff2 hd2 B2 he2 hh2 hg2 hB2 => ?_)
  cbv
  refine goNV0 hg2 kVa1 (by decide) (by rw [hVa1l]; exact hsx.1) ?_
  cbv
  rw [goAp hg2, List.nil_append]
  refine hB2 _ _ _ _ rfl rfl (fun lo1 b1 p1 hn1 => ?_)
  rw [fv_imm iVa1]
  obtain ⟨c1, hc1⟩ : ∃ c, c = hd1 b1 Va1 := ⟨_, rfl⟩
  rw [← hc1] at hn1 ⊢
  clear hc1
  refine ⟨[(1, .t (.c (.ptr 3 0 0))), (2, .t (.c (.ptr 0 0 0))), (3, .t (.c (.ptr 1 0 0))), (4, .t (ai (z))), (5, .t (.c (.ptr 4 0 0)))], [.bx 43 1 [.imm (.slice none 0 0)], .bx 43 1 [.own 2], .rw ⟨106, 64, es⟩, .bx 43 1 [.view M], .bx 106 64 [.imm (.int .i64 a0), .fv c1 Va1, .imm (.int .i64 a2), .imm (.int .i64 a3), .imm (.int .i64 a4), .imm (.int .i64 a5), .imm (.int .i64 a6), .imm (.int .i64 a7), .imm (.bool a8), .imm (.bool a9), .imm (.int .i64 a10), .imm (.int .i64 a11), .imm (.int .i64 a12), .imm (.int .i64 a13), .imm (.int .i64 a14), .imm (.int .i64 a15), .imm (.int .i64 a16), .imm (.int .i64 a17), .imm (.int .i64 a18), .imm (.int .i64 a19), .imm (.int .i64 a20), .imm (.int .i64 a21), .imm (.int .i64 a22), .imm (.int .i64 a23), .imm (.int .i64 a24), .imm (.int .i64 a25), .imm (.int .i64 a26), .imm (.int .i64 a27), .imm (.int .i64 a28), .imm (.int .i64 a29), .imm (.int .i64 a30), .imm (.int .i64 a31), .imm (.int .i64 a32), .imm (.int .i64 a33), .imm (.int .i64 a34), .imm (.int .i64 a35), .imm (.int .i64 a36), .imm (.int .i64 a37), .imm (.int .i64 a38), .imm (.int .i64 a39), .imm (.int .i64 a40), .imm (.int .i64 a41), .imm (.int .i64 a42), .imm (.int .i64 a43), .imm (.int .i64 a44), .imm (.int .i64 a45), .imm (.int .i64 a46), .imm (.int .i64 a47), .imm (.int .i64 a48), .imm (.int .i64 a49), .imm (.int .i64 a50), .imm (.int .i64 a51), .imm (.int .i64 a52), .imm (.int .i64 a53), .imm (.int .i64 a54), .imm (.int .i64 a55), .imm (.int .i64 a56), .imm (.int .i64 a57), .imm (.int .i64 a58), .imm (.int .i64 a59), .imm (.int .i64 a60), .imm (.int .i64 a61), .imm (.bool a62), .view Va63], .gn, .gn], ⟨.inl rfl, .inl rfl, .inl rfl, .inl rfl, .inl rfl, trivial⟩, ⟨⟨rfl, rfl, .inl rfl, trivial⟩, ⟨rfl, rfl, .inl rfl, trivial⟩, .inl rfl, ⟨rfl, rfl, .inl rfl, trivial⟩, ⟨rfl, rfl, ⟨.inl rfl, .inr (.inl ⟨rfl, rfl⟩), .inl rfl, .inl rfl, .inl rfl, .inl rfl, .inl rfl, .inl rfl, .inl rfl, .inl rfl, .inl rfl, .inl rfl, .inl rfl, .inl rfl, .inl rfl, .inl rfl, .inl rfl, .inl rfl, .inl rfl, .inl rfl, .inl rfl, .inl rfl, .inl rfl, .inl rfl, .inl rfl, .inl rfl, .inl rfl, .inl rfl, .inl rfl, .inl rfl, .inl rfl, .inl rfl, .inl rfl, .inl rfl, .inl rfl, .inl rfl, .inl rfl, .inl rfl, .inl rfl, .inl rfl, .inl rfl, .inl rfl, .inl rfl, .inl rfl, .inl rfl, .inl rfl, .inl rfl, .inl rfl, .inl rfl, .inl rfl, .inl rfl, .inl rfl, .inl rfl, .inl rfl, .inl rfl, .inl rfl, .inl rfl, .inl rfl, .inl rfl, .inl rfl, .inl rfl, .inl rfl, .inl rfl, .inl rfl, trivial⟩⟩, trivial, rfl, trivial⟩, ?_⟩
  clear hB2 hg2 hh2 he2
  cbv
  refine hand_nm hhd fits [] [] 8 Va63 (imm_bareE iVa63) rfl (by kernel_rfl) (fun g2 eff2 hd2 B2 he2 hh2 hg2 hB2 => ?_)
  cbv
  refine goNV0 hg2 kVa63 (by decide) (by rw [hVa63l]; exact hsx.2.1) ?_
  cbv
  rw [goAp hg2, List.nil_append]
  refine hB2 _ _ _ _ rfl rfl (fun lo2 b2 q1 hn2 => ?_)
  rw [fv_imm iVa63]
  obtain ⟨c2, hc2⟩ : ∃ c, c = hd1 b2 Va63 := ⟨_, rfl⟩
  rw [← hc2] at hn2 ⊢
  clear hc2
  refine ⟨[(1, .t (.c (.ptr 3 0 0))), (2, .t (.c (.ptr 0 0 0))), (3, .t (.c (.ptr 1 0 0))), (4, .t (ai (z))), (5, .t (.c (.ptr 4 0 0)))], [.bx 43 1 [.imm (.slice none 0 0)], .bx 43 1 [.own 2], .rw ⟨106, 64, es⟩, .bx 43 1 [.view M], .bx 106 64 [.imm (.int .i64 a0), .fv c1 Va1, .imm (.int .i64 a2), .imm (.int .i64 a3), .imm (.int .i64 a4), .imm (.int .i64 a5), .imm (.int .i64 a6), .imm (.int .i64 a7), .imm (.bool a8), .imm (.bool a9), .imm (.int .i64 a10), .imm (.int .i64 a11), .imm (.int .i64 a12), .imm (.int .i64 a13), .imm (.int .i64 a14), .imm (.int .i64 a15), .imm (.int .i64 a16), .imm (.int .i64 a17), .imm (.int .i64 a18), .imm (.int .i64 a19), .imm (.int .i64 a20), .imm (.int .i64 a21), .imm (.int .i64 a22), .imm (.int .i64 a23), .imm (.int .i64 a24), .imm (.int .i64 a25), .imm (.int .i64 a26), .imm (.int .i64 a27), .imm (.int .i64 a28), .imm (.int .i64 a29), .imm (.int .i64 a30), .imm (.int .i64 a31), .imm (.int .i64 a32), .imm (.int .i64 a33), .imm (.int .i64 a34), .imm (.int .i64 a35), .imm (.int .i64 a36), .imm (.int .i64 a37), .imm (.int .i64 a38), .imm (.int .i64 a39), .imm (.int .i64 a40), .imm (.int .i64 a41), .imm (.int .i64 a42), .imm (.int .i64 a43), .imm (.int .i64 a44), .imm (.int .i64 a45), .imm (.int .i64 a46), .imm (.int .i64 a47), .imm (.int .i64 a48), .imm (.int .i64 a49), .imm (.int .i64 a50), .imm (.int .i64 a51), .imm (.int .i64 a52), .imm (.int .i64 a53), .imm (.int .i64 a54), .imm (.int .i64 a55), .imm (.int .i64 a56), .imm (.int .i64 a57), .imm (.int .i64 a58), .imm (.int .i64 a59), .imm (.int .i64 a60), .imm (.int .i64 a61), .imm (.bool a62), .fv c2 Va63], .gn, .gn, .gn, .gn], ⟨.inl rfl, .inl rfl, .inl rfl, .inl rfl, .inl rfl, trivial⟩, ⟨⟨rfl, rfl, .inl rfl, trivial⟩, ⟨rfl, rfl, .inl rfl, trivial⟩, .inl rfl, ⟨rfl, rfl, .inl rfl, trivial⟩, ⟨rfl, rfl, ⟨.inl rfl, .inl rfl, .inl rfl, .inl rfl, .inl rfl, .inl rfl, .inl rfl, .inl rfl, .inl rfl, .inl rfl, .inl rfl, .inl rfl, .inl rfl, .inl rfl, .inl rfl, .inl rfl, .inl rfl, .inl rfl, .inl rfl, .inl rfl, .inl rfl, .inl rfl, .inl rfl, .inl rfl, .inl rfl, .inl rfl, .inl rfl, .inl rfl, .inl rfl, .inl rfl, .inl rfl, .inl rfl, .inl rfl, .inl rfl, .inl rfl, .inl rfl, .inl rfl, .inl rfl, .inl rfl, .inl rfl, .inl rfl, .inl rfl, .inl rfl, .inl rfl, .inl rfl, .inl rfl, .inl rfl, .inl rfl, .inl rfl, .inl rfl, .inl rfl, .inl rfl, .inl rfl, .inl rfl, .inl rfl, .inl rfl, .inl rfl, .inl rfl, .inl rfl, .inl rfl, .inl rfl, .inl rfl, .inl rfl, .inr (.inl ⟨rfl, rfl⟩), trivial⟩⟩, trivial, trivial, trivial, rfl, trivial⟩, ?_⟩
  clear hB2 hg2 hh2 he2
  have hlt1 : ∀ b ∈ fpE es, b < lo1 := fun b hb => hn1.old b (fpH_row _ 2 rfl b hb)
  have hlt2 : ∀ b ∈ fpE es, b < lo2 := fun b hb => hn2.old b (fpH_row _ 2 rfl b hb)
  have hlt3 : ∀ b ∈ c1, b < lo2 := fun b hb => hn2.old b (by simp [fpH, fpL, fpC, hb])
  have n1 : NewB lo1 c1 := ⟨hn1.nd, hn1.ge⟩
  have n2 : NewB lo2 c2 := ⟨hn2.nd, hn2.ge⟩
  clear hn1 hn2
  cbv
  refine goNAt hg rfl (by decide) (by omega) ?_
  cbv
  have e1 : g .w .add .i64 z 1 = z + 1 := by rw [goAdd hg, wrap_small _ (by omega)]
  rw [e1, goAp hg]
  have hs2 := hs'.step2 (y := [.imm (.int .i64 a0), .fv c1 Va1, .imm (.int .i64 a2), .imm (.int .i64 a3), .imm (.int .i64 a4), .imm (.int .i64 a5), .imm (.int .i64 a6), .imm (.int .i64 a7), .imm (.bool a8), .imm (.bool a9), .imm (.int .i64 a10), .imm (.int .i64 a11), .imm (.int .i64 a12), .imm (.int .i64 a13), .imm (.int .i64 a14), .imm (.int .i64 a15), .imm (.int .i64 a16), .imm (.int .i64 a17), .imm (.int .i64 a18), .imm (.int .i64 a19), .imm (.int .i64 a20), .imm (.int .i64 a21), .imm (.int .i64 a22), .imm (.int .i64 a23), .imm (.int .i64 a24), .imm (.int .i64 a25), .imm (.int .i64 a26), .imm (.int .i64 a27), .imm (.int .i64 a28), .imm (.int .i64 a29), .imm (.int .i64 a30), .imm (.int .i64 a31), .imm (.int .i64 a32), .imm (.int .i64 a33), .imm (.int .i64 a34), .imm (.int .i64 a35), .imm (.int .i64 a36), .imm (.int .i64 a37), .imm (.int .i64 a38), .imm (.int .i64 a39), .imm (.int .i64 a40), .imm (.int .i64 a41), .imm (.int .i64 a42), .imm (.int .i64 a43), .imm (.int .i64 a44), .imm (.int .i64 a45), .imm (.int .i64 a46), .imm (.int .i64 a47), .imm (.int .i64 a48), .imm (.int .i64 a49), .imm (.int .i64 a50), .imm (.int .i64 a51), .imm (.int .i64 a52), .imm (.int .i64 a53), .imm (.int .i64 a54), .imm (.int .i64 a55), .imm (.int .i64 a56), .imm (.int .i64 a57), .imm (.int .i64 a58), .imm (.int .i64 a59), .imm (.int .i64 a60), .imm (.int .i64 a61), .imm (.bool a62), .fv c2 Va63]) hyy rfl rfl rfl (by
    have := (n1.mono p1).app q1 n2 hlt3
    simpa [fpL, fpC] using this) (fun b hb => by
    have h1 := hlt1 b hb
    have h2 := hlt2 b hb
    simp only [fpL, fpC, List.flatMap_cons, List.flatMap_nil, List.append_nil, List.nil_append, List.mem_append, not_or]
    exact ⟨fun h => by have := n1.2 b h; omega, fun h => by have := n2.2 b h; omega⟩)
  rw [hB]
  skip
  exact ⟨(z + 1, _), hs2, by show (lenI M).toNat - (z + 1).toNat < (lenI M).toNat - z.toNat; omega, Wk.weak (wkG [some 0, some 1, some 10, some 3] ⟨rfl, rfl, rfl, rfl, trivial⟩ ⟨⟨_, _, rfl, rfl, rfl, rfl, .inl ⟨rfl, rfl⟩⟩, ⟨_, _, rfl, rfl, rfl, rfl, .inr ⟨⟨rfl, trivial⟩, trivial⟩⟩, ⟨_, _, rfl, rfl, rfl, rfl, .inl ⟨rfl, bare_plainE hs2.cp.bare⟩⟩, ⟨_, _, rfl, rfl, rfl, rfl, .inl ⟨rfl, rfl⟩⟩, trivial⟩ (by decide) no_lt)⟩
end Go.Proofs.YtenbloaopcfdlaaGreat
