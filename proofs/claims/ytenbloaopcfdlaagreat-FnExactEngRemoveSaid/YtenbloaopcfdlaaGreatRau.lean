/- Marks on nested data: Asked. Marks on nested data: Memo. A box's copy; marks on what is kept. A box's copy; what is kept of a node, sought in turn. The law of MemoFor: what is kept is copied, marked, and the answers stay. -/
import Derived.Test.YtenbloaopcfdlaaGreatRat
namespace Go.Proofs.YtenbloaopcfdlaaGreat
open Go.ChangeShapes Go.WideShapes Go.ChangeAt Go.RowKit Am
set_option linter.unusedVariables false
set_option linter.unusedSimpArgs false
set_option maxRecDepth 100000
def mkRowAsked (k : Int)  : List AC := [.imm (.int .i64 (k)), .imm (.int .i64 (k + 1)), .imm (.int .i64 (k + 2)), .imm (.int .i64 (k + 3)), .imm (.int .i64 (k + 4)), .imm (.bool (m3 (k + 5)))]
def nxMkAsked (k : Int)  : Int := k + 6
theorem nxMkAsked_eq (k : Int)  : nxMkAsked k  = k + 6 := by unfold nxMkAsked; omega
def mkRowsAsked : Int → List (Unit) → List (List AC)
  | _, [] => []
  | k, () :: ls => mkRowAsked k  :: mkRowsAsked (nxMkAsked k ) ls
def endMkAsked : Int → List (Unit) → Int
  | k, [] => k
  | k, () :: ls => endMkAsked (nxMkAsked k ) ls
theorem endMkAsked_le : ∀ (ls : List (Unit)) (k : Int), k ≤ endMkAsked k ls
  | [], k => Int.le_refl k
  | () :: ls, k => by have := endMkAsked_le ls (nxMkAsked k ); unfold nxMkAsked at this; unfold endMkAsked nxMkAsked; omega
theorem mkRowsAsked_len : ∀ (ls : List (Unit)) (k : Int), (mkRowsAsked k ls).length = ls.length
  | [], k => rfl
  | () :: ls, k => by simp [mkRowsAsked, mkRowsAsked_len ls]
theorem mkRowsAsked_k : ∀ (ls : List (Unit)) (k : Int), ∀ x ∈ mkRowsAsked k ls, x.length = 6
  | [], k, x, hx => by simp [mkRowsAsked] at hx
  | () :: ls, k, x, hx => by
    rcases List.mem_cons.1 hx with h | h
    · rw [h]; rfl
    · exact mkRowsAsked_k ls _ x h
theorem numsAsked {kc q5 : Int} (hkc : 0 ≤ kc) (hkb : kc + 6 ≤ 1152921504606846976) (hq5 : q5 = kc + 6) : q5 = nxMkAsked kc  ∧ (0 ≤ kc ∧ kc + 6 ≤ 1152921504606846976) := by
  unfold nxMkAsked
  refine ⟨?_, ?_⟩ <;> omega
def okMkAsked (x : List AC) (_ : Unit) : Prop := ∃ u0 u1 u2 u3 u4 u5, x = [.imm u0, .imm u1, .imm u2, .imm u3, .imm u4, .imm u5]
theorem rowAsked_eq {kc q0 q1 q2 q3 q4 q5 : Int} {t5 : Bool}  (ht5 : t5 = m3 q4) (hq0 : q0 = kc + 1) (hq1 : q1 = kc + 2) (hq2 : q2 = kc + 3) (hq3 : q3 = kc + 4) (hq4 : q4 = kc + 5) (hq5 : q5 = kc + 6) :
    List.map vwC [.imm (.int .i64 kc), .imm (.int .i64 q0), .imm (.int .i64 q1), .imm (.int .i64 q2), .imm (.int .i64 q3), .imm (.bool t5)] = mkRowAsked kc  := by
  subst ht5; subst hq5 hq4 hq3 hq2 hq1 hq0
  rfl
set_option maxHeartbeats 1600000 in
theorem laws_markAskedS_0 (k0 : Int) : PCon Tryz.prog 93 [.c (.view []), ai k0] fun res rows => res = .t (ai k0) ∧ rows = [] := by
  refine pcon_run4 ([]) ([]) (c := body Tryz.f93) fits Tryz.func93 (by kernel_rfl) (by kernel_rfl) (by rfl) (by kernel_rfl) fun g eff hd F heff hhd hg hF => ?_
  cbv
  refine loop_runW4 [] [] heff hhd hg fits (by kernel_rfl) (fun _ : Unit => [(0, .t (.c (.view []))), (1, .t (ai k0)), (5, .t (ai 0))]) (fun _ => []) (fun _ => True) (fun _ => 0) () trivial (Wk.weak (wk0 ⟨rfl, rfl, rfl, trivial⟩)) (fun s B _ hB => ?_)
  cbv
  have e : g .q .lss 0 (g .ln []) = false := by rw [goLss hg, goLn hg]; rfl
  rw [e]
  cbv
  exact fin0i hF rfl
set_option maxHeartbeats 8000000 in
theorem laws_markAskedS_m (k0 : Int) (bs : List Nat) (V : List (List AC)) (ls : List (Unit)) (hV : V.length = ls.length) (hl : V.length ≤ 1048576) (hok : ∀ (i : Nat) (x : List AC) (l : Unit), V[i]? = some x → ls[i]? = some l → okMkAsked x l) (hnd : bs.Nodup) (hk0 : 0 ≤ k0) (hk1 : endMkAsked k0 ls ≤ 1152921504606846976) :
    MCon Tryz.prog 93 [.c (.fv bs V), ai k0] [(bs, V, mkRowsAsked k0 ls)] (.int .i64 (endMkAsked k0 ls)) := by
  by_cases hne : V = []
  · subst hne
    obtain rfl : ls = [] := List.eq_nil_of_length_eq_zero (by simpa using hV.symm)
    exact mcon_nil (laws_markAskedS_0 k0)
  have dV : ∀ x ∈ V, x.all dat = true := fun x hx => by
    obtain ⟨i, hi, rfl⟩ := List.getElem_of_mem hx
    obtain ⟨u0, u1, u2, u3, u4, u5, he⟩ := hok i _ _ (List.getElem?_eq_getElem hi) (List.getElem?_eq_getElem (by omega))
    rw [he]; rfl
  have kV : ∀ x ∈ V, x.length = 6 := fun x hx => by
    obtain ⟨i, hi, rfl⟩ := List.getElem_of_mem hx
    obtain ⟨u0, u1, u2, u3, u4, u5, he⟩ := hok i _ _ (List.getElem?_eq_getElem hi) (List.getElem?_eq_getElem (by omega))
    rw [he]; rfl
  refine mcon_nest (by kernel_rfl) hne kV dV hnd (by rw [mkRowsAsked_len, hV]) fun bs' ty es hsub hnd' e1 e2 e3 e4 => ?_
  clear hnd hsub
  obtain ⟨β, hβ⟩ : ∃ β : BP, β = ⟨0, fun b => b ∈ bs'⟩ := ⟨_, rfl⟩
  have hex : ∀ b ∈ bs', β.ex b := by rw [hβ]; exact fun _ h => h
  rw [← hβ]
  clear hβ
  have hV0 : 0 ≤ lenI V := by rw [lenI_eq]; omega
  have hV20 : lenI V ≤ 1048576 := by rw [lenI_eq]; omega
  refine conx_run4 (h := [.rw ⟨ty, 6, es⟩]) [] [] (c := body Tryz.f93) fits Tryz.func93 (by kernel_rfl) (by kernel_rfl) (bl (by rfl)) (by kernel_rfl) fun g eff hd F heff hhd hg hF => ?_
  cbv
  refine loop_runW4 [] [] heff hhd hg fits (by kernel_rfl) (fun s : Int × Int × List (List AC) => [(0, .t (.c (.own 0))), (1, .t (ai s.2.1)), (5, .t (ai s.1))]) (fun s => [.rw ⟨ty, 6, s.2.2⟩]) (fun s => ∃ R, MkSt 6 V R s.2.2 s.1 bs' ∧ mkRowsAsked k0 ls = R ++ mkRowsAsked s.2.1 (ls.drop s.1.toNat) ∧ endMkAsked k0 ls = endMkAsked s.2.1 (ls.drop s.1.toNat) ∧ 0 ≤ s.2.1) (fun s => (lenI V).toNat - s.1.toNat)
    (0, k0, es) ⟨[], MkSt.start e1 e2 e3 e4, rfl, rfl, hk0⟩ (Wk.weak (wk1 ⟨⟨_, rfl, rfl, bare_plainE e3⟩, trivial⟩ ⟨rfl, rfl, rfl, trivial⟩)) (fun s B hs hB => ?_)
  clear e1 e2 e3 e4
  obtain ⟨z, kc, E⟩ := s
  obtain ⟨R, hs, hR, hK, hkc⟩ := hs
  simp only at hs hR hK hkc
  have h0 := hs.z0
  have h1 := hs.z1
  have hEV : lenI E = lenI V := by rw [lenI_eq, lenI_eq, hs.len]
  cbv
  cases hc : g .q .lss z (g .ln E)
  · rw [goLss hg, goLn hg, hEV, decide_eq_false_iff_not] at hc
    cbv
    have hall := hs.all hc
    have hdr : ls.drop z.toNat = [] := by rw [lenI_eq] at hc; exact List.drop_eq_nil_of_le (by omega)
    rw [hdr] at hR hK
    have hR' : mkRowsAsked k0 ls = R := by rw [hR]; exact List.append_nil R
    have hK' : endMkAsked k0 ls = kc := hK
    rw [hR', hK'] at hF
    exact finH1 hF (bare_plainE hs.bare) ⟨rfl, E, rfl, hall, hs.fp, hs.bare⟩
  · rw [goLss hg, goLn hg, hEV, decide_eq_true_eq] at hc
    cbv
    obtain ⟨j, hj⟩ : ∃ j, j = z.toNat := ⟨_, rfl⟩
    have hjV : j < V.length := by rw [hj]; rw [lenI_eq] at hc; omega
    have hjl : j < E.length := by rw [hs.len]; exact hjV
    obtain ⟨e, v, he, hv, hev, heb, hel⟩ := hs.at_ hj hc
    obtain ⟨l, hl0⟩ : ∃ l, ls[j]? = some l := ⟨_, List.getElem?_eq_getElem (by omega)⟩
    have hdr : ls.drop z.toNat = l :: ls.drop (z + 1).toNat := by
      rw [← hj, show (z + 1).toNat = j + 1 by omega]
      have hjl' : j < ls.length := by omega
      rw [List.drop_eq_getElem_cons hjl', ← Option.some.inj ((List.getElem?_eq_getElem hjl').symm.trans hl0)]
    rw [hdr] at hR hK
    obtain ⟨u0, u1, u2, u3, u4, u5, hve⟩ := hok j v l hv hl0
    subst hve
    obtain rfl : l = () := rfl
    obtain ⟨b0, b1, b2, b3, b4, b5, rfl⟩ : ∃ b0 b1 b2 b3 b4 b5, e = [b0, b1, b2, b3, b4, b5] := by
      match e, hel with
      | [b0, b1, b2, b3, b4, b5], _ => exact ⟨b0, b1, b2, b3, b4, b5, rfl⟩
    simp only [List.map_cons, List.map_nil, List.cons.injEq, and_true] at hev
    simp only [List.all_cons, List.all_nil, Bool.and_true, Bool.and_eq_true] at heb
    obtain ⟨v0, v1, v2, v3, v4, v5⟩ := hev
    obtain ⟨w0, w1, w2, w3, w4, w5⟩ := heb
    obtain rfl := bare_imm w0 v0
    obtain rfl := bare_imm w1 v1
    obtain rfl := bare_imm w2 v2
    obtain rfl := bare_imm w3 v3
    obtain rfl := bare_imm w4 v4
    obtain rfl := bare_imm w5 v5
    have hnd1 := fpE_nodupL (by rw [hs.fp]; exact hnd') he
    have hfpe : ∀ b ∈ fpL [.imm u0, .imm u1, .imm u2, .imm u3, .imm u4, .imm u5], b ∈ bs' := fun b hb => by rw [← hs.fp]; exact fp_mem he hb
    obtain ⟨E0, hE0⟩ : ∃ E0, E0 = E := ⟨_, rfl⟩
    have l0_ : j < E0.length := by rw [hE0]; exact hjl
    have h0_ := he
    have s0_ : E0 = E.set j [.imm u0, .imm u1, .imm u2, .imm u3, .imm u4, .imm u5] := hE0.trans (set_same he).symm
    rw [← hE0] at h0_ ⊢
    have ez : g .w .add .i64 z 1 = z + 1 := by rw [goAdd hg, wrap_small _ (by omega)]
    have hmu : (lenI V).toNat - (z + 1).toNat < (lenI V).toNat - z.toNat := by omega
    have hend := endMkAsked_le (ls.drop (z + 1).toNat) (nxMkAsked kc )
    have hK1 : endMkAsked (nxMkAsked kc ) (ls.drop (z + 1).toNat) ≤ 1152921504606846976 := by rw [show endMkAsked (nxMkAsked kc ) (ls.drop (z + 1).toNat) = endMkAsked k0 ls from hK.symm]; exact hk1
    have hkb : kc + 6 ≤ 1152921504606846976 := by rw [← nxMkAsked_eq]; exact Int.le_trans hend hK1
    obtain ⟨q0, hq0⟩ : ∃ q, q = kc + 1 := ⟨_, rfl⟩
    obtain ⟨q1, hq1⟩ : ∃ q, q = kc + 2 := ⟨_, rfl⟩
    obtain ⟨q2, hq2⟩ : ∃ q, q = kc + 3 := ⟨_, rfl⟩
    obtain ⟨q3, hq3⟩ : ∃ q, q = kc + 4 := ⟨_, rfl⟩
    obtain ⟨q4, hq4⟩ : ∃ q, q = kc + 5 := ⟨_, rfl⟩
    obtain ⟨q5, hq5⟩ : ∃ q, q = kc + 6 := ⟨_, rfl⟩
    obtain ⟨hnx, g_kc⟩ := numsAsked hkc hkb hq5
    clear hkb hend hK1
    have e0 := q_add hg g_kc.1 g_kc.2 (Int.add_zero _).symm hq0 rfl (by decide) (by decide)
    have e1 := q_add hg g_kc.1 g_kc.2 hq0 hq1 rfl (by decide) (by decide)
    have e2 := q_add hg g_kc.1 g_kc.2 hq1 hq2 rfl (by decide) (by decide)
    have e3 := q_add hg g_kc.1 g_kc.2 hq2 hq3 rfl (by decide) (by decide)
    have e4 := q_add hg g_kc.1 g_kc.2 hq3 hq4 rfl (by decide) (by decide)
    have e5 := q_add hg g_kc.1 g_kc.2 hq4 hq5 rfl (by decide) (by decide)
    obtain ⟨t5, ht5⟩ : ∃ t, t = m3 q4 := ⟨_, rfl⟩
    have m5 : g .q .eql (g .w .rem .i64 q4 3) 0 = t5 := by rw [ht5, goRem hg, goEql hg]; rfl
    refine goYt hg h0 hj l0_ ?_
    cbv
    refine ⟨_, h0_, ?_⟩
    cbv
    generalize hG1 : g .st _ _ _ = E1
    generalize hX : putC _ _ _ = x at hG1
    cbv at hX
    subst hX
    obtain ⟨s1_, h1_, l1_⟩ := st_step hg hG1 s0_ hjl
    clear hG1 s0_ h0_ l0_
    rw [e0]
    cbv
    refine goYt hg h0 hj l1_ ?_
    cbv
    refine ⟨_, h1_, ?_⟩
    cbv
    generalize hG2 : g .st _ _ _ = E2
    generalize hX : putC _ _ _ = x at hG2
    cbv at hX
    subst hX
    obtain ⟨s2_, h2_, l2_⟩ := st_step hg hG2 s1_ hjl
    clear hG2 s1_ h1_ l1_
    rw [e1]
    cbv
    refine goYt hg h0 hj l2_ ?_
    cbv
    refine ⟨_, h2_, ?_⟩
    cbv
    generalize hG3 : g .st _ _ _ = E3
    generalize hX : putC _ _ _ = x at hG3
    cbv at hX
    subst hX
    obtain ⟨s3_, h3_, l3_⟩ := st_step hg hG3 s2_ hjl
    clear hG3 s2_ h2_ l2_
    rw [e2]
    cbv
    refine goYt hg h0 hj l3_ ?_
    cbv
    refine ⟨_, h3_, ?_⟩
    cbv
    generalize hG4 : g .st _ _ _ = E4
    generalize hX : putC _ _ _ = x at hG4
    cbv at hX
    subst hX
    obtain ⟨s4_, h4_, l4_⟩ := st_step hg hG4 s3_ hjl
    clear hG4 s3_ h3_ l3_
    rw [e3]
    cbv
    refine goYt hg h0 hj l4_ ?_
    cbv
    refine ⟨_, h4_, ?_⟩
    cbv
    generalize hG5 : g .st _ _ _ = E5
    generalize hX : putC _ _ _ = x at hG5
    cbv at hX
    subst hX
    obtain ⟨s5_, h5_, l5_⟩ := st_step hg hG5 s4_ hjl
    clear hG5 s4_ h4_ l4_
    rw [e4]
    cbv
    refine goNZ hg (by decide) ?_
    cbv
    rw [m5]
    cbv
    refine goYt hg h0 hj l5_ ?_
    cbv
    refine ⟨_, h5_, ?_⟩
    cbv
    generalize hG6 : g .st _ _ _ = E6
    generalize hX : putC _ _ _ = x at hG6
    cbv at hX
    subst hX
    obtain ⟨s6_, h6_, l6_⟩ := st_step hg hG6 s5_ hjl
    clear hG6 s5_ h5_ l5_
    rw [e5]
    cbv
    rw [ez]
    rw [s6_]
    have hs' := hs.step (r := mkRowAsked kc ) hj hc he (e' := [.imm (.int .i64 kc), .imm (.int .i64 q0), .imm (.int .i64 q1), .imm (.int .i64 q2), .imm (.int .i64 q3), .imm (.bool t5)]) (rowAsked_eq  ht5 hq0 hq1 hq2 hq3 hq4 hq5) rfl rfl rfl
    rw [hB]
    refine ⟨(z + 1, q5, _), ⟨_, hs', ?_, ?_, by simp only; rw [hnx]; exact Int.le_trans hkc (by have := endMkAsked_le [()] kc; exact this)⟩, hmu, Wk.weak (wk1 ⟨⟨_, rfl, rfl, bare_plainE hs'.bare⟩, trivial⟩ ⟨rfl, rfl, rfl, trivial⟩)⟩
    · simp only
      rw [hnx, List.append_assoc]
      exact hR
    · simp only
      rw [hnx]
      exact hK
end Go.Proofs.YtenbloaopcfdlaaGreat
namespace Go.Proofs.YtenbloaopcfdlaaGreat
open Go.ChangeShapes Go.WideShapes Go.ChangeAt Go.RowKit Am
set_option linter.unusedVariables false
set_option linter.unusedSimpArgs false
set_option maxRecDepth 100000
def mkRowMemo (k : Int) (l0 : Nat) : List AC := [.imm (.int .i64 (k)), .imm (.int .i64 (k + 1)), .imm (.int .i64 (k + 2)), .imm (.int .i64 (k + 3)), .imm (.int .i64 (k + 4)), .imm (.bool (m3 (k + 5))), .imm (.int .i64 (k + 6)), .imm (.int .i64 (k + 7)), .imm (.int .i64 (k + 8)), .view (vw GFrame.c (marksFrame (k + 9) l0))]
def nxMkMemo (k : Int) (l0 : Nat) : Int := k + 9 + 5 * ((l0 : Nat) : Int)
theorem nxMkMemo_eq (k : Int) (l0 : Nat) : nxMkMemo k l0 = k + 9 + 5 * ((l0 : Nat) : Int) := by unfold nxMkMemo; omega
def mkRowsMemo : Int → List (Nat) → List (List AC)
  | _, [] => []
  | k, l0 :: ls => mkRowMemo k l0 :: mkRowsMemo (nxMkMemo k l0) ls
def endMkMemo : Int → List (Nat) → Int
  | k, [] => k
  | k, l0 :: ls => endMkMemo (nxMkMemo k l0) ls
theorem endMkMemo_le : ∀ (ls : List (Nat)) (k : Int), k ≤ endMkMemo k ls
  | [], k => Int.le_refl k
  | l0 :: ls, k => by have := endMkMemo_le ls (nxMkMemo k l0); unfold nxMkMemo at this; unfold endMkMemo nxMkMemo; omega
theorem mkRowsMemo_len : ∀ (ls : List (Nat)) (k : Int), (mkRowsMemo k ls).length = ls.length
  | [], k => rfl
  | l0 :: ls, k => by simp [mkRowsMemo, mkRowsMemo_len ls]
theorem mkRowsMemo_k : ∀ (ls : List (Nat)) (k : Int), ∀ x ∈ mkRowsMemo k ls, x.length = 10
  | [], k, x, hx => by simp [mkRowsMemo] at hx
  | l0 :: ls, k, x, hx => by
    rcases List.mem_cons.1 hx with h | h
    · rw [h]; rfl
    · exact mkRowsMemo_k ls _ x h
theorem numsMemo {kc q8 q9 : Int} {l0 : Nat} (hkc : 0 ≤ kc) (hkb : kc + 9 + 5 * ((l0 : Nat) : Int) ≤ 1152921504606846976) (hq8 : q8 = kc + 9) (hq9 : q9 = q8 + 5 * ((l0 : Nat) : Int)) : q9 = nxMkMemo kc l0 ∧ (0 ≤ kc ∧ kc + 9 ≤ 1152921504606846976) ∧ (0 ≤ q9 ∧ q9 + 0 ≤ 1152921504606846976) := by
  unfold nxMkMemo
  refine ⟨?_, ?_, ?_⟩ <;> omega
def okMkMemo (x : List AC) (l : Nat) : Prop := ∃ u0 u1 u2 u3 u4 u5 u6 u7 u8 F0, x = [.imm u0, .imm u1, .imm u2, .imm u3, .imm u4, .imm u5, .imm u6, .imm u7, .imm u8, .view F0] ∧ (F0.length = l ∧ F0.length ≤ 1048576 ∧ immE F0 = true ∧ ∀ y ∈ F0, y.length = 5)
theorem rowMemo_eq {kc q0 q1 q2 q3 q4 q5 q6 q7 q8 q9 : Int} {l0 : Nat} {B0 : List Nat} {M0 : List (List AC)} {t5 : Bool} (hM0 : M0 = (vw GFrame.c (marksFrame q8 l0))) (ht5 : t5 = m3 q4) (hq0 : q0 = kc + 1) (hq1 : q1 = kc + 2) (hq2 : q2 = kc + 3) (hq3 : q3 = kc + 4) (hq4 : q4 = kc + 5) (hq5 : q5 = kc + 6) (hq6 : q6 = kc + 7) (hq7 : q7 = kc + 8) (hq8 : q8 = kc + 9) (hq9 : q9 = q8 + 5 * ((l0 : Nat) : Int)) :
    List.map vwC [.imm (.int .i64 kc), .imm (.int .i64 q0), .imm (.int .i64 q1), .imm (.int .i64 q2), .imm (.int .i64 q3), .imm (.bool t5), .imm (.int .i64 q5), .imm (.int .i64 q6), .imm (.int .i64 q7), .fv B0 M0] = mkRowMemo kc l0 := by
  subst hM0; subst ht5; subst hq9 hq8 hq7 hq6 hq5 hq4 hq3 hq2 hq1 hq0
  rfl
set_option maxHeartbeats 1600000 in
theorem laws_markMemoS_0 (k0 : Int) : PCon Tryz.prog 92 [.c (.view []), ai k0] fun res rows => res = .t (ai k0) ∧ rows = [] := by
  refine pcon_run4 ([(22, .hand)]) ([]) (c := body Tryz.f92) fits Tryz.func92 (by kernel_rfl) (by kernel_rfl) (by rfl) (by kernel_rfl) fun g eff hd F heff hhd hg hF => ?_
  cbv
  refine loop_runW4 [(22, .hand)] [] heff hhd hg fits (by kernel_rfl) (fun _ : Unit => [(0, .t (.c (.view []))), (1, .t (ai k0)), (5, .t (ai 0))]) (fun _ => []) (fun _ => True) (fun _ => 0) () trivial (Wk.weak (wk0 ⟨rfl, rfl, rfl, trivial⟩)) (fun s B _ hB => ?_)
  cbv
  have e : g .q .lss 0 (g .ln []) = false := by rw [goLss hg, goLn hg]; rfl
  rw [e]
  cbv
  exact fin0i hF rfl
set_option maxHeartbeats 8000000 in
theorem laws_markMemoS_m (k0 : Int) (bs : List Nat) (V : List (List AC)) (ls : List (Nat)) (hV : V.length = ls.length) (hl : V.length ≤ 1048576) (hok : ∀ (i : Nat) (x : List AC) (l : Nat), V[i]? = some x → ls[i]? = some l → okMkMemo x l) (hnd : bs.Nodup) (hk0 : 0 ≤ k0) (hk1 : endMkMemo k0 ls ≤ 1152921504606846976) :
    MCon Tryz.prog 92 [.c (.fv bs V), ai k0] [(bs, V, mkRowsMemo k0 ls)] (.int .i64 (endMkMemo k0 ls)) := by
  by_cases hne : V = []
  · subst hne
    obtain rfl : ls = [] := List.eq_nil_of_length_eq_zero (by simpa using hV.symm)
    exact mcon_nil (laws_markMemoS_0 k0)
  have dV : ∀ x ∈ V, x.all dat = true := fun x hx => by
    obtain ⟨i, hi, rfl⟩ := List.getElem_of_mem hx
    obtain ⟨u0, u1, u2, u3, u4, u5, u6, u7, u8, F0, he, -⟩ := hok i _ _ (List.getElem?_eq_getElem hi) (List.getElem?_eq_getElem (by omega))
    rw [he]; rfl
  have kV : ∀ x ∈ V, x.length = 10 := fun x hx => by
    obtain ⟨i, hi, rfl⟩ := List.getElem_of_mem hx
    obtain ⟨u0, u1, u2, u3, u4, u5, u6, u7, u8, F0, he, -⟩ := hok i _ _ (List.getElem?_eq_getElem hi) (List.getElem?_eq_getElem (by omega))
    rw [he]; rfl
  refine mcon_nest (by kernel_rfl) hne kV dV hnd (by rw [mkRowsMemo_len, hV]) fun bs' ty es hsub hnd' e1 e2 e3 e4 => ?_
  clear hnd hsub
  obtain ⟨β, hβ⟩ : ∃ β : BP, β = ⟨0, fun b => b ∈ bs'⟩ := ⟨_, rfl⟩
  have hex : ∀ b ∈ bs', β.ex b := by rw [hβ]; exact fun _ h => h
  rw [← hβ]
  clear hβ
  have hV0 : 0 ≤ lenI V := by rw [lenI_eq]; omega
  have hV20 : lenI V ≤ 1048576 := by rw [lenI_eq]; omega
  refine conx_run4 (h := [.rw ⟨ty, 10, es⟩]) [(22, .hand)] [] (c := body Tryz.f92) fits Tryz.func92 (by kernel_rfl) (by kernel_rfl) (bl (by rfl)) (by kernel_rfl) fun g eff hd F heff hhd hg hF => ?_
  cbv
  refine loop_runW4 [(22, .hand)] [] heff hhd hg fits (by kernel_rfl) (fun s : Int × Int × List (List AC) => [(0, .t (.c (.own 0))), (1, .t (ai s.2.1)), (5, .t (ai s.1))]) (fun s => [.rw ⟨ty, 10, s.2.2⟩]) (fun s => ∃ R, MkSt 10 V R s.2.2 s.1 bs' ∧ mkRowsMemo k0 ls = R ++ mkRowsMemo s.2.1 (ls.drop s.1.toNat) ∧ endMkMemo k0 ls = endMkMemo s.2.1 (ls.drop s.1.toNat) ∧ 0 ≤ s.2.1) (fun s => (lenI V).toNat - s.1.toNat)
    (0, k0, es) ⟨[], MkSt.start e1 e2 e3 e4, rfl, rfl, hk0⟩ (Wk.weak (wk1 ⟨⟨_, rfl, rfl, bare_plainE e3⟩, trivial⟩ ⟨rfl, rfl, rfl, trivial⟩)) (fun s B hs hB => ?_)
  clear e1 e2 e3 e4
  obtain ⟨z, kc, E⟩ := s
  obtain ⟨R, hs, hR, hK, hkc⟩ := hs
  simp only at hs hR hK hkc
  have h0 := hs.z0
  have h1 := hs.z1
  have hEV : lenI E = lenI V := by rw [lenI_eq, lenI_eq, hs.len]
  cbv
  cases hc : g .q .lss z (g .ln E)
  · rw [goLss hg, goLn hg, hEV, decide_eq_false_iff_not] at hc
    cbv
    have hall := hs.all hc
    have hdr : ls.drop z.toNat = [] := by rw [lenI_eq] at hc; exact List.drop_eq_nil_of_le (by omega)
    rw [hdr] at hR hK
    have hR' : mkRowsMemo k0 ls = R := by rw [hR]; exact List.append_nil R
    have hK' : endMkMemo k0 ls = kc := hK
    rw [hR', hK'] at hF
    exact finH1 hF (bare_plainE hs.bare) ⟨rfl, E, rfl, hall, hs.fp, hs.bare⟩
  · rw [goLss hg, goLn hg, hEV, decide_eq_true_eq] at hc
    cbv
    obtain ⟨j, hj⟩ : ∃ j, j = z.toNat := ⟨_, rfl⟩
    have hjV : j < V.length := by rw [hj]; rw [lenI_eq] at hc; omega
    have hjl : j < E.length := by rw [hs.len]; exact hjV
    obtain ⟨e, v, he, hv, hev, heb, hel⟩ := hs.at_ hj hc
    obtain ⟨l, hl0⟩ : ∃ l, ls[j]? = some l := ⟨_, List.getElem?_eq_getElem (by omega)⟩
    have hdr : ls.drop z.toNat = l :: ls.drop (z + 1).toNat := by
      rw [← hj, show (z + 1).toNat = j + 1 by omega]
      have hjl' : j < ls.length := by omega
      rw [List.drop_eq_getElem_cons hjl', ← Option.some.inj ((List.getElem?_eq_getElem hjl').symm.trans hl0)]
    rw [hdr] at hR hK
    obtain ⟨u0, u1, u2, u3, u4, u5, u6, u7, u8, F0, hve, ⟨hF0l, hF0s, hF0i, hF0k⟩⟩ := hok j v l hv hl0
    subst hve
    subst hF0l
    obtain ⟨l0, hl0'⟩ : ∃ l0, l0 = F0.length := ⟨_, rfl⟩
    rw [← hl0'] at hR hK
    obtain ⟨b0, b1, b2, b3, b4, b5, b6, b7, b8, b9, rfl⟩ : ∃ b0 b1 b2 b3 b4 b5 b6 b7 b8 b9, e = [b0, b1, b2, b3, b4, b5, b6, b7, b8, b9] := by
      match e, hel with
      | [b0, b1, b2, b3, b4, b5, b6, b7, b8, b9], _ => exact ⟨b0, b1, b2, b3, b4, b5, b6, b7, b8, b9, rfl⟩
    simp only [List.map_cons, List.map_nil, List.cons.injEq, and_true] at hev
    simp only [List.all_cons, List.all_nil, Bool.and_true, Bool.and_eq_true] at heb
    obtain ⟨v0, v1, v2, v3, v4, v5, v6, v7, v8, v9⟩ := hev
    obtain ⟨w0, w1, w2, w3, w4, w5, w6, w7, w8, w9⟩ := heb
    obtain rfl := bare_imm w0 v0
    obtain rfl := bare_imm w1 v1
    obtain rfl := bare_imm w2 v2
    obtain rfl := bare_imm w3 v3
    obtain rfl := bare_imm w4 v4
    obtain rfl := bare_imm w5 v5
    obtain rfl := bare_imm w6 v6
    obtain rfl := bare_imm w7 v7
    obtain rfl := bare_imm w8 v8
    obtain ⟨B0, rfl⟩ := bare_fv w9 v9
    have hnd1 := fpE_nodupL (by rw [hs.fp]; exact hnd') he
    have hfpe : ∀ b ∈ fpL [.imm u0, .imm u1, .imm u2, .imm u3, .imm u4, .imm u5, .imm u6, .imm u7, .imm u8, .fv B0 F0], b ∈ bs' := fun b hb => by rw [← hs.fp]; exact fp_mem he hb
    have hB0nd : B0.Nodup := by simpa [fpL, fpC] using hnd1
    obtain ⟨E0, hE0⟩ : ∃ E0, E0 = E := ⟨_, rfl⟩
    have l0_ : j < E0.length := by rw [hE0]; exact hjl
    have h0_ := he
    have s0_ : E0 = E.set j [.imm u0, .imm u1, .imm u2, .imm u3, .imm u4, .imm u5, .imm u6, .imm u7, .imm u8, .fv B0 F0] := hE0.trans (set_same he).symm
    rw [← hE0] at h0_ ⊢
    have ez : g .w .add .i64 z 1 = z + 1 := by rw [goAdd hg, wrap_small _ (by omega)]
    have hmu : (lenI V).toNat - (z + 1).toNat < (lenI V).toNat - z.toNat := by omega
    have hend := endMkMemo_le (ls.drop (z + 1).toNat) (nxMkMemo kc l0)
    have hK1 : endMkMemo (nxMkMemo kc l0) (ls.drop (z + 1).toNat) ≤ 1152921504606846976 := by rw [show endMkMemo (nxMkMemo kc l0) (ls.drop (z + 1).toNat) = endMkMemo k0 ls from hK.symm]; exact hk1
    have hkb : kc + 9 + 5 * ((l0 : Nat) : Int) ≤ 1152921504606846976 := by rw [← nxMkMemo_eq]; exact Int.le_trans hend hK1
    obtain ⟨q0, hq0⟩ : ∃ q, q = kc + 1 := ⟨_, rfl⟩
    obtain ⟨q1, hq1⟩ : ∃ q, q = kc + 2 := ⟨_, rfl⟩
    obtain ⟨q2, hq2⟩ : ∃ q, q = kc + 3 := ⟨_, rfl⟩
    obtain ⟨q3, hq3⟩ : ∃ q, q = kc + 4 := ⟨_, rfl⟩
    obtain ⟨q4, hq4⟩ : ∃ q, q = kc + 5 := ⟨_, rfl⟩
    obtain ⟨q5, hq5⟩ : ∃ q, q = kc + 6 := ⟨_, rfl⟩
    obtain ⟨q6, hq6⟩ : ∃ q, q = kc + 7 := ⟨_, rfl⟩
    obtain ⟨q7, hq7⟩ : ∃ q, q = kc + 8 := ⟨_, rfl⟩
    obtain ⟨q8, hq8⟩ : ∃ q, q = kc + 9 := ⟨_, rfl⟩
    obtain ⟨q9, hq9⟩ : ∃ q, q = q8 + 5 * ((l0 : Nat) : Int) := ⟨_, rfl⟩
    obtain ⟨hnx, g_kc, g_q9⟩ := numsMemo hkc hkb hq8 hq9
    clear hkb hend hK1
    have e0 := q_add hg g_kc.1 g_kc.2 (Int.add_zero _).symm hq0 rfl (by decide) (by decide)
    have e1 := q_add hg g_kc.1 g_kc.2 hq0 hq1 rfl (by decide) (by decide)
    have e2 := q_add hg g_kc.1 g_kc.2 hq1 hq2 rfl (by decide) (by decide)
    have e3 := q_add hg g_kc.1 g_kc.2 hq2 hq3 rfl (by decide) (by decide)
    have e4 := q_add hg g_kc.1 g_kc.2 hq3 hq4 rfl (by decide) (by decide)
    have e5 := q_add hg g_kc.1 g_kc.2 hq4 hq5 rfl (by decide) (by decide)
    obtain ⟨t5, ht5⟩ : ∃ t, t = m3 q4 := ⟨_, rfl⟩
    have m5 : g .q .eql (g .w .rem .i64 q4 3) 0 = t5 := by rw [ht5, goRem hg, goEql hg]; rfl
    have e6 := q_add hg g_kc.1 g_kc.2 hq5 hq6 rfl (by decide) (by decide)
    have e7 := q_add hg g_kc.1 g_kc.2 hq6 hq7 rfl (by decide) (by decide)
    have e8 := q_add hg g_kc.1 g_kc.2 hq7 hq8 rfl (by decide) (by decide)
    have r9 := q_bnd g_kc.1 g_kc.2 hq8 (by decide) (by decide)
    refine goYt hg h0 hj l0_ ?_
    cbv
    refine ⟨_, h0_, ?_⟩
    cbv
    generalize hG1 : g .st _ _ _ = E1
    generalize hX : putC _ _ _ = x at hG1
    cbv at hX
    subst hX
    obtain ⟨s1_, h1_, l1_⟩ := st_step hg hG1 s0_ hjl
    clear hG1 s0_ h0_ l0_
    rw [e0]
    cbv
    refine goYt hg h0 hj l1_ ?_
    cbv
    refine ⟨_, h1_, ?_⟩
    cbv
    generalize hG2 : g .st _ _ _ = E2
    generalize hX : putC _ _ _ = x at hG2
    cbv at hX
    subst hX
    obtain ⟨s2_, h2_, l2_⟩ := st_step hg hG2 s1_ hjl
    clear hG2 s1_ h1_ l1_
    rw [e1]
    cbv
    refine goYt hg h0 hj l2_ ?_
    cbv
    refine ⟨_, h2_, ?_⟩
    cbv
    generalize hG3 : g .st _ _ _ = E3
    generalize hX : putC _ _ _ = x at hG3
    cbv at hX
    subst hX
    obtain ⟨s3_, h3_, l3_⟩ := st_step hg hG3 s2_ hjl
    clear hG3 s2_ h2_ l2_
    rw [e2]
    cbv
    refine goYt hg h0 hj l3_ ?_
    cbv
    refine ⟨_, h3_, ?_⟩
    cbv
    generalize hG4 : g .st _ _ _ = E4
    generalize hX : putC _ _ _ = x at hG4
    cbv at hX
    subst hX
    obtain ⟨s4_, h4_, l4_⟩ := st_step hg hG4 s3_ hjl
    clear hG4 s3_ h3_ l3_
    rw [e3]
    cbv
    refine goYt hg h0 hj l4_ ?_
    cbv
    refine ⟨_, h4_, ?_⟩
    cbv
    generalize hG5 : g .st _ _ _ = E5
    generalize hX : putC _ _ _ = x at hG5
    cbv at hX
    subst hX
    obtain ⟨s5_, h5_, l5_⟩ := st_step hg hG5 s4_ hjl
    clear hG5 s4_ h4_ l4_
    rw [e4]
    cbv
    refine goNZ hg (by decide) ?_
    cbv
    rw [m5]
    cbv
    refine goYt hg h0 hj l5_ ?_
    cbv
    refine ⟨_, h5_, ?_⟩
    cbv
    generalize hG6 : g .st _ _ _ = E6
    generalize hX : putC _ _ _ = x at hG6
    cbv at hX
    subst hX
    obtain ⟨s6_, h6_, l6_⟩ := st_step hg hG6 s5_ hjl
    clear hG6 s5_ h5_ l5_
    rw [e5]
    cbv
    refine goYt hg h0 hj l6_ ?_
    cbv
    refine ⟨_, h6_, ?_⟩
    cbv
    generalize hG7 : g .st _ _ _ = E7
    generalize hX : putC _ _ _ = x at hG7
    cbv at hX
    subst hX
    obtain ⟨s7_, h7_, l7_⟩ := st_step hg hG7 s6_ hjl
    clear hG7 s6_ h6_ l6_
    rw [e6]
    cbv
    refine goYt hg h0 hj l7_ ?_
    cbv
    refine ⟨_, h7_, ?_⟩
    cbv
    generalize hG8 : g .st _ _ _ = E8
    generalize hX : putC _ _ _ = x at hG8
    cbv at hX
    subst hX
    obtain ⟨s8_, h8_, l8_⟩ := st_step hg hG8 s7_ hjl
    clear hG8 s7_ h7_ l7_
    rw [e7]
    cbv
    refine goYt hg h0 hj l8_ ?_
    cbv
    refine ⟨_, h8_, ?_⟩
    cbv
    generalize hG9 : g .st _ _ _ = E9
    generalize hX : putC _ _ _ = x at hG9
    cbv at hX
    subst hX
    obtain ⟨s9_, h9_, l9_⟩ := st_step hg hG9 s8_ hjl
    clear hG9 s8_ h8_ l8_
    rw [e8]
    cbv
    have hbare0 : ∀ x ∈ E9, x.all bareF = true := fun x hx => by
      rw [s9_] at hx
      rcases List.mem_or_eq_of_mem_set hx with h | h
      · exact hs.bare x h
      · rw [h]; rfl
    have hfp0 : fpE E9 = bs' := by rw [s9_]; exact (fpE_same he (by rfl)).trans hs.fp
    have hm0 := laws_markFrameS_n q8 B0 F0 hF0s hF0k hF0i hB0nd r9.1 r9.2
    rw [← hl0'] at hm0
    rw [← hq9] at hm0
    obtain ⟨M0, hM0⟩ : ∃ M, M = (vw GFrame.c (marksFrame q8 l0)) := ⟨_, rfl⟩
    rw [← hM0] at hm0
    refine hand_mark hg hhd fits 7 (by kernel_rfl) (fun mk hmk => ?_)
    cbv
    refine goYt hg h0 hj l9_ ?_
    cbv
    refine ⟨_, h9_, ?_⟩
    cbv
    subst hmk
    obtain ⟨E10, hE10⟩ : ∃ E', E' = E9.set j [.imm (.int .i64 kc), .imm (.int .i64 q0), .imm (.int .i64 q1), .imm (.int .i64 q2), .imm (.int .i64 q3), .imm (.bool t5), .imm (.int .i64 q5), .imm (.int .i64 q6), .imm (.int .i64 q7), .fv B0 M0] := ⟨_, rfl⟩
    obtain ⟨s10_, h10_, l10_⟩ := set_step hE10 s9_ hjl
    refine ⟨_, _, _, [(B0, F0, M0)], _, [(0, .t (.c (.own 0))), (1, .t (ai q8)), (5, .t (ai z))], [.rw ⟨ty, 10, E10⟩], rfl, rfl, rfl, rfl, rfl, hm0, fun u hu b hb => ?_, fun u hu => ?_, ⟨.inr (.inl ⟨rfl, trivial⟩), .inr (.inl ⟨rfl, trivial⟩), .inr (.inl ⟨rfl, trivial⟩), trivial⟩, ⟨?_, trivial⟩, ?_⟩
    · rw [List.mem_singleton.1 hu] at hb
      exact hex b (hfpe b (by simp [fpL, fpC]; first | exact hb | exact .inl hb | exact .inr hb))
    · rw [List.mem_singleton.1 hu]
      exact ⟨_, List.mem_cons_self .., List.mem_singleton.2 rfl⟩
    · rw [hE10]
      refine sf_row h9_ hbare0 (by rw [hfp0]; exact hnd') (fun u hu b hb => ?_) ⟨.inr (.inl ⟨rfl, trivial⟩), .inr (.inl ⟨rfl, trivial⟩), .inr (.inl ⟨rfl, trivial⟩), .inr (.inl ⟨rfl, trivial⟩), .inr (.inl ⟨rfl, trivial⟩), .inr (.inl ⟨rfl, trivial⟩), .inr (.inl ⟨rfl, trivial⟩), .inr (.inl ⟨rfl, trivial⟩), .inr (.inl ⟨rfl, trivial⟩), .inr (.inr ⟨_, List.mem_singleton.2 rfl, rfl, rfl⟩), trivial⟩
      rw [List.mem_singleton.1 hu] at hb
      simp [fpL, fpC]; first | exact hb | exact .inl hb | exact .inr hb
    cbv
    clear h9_ s9_ l9_
    rw [ez]
    rw [s10_]
    have hs' := hs.step (r := mkRowMemo kc l0) hj hc he (e' := [.imm (.int .i64 kc), .imm (.int .i64 q0), .imm (.int .i64 q1), .imm (.int .i64 q2), .imm (.int .i64 q3), .imm (.bool t5), .imm (.int .i64 q5), .imm (.int .i64 q6), .imm (.int .i64 q7), .fv B0 M0]) (rowMemo_eq hM0 ht5 hq0 hq1 hq2 hq3 hq4 hq5 hq6 hq7 hq8 hq9) rfl rfl rfl
    rw [hB]
    refine ⟨(z + 1, q9, _), ⟨_, hs', ?_, ?_, by simp only; rw [hnx]; exact Int.le_trans hkc (by have := endMkMemo_le [l0] kc; exact this)⟩, hmu, Wk.weak (wk1 ⟨⟨_, rfl, rfl, bare_plainE hs'.bare⟩, trivial⟩ ⟨rfl, rfl, rfl, trivial⟩)⟩
    · simp only
      rw [hnx, List.append_assoc]
      exact hR
    · simp only
      rw [hnx]
      exact hK
end Go.Proofs.YtenbloaopcfdlaaGreat
namespace Go.Proofs.YtenbloaopcfdlaaGreat
open Go.ChangeShapes Go.WideShapes Go.ChangeAt Go.RowKit Am
set_option linter.unusedVariables false
set_option linter.unusedSimpArgs false
set_option maxRecDepth 100000
set_option maxHeartbeats 4000000 in
theorem laws_markKept_m (k0 : Int) (b0 b1 : List Nat) (V0 V1 : List (List AC)) (ls0 : List Nat) (ls1 : List Unit) (hV0 : V0.length = ls0.length) (hl0 : V0.length ≤ 1048576) (hok0 : ∀ (i : Nat) (x : List AC) (l : Nat), V0[i]? = some x → ls0[i]? = some l → okMkMemo x l)
    (hV1 : V1.length = ls1.length) (hl1 : V1.length ≤ 1048576) (hok1 : ∀ (i : Nat) (x : List AC) (l : Unit), V1[i]? = some x → ls1[i]? = some l → okMkAsked x l) (hnd : (b0 ++ b1).Nodup) (hk0 : 0 ≤ k0) (hk1 : endMkAsked (endMkMemo k0 ls0) ls1 ≤ 1152921504606846976) :
    MCon Tryz.prog 48 [.agg [.fv b0 V0, .fv b1 V1], ai k0] [(b0, V0, mkRowsMemo k0 ls0), (b1, V1, mkRowsAsked (endMkMemo k0 ls0) ls1)] (.int .i64 (endMkAsked (endMkMemo k0 ls0) ls1)) := by
  have hle := endMkAsked_le ls1 (endMkMemo k0 ls0)
  have hle0 := endMkMemo_le ls0 k0
  obtain ⟨hn0, hn1, hdj⟩ := List.nodup_append.1 hnd
  have hm0 := laws_markMemoS_m k0 b0 V0 ls0 hV0 hl0 hok0 hn0 hk0 (Int.le_trans hle hk1)
  have hm1 := laws_markAskedS_m (endMkMemo k0 ls0) b1 V1 ls1 hV1 hl1 hok1 hn1 (Int.le_trans hk0 hle0) hk1
  have kk0 : ∃ k : Nat, (∀ x ∈ V0, x.length = k) ∧ ∀ x ∈ mkRowsMemo k0 ls0, x.length = k := ⟨10, fun x hx => by
    obtain ⟨i, hi, rfl⟩ := List.getElem_of_mem hx
    obtain ⟨u0, u1, u2, u3, u4, u5, u6, u7, u8, F0, he, -⟩ := hok0 i _ _ (List.getElem?_eq_getElem hi) (List.getElem?_eq_getElem (by omega))
    rw [he]; rfl, mkRowsMemo_k ls0 k0⟩
  have kk1 : ∃ k : Nat, (∀ x ∈ V1, x.length = k) ∧ ∀ x ∈ mkRowsAsked (endMkMemo k0 ls0) ls1, x.length = k := ⟨6, fun x hx => by
    obtain ⟨i, hi, rfl⟩ := List.getElem_of_mem hx
    obtain ⟨u0, u1, u2, u3, u4, u5, he⟩ := hok1 i _ _ (List.getElem?_eq_getElem hi) (List.getElem?_eq_getElem (by omega))
    rw [he]; rfl, mkRowsAsked_k ls1 _⟩
  have ln0 : (mkRowsMemo k0 ls0).length = V0.length := by rw [mkRowsMemo_len, hV0]
  have ln1 : (mkRowsAsked (endMkMemo k0 ls0) ls1).length = V1.length := by rw [mkRowsAsked_len, hV1]
  clear hok0 hok1 hle hle0
  obtain ⟨R0, hR0⟩ : ∃ R, R = mkRowsMemo k0 ls0 := ⟨_, rfl⟩
  obtain ⟨R1, hR1⟩ : ∃ R, R = mkRowsAsked (endMkMemo k0 ls0) ls1 := ⟨_, rfl⟩
  obtain ⟨K1, hK1⟩ : ∃ K, K = endMkMemo k0 ls0 := ⟨_, rfl⟩
  obtain ⟨K2, hK2⟩ : ∃ K, K = endMkAsked (endMkMemo k0 ls0) ls1 := ⟨_, rfl⟩
  rw [← hR1, ← hK2, ← hK1] at hm1
  rw [← hR0, ← hK1] at hm0
  rw [← hR0] at kk0 ln0
  rw [← hR1] at kk1 ln1
  rw [← hR0, ← hR1, ← hK2]
  clear hR0 hR1 hK1 hK2 hk1
  refine mcon_wrap (fun u hu => ?_) ?_
  · rcases List.mem_cons.1 hu with rfl | hu
    · exact ⟨kk0, ln0⟩
    · rw [List.mem_singleton.1 hu]; exact ⟨kk1, ln1⟩
  obtain ⟨β, hβ⟩ : ∃ β : BP, β = ⟨0, fun b => ∃ u ∈ [(b0, V0, R0), (b1, V1, R1)], b ∈ u.1⟩ := ⟨_, rfl⟩
  have hx0 : ∀ b ∈ b0, β.ex b := by rw [hβ]; exact fun b hb => ⟨_, List.mem_cons_self .., hb⟩
  have hx1 : ∀ b ∈ b1, β.ex b := by rw [hβ]; exact fun b hb => ⟨_, List.mem_cons_of_mem _ (List.mem_cons_self ..), hb⟩
  rw [← hβ]
  clear hβ
  refine conx_run4 (h := []) [(1, .hand), (2, .hand)] [] (c := body Tryz.f48) fits Tryz.func48 (by kernel_rfl) (by kernel_rfl) (bl (by rfl)) (by kernel_rfl) fun g eff hd F heff hhd hg hF => ?_
  cbv
  refine hand_mark hg hhd fits 3 (by kernel_rfl) (fun mk hmk => ?_)
  cbv
  subst hmk
  refine ⟨_, _, _, [(b0, V0, R0)], _, [(2, .t (.c (.ptr 0 0 0))), (4, .t (ai 0))], [.bx 47 2 [.fv b0 R0, .fv b1 V1]], rfl, rfl, rfl, rfl, rfl, hm0, fun u hu b hb => hx0 b (by rw [List.mem_singleton.1 hu] at hb; exact hb), fun u hu => ?_, ⟨.inr (.inl ⟨rfl, trivial⟩), .inr (.inl ⟨rfl, trivial⟩), trivial⟩, ⟨⟨rfl, rfl, .inr (.inr ⟨_, List.mem_singleton.2 rfl, rfl, rfl⟩), .inr (.inl ⟨rfl, fun b hb u hu hbu => ?_⟩), trivial⟩, trivial⟩, ?_⟩
  · rw [List.mem_singleton.1 hu]; exact ⟨_, List.mem_cons_self .., List.mem_singleton.2 rfl⟩
  · rw [List.mem_singleton.1 hu] at hbu; exact hdj b hbu b hb rfl
  cbv
  refine hand_mark hg hhd fits 3 (by kernel_rfl) (fun mk hmk => ?_)
  cbv
  subst hmk
  refine ⟨_, _, _, [(b1, V1, R1)], _, [(2, .t (.c (.ptr 0 0 0))), (4, .t (ai 0))], [.bx 47 2 [.fv b0 R0, .fv b1 R1]], rfl, rfl, rfl, rfl, rfl, hm1, fun u hu b hb => hx1 b (by rw [List.mem_singleton.1 hu] at hb; exact hb), fun u hu => ?_, ⟨.inr (.inl ⟨rfl, trivial⟩), .inr (.inl ⟨rfl, trivial⟩), trivial⟩, ⟨⟨rfl, rfl, .inr (.inl ⟨rfl, fun b hb u hu hbu => ?_⟩), .inr (.inr ⟨_, List.mem_singleton.2 rfl, rfl, rfl⟩), trivial⟩, trivial⟩, ?_⟩
  · rw [List.mem_singleton.1 hu]; exact ⟨_, List.mem_cons_self .., List.mem_singleton.2 rfl⟩
  · rw [List.mem_singleton.1 hu] at hbu; exact hdj b hb b hbu rfl
  cbv
  refine finW hF 0 _ _ [.fv b0 R0, .fv b1 R1] rfl rfl (fun u hu => ?_)
  rcases List.mem_cons.1 hu with rfl | hu
  · exact List.mem_cons_self ..
  · rw [List.mem_singleton.1 hu]; exact List.mem_cons_of_mem _ (List.mem_cons_self ..)
end Go.Proofs.YtenbloaopcfdlaaGreat
namespace Go.Proofs.YtenbloaopcfdlaaGreat
open Go.ChangeShapes Go.WideShapes Go.ChangeAt Go.RowKit Am
set_option linter.unusedVariables false
set_option linter.unusedSimpArgs false
set_option maxRecDepth 100000
theorem goNV {P : Program} {n0 N : Nat} {β : BP} {g : Gd} (hg : g = G0 P n0 N) {V : List (List AC)} {k by_ : Nat} {q : Prop} (hk : ∀ y ∈ V, y.length = k) (hb : by_ ≤ 65536) (hl : V.length ≤ 1048576) (hq : q) :
    g .N ((∀ x, x ∈ V → x.length = k) ∧ V.length * by_ ≤ 140737488355328 ∧ V.length ≤ 4611686018427387904) q :=
  goN hg ⟨hk, Nat.le_trans (Nat.mul_le_mul hl hb) (by decide), by omega⟩ hq
theorem goNV0 {P : Program} {n0 N : Nat} {β : BP} {g : Gd} (hg : g = G0 P n0 N) {V : List (List AC)} {t k k' by_ : Nat} {q : Prop} (hk : ∀ y ∈ V, y.length = k) (hb : by_ ≤ 65536) (hl : V.length ≤ 1048576) (hq : q) :
    g .N ((∀ x, x ∈ V → x.length = k) ∧ ((AB.mk t k' []).es.length + V.length) * by_ ≤ 140737488355328 ∧ (AB.mk t k' []).es.length + V.length ≤ 4611686018427387904) q :=
  goN hg ⟨hk, Nat.le_trans (Nat.mul_le_mul (show (0 : Nat) + V.length ≤ 1048576 by omega) hb) (by decide), by show 0 + V.length ≤ _; omega⟩ hq
section
variable {P : Program} {n0 N : Nat} {g : Gd}
end
theorem impl_copyFrames_a (xs : List GFrame) (hx : xs.length ≤ 1048576) : PCon Tryz.prog 85 [.c (.view (vw GFrame.c xs))] fun res rows => res = .t (.c (.own 0)) ∧ rows = [⟨128, 5, vw GFrame.c xs⟩] := by
  obtain ⟨V, hV⟩ : ∃ V, V = vw GFrame.c xs := ⟨_, rfl⟩
  have hVl : V.length = xs.length := by rw [hV, vw_length]
  have iV : immE V = true := by rw [hV]; exact vw_imm _ _
  have kV : ∀ y ∈ V, y.length = 5 := by rw [hV]; exact vw_k (c := GFrame.c) (k := 5) fun _ => rfl
  have dV : ∀ y ∈ V, y.all dat = true := by rw [hV]; exact vw_dat
  rw [← hV]
  refine pcon_run (c := body Tryz.f85) fits Tryz.func85 (by kernel_rfl) (by kernel_rfl) (by rfl) (by kernel_rfl) fun g F hg hF => ?_
  cbv
  refine goNV hg kV (by decide) (by rw [hVl]; exact hx) ?_
  cbv
  rw [goAp hg, List.nil_append]
  exact finRow hF rfl (imm_plainE iV)
end Go.Proofs.YtenbloaopcfdlaaGreat
namespace Go.Proofs.YtenbloaopcfdlaaGreat
open Go.ChangeShapes Go.WideShapes Go.ChangeAt Go.RowKit Am
set_option linter.unusedVariables false
set_option linter.unusedSimpArgs false
set_option maxRecDepth 100000
section
variable {P : Program} {n0 N : Nat} {g : Gd}
end
theorem endMkMemo_bound : ∀ (ls : List Nat) (k : Int), (∀ l ∈ ls, l ≤ 1048576) → endMkMemo k ls ≤ k + 5242889 * (ls.length : Int)
  | [], k, _ => by simp [endMkMemo]
  | l :: ls, k, h => by
    have h1 := endMkMemo_bound ls (nxMkMemo k l) fun l' hl => h l' (List.mem_cons_of_mem _ hl)
    have h2 := h l (List.mem_cons_self ..)
    unfold endMkMemo
    unfold nxMkMemo at h1 ⊢
    simp only [List.length_cons]
    omega
theorem endMkAsked_bound : ∀ (ls : List Unit) (k : Int), endMkAsked k ls ≤ k + 6 * (ls.length : Int)
  | [], k => by simp [endMkAsked]
  | () :: ls, k => by
    have h1 := endMkAsked_bound ls (nxMkAsked k)
    unfold endMkAsked
    unfold nxMkAsked at h1 ⊢
    simp only [List.length_cons]
    omega
end Go.Proofs.YtenbloaopcfdlaaGreat
