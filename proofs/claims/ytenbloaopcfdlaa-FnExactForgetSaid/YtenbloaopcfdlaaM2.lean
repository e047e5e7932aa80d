/- Marks on nested data: Asked. -/
import Derived.Test.YtenbloaopcfdlaaM1
namespace Go.Proofs.Ytenbloaopcfdlaa
open Go.ChangeShapes Go.WideShapes Go.ChangeAt Go.RowKit Am
set_option linter.unusedVariables false
set_option linter.unusedSimpArgs false
set_option maxRecDepth 100000

def mkRowAsked (k : Int)  : List AC := [.imm (.int .i64 (k)), .imm (.int .i64 (k + 1)), .imm (.int .i64 (k + 2)), .imm (.int .i64 (k + 3)), .imm (.int .i64 (k + 4)), .imm (.bool (m3 (k + 5)))]
def nxMkAsked (k : Int)  : Int := k + 6
theorem nxMkAsked_eq (k : Int)  : nxMkAsked k  = k + 6 := by unfold nxMkAsked; omega
def mkRowsAsked : Int → List (Unit) → List (List AC)
  | _, [] => []
  | k, () :: ls => mkRowAsked k  :: mkRowsAsked (nxMkAsked k ) ls
def endMkAsked : Int → List (Unit) → Int
  | k, [] => k
  | k, () :: ls => endMkAsked (nxMkAsked k ) ls
theorem endMkAsked_le : ∀ (ls : List (Unit)) (k : Int), k ≤ endMkAsked k ls
  | [], k => Int.le_refl k
  | () :: ls, k => by have := endMkAsked_le ls (nxMkAsked k ); unfold nxMkAsked at this; unfold endMkAsked nxMkAsked; omega
theorem mkRowsAsked_len : ∀ (ls : List (Unit)) (k : Int), (mkRowsAsked k ls).length = ls.length
  | [], k => rfl
  | () :: ls, k => by simp [mkRowsAsked, mkRowsAsked_len ls]
theorem mkRowsAsked_k : ∀ (ls : List (Unit)) (k : Int), ∀ x ∈ mkRowsAsked k ls, x.length = 6
  | [], k, x, hx => by simp [mkRowsAsked] at hx
  | () :: ls, k, x, hx => by
    rcases List.mem_cons.1 hx with h | h
    · rw [h]; rfl
    · exact mkRowsAsked_k ls _ x h
theorem numsAsked {kc q5 : Int} (hkc : 0 ≤ kc) (hkb : kc + 6 ≤ 1152921504606846976) (hq5 : q5 = kc + 6) : q5 = nxMkAsked kc  ∧ (0 ≤ kc ∧ kc + 6 ≤ 1152921504606846976) := by
  unfold nxMkAsked
  refine ⟨?_, ?_⟩ <;> omega
/-- A row of this shape. -/
def okMkAsked (x : List AC) (_ : Unit) : Prop := ∃ u0 u1 u2 u3 u4 u5, x = [.imm u0, .imm u1, .imm u2, .imm u3, .imm u4, .imm u5]
theorem rowAsked_eq {kc q0 q1 q2 q3 q4 q5 : Int} {t5 : Bool}  (ht5 : t5 = m3 q4) (hq0 : q0 = kc + 1) (hq1 : q1 = kc + 2) (hq2 : q2 = kc + 3) (hq3 : q3 = kc + 4) (hq4 : q4 = kc + 5) (hq5 : q5 = kc + 6) :
    List.map vwC [.imm (.int .i64 kc), .imm (.int .i64 q0), .imm (.int .i64 q1), .imm (.int .i64 q2), .imm (.int .i64 q3), .imm (.bool t5)] = mkRowAsked kc  := by
  subst ht5; subst hq5 hq4 hq3 hq2 hq1 hq0
  rfl
set_option maxHeartbeats 1600000 in
theorem laws_markAskedS_0 (k0 : Int) : PCon Try.prog 39 [.c (.view []), ai k0] fun res rows => res = .t (ai k0) ∧ rows = [] := by
  refine pcon_run4 ([]) ([]) (c := body Try.f39) fits Try.func39 (by kernel_rfl) (by kernel_rfl) (by rfl) (by kernel_rfl) fun g eff hd F heff hhd hg hF => ?_
  cbv
  refine loop_runW4 [] [] heff hhd hg fits (by kernel_rfl) (fun _ : Unit => [(0, .t (.c (.view []))), (1, .t (ai k0)), (5, .t (ai 0))]) (fun _ => []) (fun _ => True) (fun _ => 0) () trivial (Wk.weak (wk0 ⟨rfl, rfl, rfl, trivial⟩)) (fun s B _ hB => ?_)
  cbv
  have e : g .q .lss 0 (g .ln []) = false := by rw [goLss hg, goLn hg]; rfl
  rw [e]
  cbv
  exact fin0i hF rfl
set_option maxHeartbeats 8000000 in
theorem laws_markAskedS_m (k0 : Int) (bs : List Nat) (V : List (List AC)) (ls : List (Unit)) (hV : V.length = ls.length) (hl : V.length ≤ 1048576) (hok : ∀ (i : Nat) (x : List AC) (l : Unit), V[i]? = some x → ls[i]? = some l → okMkAsked x l) (hnd : bs.Nodup) (hk0 : 0 ≤ k0) (hk1 : endMkAsked k0 ls ≤ 1152921504606846976) :
    MCon Try.prog 39 [.c (.fv bs V), ai k0] [(bs, V, mkRowsAsked k0 ls)] (.int .i64 (endMkAsked k0 ls)) := by
  by_cases hne : V = []
  · subst hne
    obtain rfl : ls = [] := List.eq_nil_of_length_eq_zero (by simpa using hV.symm)
    exact mcon_nil (laws_markAskedS_0 k0)
  have dV : ∀ x ∈ V, x.all dat = true := fun x hx => by
    obtain ⟨i, hi, rfl⟩ := List.getElem_of_mem hx
    obtain ⟨u0, u1, u2, u3, u4, u5, he⟩ := hok i _ _ (List.getElem?_eq_getElem hi) (List.getElem?_eq_getElem (by omega))
    rw [he]; rfl
  have kV : ∀ x ∈ V, x.length = 6 := fun x hx => by
    obtain ⟨i, hi, rfl⟩ := List.getElem_of_mem hx
    obtain ⟨u0, u1, u2, u3, u4, u5, he⟩ := hok i _ _ (List.getElem?_eq_getElem hi) (List.getElem?_eq_getElem (by omega))
    rw [he]; rfl
  refine mcon_nest (by kernel_rfl) hne kV dV hnd (by rw [mkRowsAsked_len, hV]) fun bs' ty es hsub hnd' e1 e2 e3 e4 => ?_
  clear hnd hsub
  obtain ⟨β, hβ⟩ : ∃ β : BP, β = ⟨0, fun b => b ∈ bs'⟩ := ⟨_, rfl⟩
  have hex : ∀ b ∈ bs', β.ex b := by rw [hβ]; exact fun _ h => h
  rw [← hβ]
  clear hβ
  have hV0 : 0 ≤ lenI V := by rw [lenI_eq]; omega
  have hV20 : lenI V ≤ 1048576 := by rw [lenI_eq]; omega
  refine conx_run4 (h := [.rw ⟨ty, 6, es⟩]) [] [] (c := body Try.f39) fits Try.func39 (by kernel_rfl) (by kernel_rfl) (bl (by rfl)) (by kernel_rfl) fun g eff hd F heff hhd hg hF => ?_
  cbv
  refine loop_runW4 [] [] heff hhd hg fits (by kernel_rfl) (fun s : Int × Int × List (List AC) => [(0, .t (.c (.own 0))), (1, .t (ai s.2.1)), (5, .t (ai s.1))]) (fun s => [.rw ⟨ty, 6, s.2.2⟩]) (fun s => ∃ R, MkSt 6 V R s.2.2 s.1 bs' ∧ mkRowsAsked k0 ls = R ++ mkRowsAsked s.2.1 (ls.drop s.1.toNat) ∧ endMkAsked k0 ls = endMkAsked s.2.1 (ls.drop s.1.toNat) ∧ 0 ≤ s.2.1) (fun s => (lenI V).toNat - s.1.toNat)
    (0, k0, es) ⟨[], MkSt.start e1 e2 e3 e4, rfl, rfl, hk0⟩ (Wk.weak (wk1 ⟨⟨_, rfl, rfl, bare_plainE e3⟩, trivial⟩ ⟨rfl, rfl, rfl, trivial⟩)) (fun s B hs hB => ?_)
  clear e1 e2 e3 e4
  obtain ⟨z, kc, E⟩ := s
  obtain ⟨R, hs, hR, hK, hkc⟩ := hs
  simp only at hs hR hK hkc
  have h0 := hs.z0
  have h1 := hs.z1
  have hEV : lenI E = lenI V := by rw [lenI_eq, lenI_eq, hs.len]
  cbv
  cases hc : g .q .lss z (g .ln E)
  · rw [goLss hg, goLn hg, hEV, decide_eq_false_iff_not] at hc
    cbv
    have hall := hs.all hc
    have hdr : ls.drop z.toNat = [] := by rw [lenI_eq] at hc; exact List.drop_eq_nil_of_le (by omega)
    rw [hdr] at hR hK
    have hR' : mkRowsAsked k0 ls = R := by rw [hR]; exact List.append_nil R
    have hK' : endMkAsked k0 ls = kc := hK
    rw [hR', hK'] at hF
    exact finH1 hF (bare_plainE hs.bare) ⟨rfl, E, rfl, hall, hs.fp, hs.bare⟩
  · rw [goLss hg, goLn hg, hEV, decide_eq_true_eq] at hc
    cbv
    obtain ⟨j, hj⟩ : ∃ j, j = z.toNat := ⟨_, rfl⟩
    have hjV : j < V.length := by rw [hj]; rw [lenI_eq] at hc; omega
    have hjl : j < E.length := by rw [hs.len]; exact hjV
    obtain ⟨e, v, he, hv, hev, heb, hel⟩ := hs.at_ hj hc
    obtain ⟨l, hl0⟩ : ∃ l, ls[j]? = some l := ⟨_, List.getElem?_eq_getElem (by omega)⟩
    have hdr : ls.drop z.toNat = l :: ls.drop (z + 1).toNat := by
      rw [← hj, show (z + 1).toNat = j + 1 by omega]
      have hjl' : j < ls.length := by omega
      rw [List.drop_eq_getElem_cons hjl', ← Option.some.inj ((List.getElem?_eq_getElem hjl').symm.trans hl0)]
    rw [hdr] at hR hK
    obtain ⟨u0, u1, u2, u3, u4, u5, hve⟩ := hok j v l hv hl0
    subst hve
    obtain rfl : l = () := rfl
    obtain ⟨b0, b1, b2, b3, b4, b5, rfl⟩ : ∃ b0 b1 b2 b3 b4 b5, e = [b0, b1, b2, b3, b4, b5] := by
      match e, hel with
      | [b0, b1, b2, b3, b4, b5], _ => exact ⟨b0, b1, b2, b3, b4, b5, rfl⟩
    simp only [List.map_cons, List.map_nil, List.cons.injEq, and_true] at hev
    simp only [List.all_cons, List.all_nil, Bool.and_true, Bool.and_eq_true] at heb
    obtain ⟨v0, v1, v2, v3, v4, v5⟩ := hev
    obtain ⟨w0, w1, w2, w3, w4, w5⟩ := heb
    obtain rfl := bare_imm w0 v0
    obtain rfl := bare_imm w1 v1
    obtain rfl := bare_imm w2 v2
    obtain rfl := bare_imm w3 v3
    obtain rfl := bare_imm w4 v4
    obtain rfl := bare_imm w5 v5
    have hnd1 := fpE_nodupL (by rw [hs.fp]; exact hnd') he
    have hfpe : ∀ b ∈ fpL [.imm u0, .imm u1, .imm u2, .imm u3, .imm u4, .imm u5], b ∈ bs' := fun b hb => by rw [← hs.fp]; exact fp_mem he hb
    obtain ⟨E0, hE0⟩ : ∃ E0, E0 = E := ⟨_, rfl⟩
    have l0_ : j < E0.length := by rw [hE0]; exact hjl
    have h0_ := he
    have s0_ : E0 = E.set j [.imm u0, .imm u1, .imm u2, .imm u3, .imm u4, .imm u5] := hE0.trans (set_same he).symm
    rw [← hE0] at h0_ ⊢
    have ez : g .w .add .i64 z 1 = z + 1 := by rw [goAdd hg, wrap_small _ (by omega)]
    have hmu : (lenI V).toNat - (z + 1).toNat < (lenI V).toNat - z.toNat := by omega
    have hend := endMkAsked_le (ls.drop (z + 1).toNat) (nxMkAsked kc )
    have hK1 : endMkAsked (nxMkAsked kc ) (ls.drop (z + 1).toNat) ≤ 1152921504606846976 := by rw [show endMkAsked (nxMkAsked kc ) (ls.drop (z + 1).toNat) = endMkAsked k0 ls from hK.symm]; exact hk1
    have hkb : kc + 6 ≤ 1152921504606846976 := by rw [← nxMkAsked_eq]; exact Int.le_trans hend hK1
    obtain ⟨q0, hq0⟩ : ∃ q, q = kc + 1 := ⟨_, rfl⟩
    obtain ⟨q1, hq1⟩ : ∃ q, q = kc + 2 := ⟨_, rfl⟩
    obtain ⟨q2, hq2⟩ : ∃ q, q = kc + 3 := ⟨_, rfl⟩
    obtain ⟨q3, hq3⟩ : ∃ q, q = kc + 4 := ⟨_, rfl⟩
    obtain ⟨q4, hq4⟩ : ∃ q, q = kc + 5 := ⟨_, rfl⟩
    obtain ⟨q5, hq5⟩ : ∃ q, q = kc + 6 := ⟨_, rfl⟩
    obtain ⟨hnx, g_kc⟩ := numsAsked hkc hkb hq5
    clear hkb hend hK1
    have e0 := q_add hg g_kc.1 g_kc.2 (Int.add_zero _).symm hq0 rfl (by decide) (by decide)
    have e1 := q_add hg g_kc.1 g_kc.2 hq0 hq1 rfl (by decide) (by decide)
    have e2 := q_add hg g_kc.1 g_kc.2 hq1 hq2 rfl (by decide) (by decide)
    have e3 := q_add hg g_kc.1 g_kc.2 hq2 hq3 rfl (by decide) (by decide)
    have e4 := q_add hg g_kc.1 g_kc.2 hq3 hq4 rfl (by decide) (by decide)
    have e5 := q_add hg g_kc.1 g_kc.2 hq4 hq5 rfl (by decide) (by decide)
    obtain ⟨t5, ht5⟩ : ∃ t, t = m3 q4 := ⟨_, rfl⟩
    have m5 : g .q .eql (g .w .rem .i64 q4 3) 0 = t5 := by rw [ht5, goRem hg, goEql hg]; rfl
    refine goYt hg h0 hj l0_ ?_
    cbv
    refine ⟨_, h0_, ?_⟩
    cbv
    generalize hG1 : g .st _ _ _ = E1
    generalize hX : putC _ _ _ = x at hG1
    cbv at hX
    subst hX
    obtain ⟨s1_, h1_, l1_⟩ := st_step hg hG1 s0_ hjl
    clear hG1 s0_ h0_ l0_
    rw [e0]
    cbv
    refine goYt hg h0 hj l1_ ?_
    cbv
    refine ⟨_, h1_, ?_⟩
    cbv
    generalize hG2 : g .st _ _ _ = E2
    generalize hX : putC _ _ _ = x at hG2
    cbv at hX
    subst hX
    obtain ⟨s2_, h2_, l2_⟩ := st_step hg hG2 s1_ hjl
    clear hG2 s1_ h1_ l1_
    rw [e1]
    cbv
    refine goYt hg h0 hj l2_ ?_
    cbv
    refine ⟨_, h2_, ?_⟩
    cbv
    generalize hG3 : g .st _ _ _ = E3
    generalize hX : putC _ _ _ = x at hG3
    cbv at hX
    subst hX
    obtain ⟨s3_, h3_, l3_⟩ := st_step hg hG3 s2_ hjl
    clear hG3 s2_ h2_ l2_
    rw [e2]
    cbv
    refine goYt hg h0 hj l3_ ?_
    cbv
    refine ⟨_, h3_, ?_⟩
    cbv
    generalize hG4 : g .st _ _ _ = E4
    generalize hX : putC _ _ _ = x at hG4
    cbv at hX
    subst hX
    obtain ⟨s4_, h4_, l4_⟩ := st_step hg hG4 s3_ hjl
    clear hG4 s3_ h3_ l3_
    rw [e3]
    cbv
    refine goYt hg h0 hj l4_ ?_
    cbv
    refine ⟨_, h4_, ?_⟩
    cbv
    generalize hG5 : g .st _ _ _ = E5
    generalize hX : putC _ _ _ = x at hG5
    cbv at hX
    subst hX
    obtain ⟨s5_, h5_, l5_⟩ := st_step hg hG5 s4_ hjl
    clear hG5 s4_ h4_ l4_
    rw [e4]
    cbv
    refine goNZ hg (by decide) ?_
    cbv
    rw [m5]
    cbv
    refine goYt hg h0 hj l5_ ?_
    cbv
    refine ⟨_, h5_, ?_⟩
    cbv
    generalize hG6 : g .st _ _ _ = E6
    generalize hX : putC _ _ _ = x at hG6
    cbv at hX
    subst hX
    obtain ⟨s6_, h6_, l6_⟩ := st_step hg hG6 s5_ hjl
    clear hG6 s5_ h5_ l5_
    rw [e5]
    cbv
    rw [ez]
    rw [s6_]
    have hs' := hs.step (r := mkRowAsked kc ) hj hc he (e' := [.imm (.int .i64 kc), .imm (.int .i64 q0), .imm (.int .i64 q1), .imm (.int .i64 q2), .imm (.int .i64 q3), .imm (.bool t5)]) (rowAsked_eq  ht5 hq0 hq1 hq2 hq3 hq4 hq5) rfl rfl rfl
    rw [hB]
    refine ⟨(z + 1, q5, _), ⟨_, hs', ?_, ?_, by simp only; rw [hnx]; exact Int.le_trans hkc (by have := endMkAsked_le [()] kc; exact this)⟩, hmu, Wk.weak (wk1 ⟨⟨_, rfl, rfl, bare_plainE hs'.bare⟩, trivial⟩ ⟨rfl, rfl, rfl, trivial⟩)⟩
    · simp only
      rw [hnx, List.append_assoc]
      exact hR
    · simp only
      rw [hnx]
      exact hK

end Go.Proofs.Ytenbloaopcfdlaa
