/- Marks on rows of one's own, and what stands there afterwards. Marks on nested data. -/
import Derived.Test.YtenbloaopcfdlaaGreatRas
namespace Go.Proofs.YtenbloaopcfdlaaGreat
open Go.ChangeShapes Go.WideShapes Go.ChangeAt Go.RowKit Am
set_option linter.unusedVariables false
set_option linter.unusedSimpArgs false
set_option maxRecDepth 100000
section
variable {P : Program} {n0 N : Nat} {g : Gd}
theorem goYj (hg : g = G0 P n0 N) {xs : List (List AC)} {z : Int} {j k : Nat} {K : Nat → Prop} (hz : 0 ≤ z) (hj : j = z.toNat) (hy : j < xs.length) (hK : K j) : g .Y k xs z K := by subst hg hj; exact ⟨hz, hy, hK⟩
theorem lt_lenI {es : List (List AC)} {z : Int} {j : Nat} (h0 : 0 ≤ z) (hc : z < lenI es) (hj : j = z.toNat) : j < es.length := by subst hj; rw [lenI_eq] at hc; omega
theorem wk1 {T : Nat → AV} {h h' : AH} {l' : List (Nat × AV)} (hs : selOk h [0] h') (hk : rnK [some 0] h' T l') : Wk 1 T h l' h' [some 0] := by
  match h', hs with
  | [e], hs =>
    have h1 := selOk_rnH (h' := [e]) [0] [e] [] hs
    obtain ⟨⟨ab, h2, rfl, h3⟩, _⟩ := hs
    refine ⟨Nat.le_refl _, fun i hi hg => ?_, by simp, ?_, hk⟩
    · obtain rfl : i = 0 := by omega
      rw [h2] at hg; cases hg
    · simp only [rnH, List.getElem?_cons_zero, h2]
      exact ⟨fun _ => by first | trivial | rfl, ⟨by first | trivial | rfl, by first | trivial | rfl, .inl ⟨by first | trivial | rfl, h3⟩⟩, trivial⟩
theorem loop_run1 {tab : List (TypeId × TI)} (hg : g = G0 P 1 N) (hfit : Fits P tab) {S : Type} {c : Code} {Q : Exit → List (Nat × AV) → EH → Prop} {l : List (Nat × AV)} {h : EH} (hok : codeOk N c = true) (Tf : S → List (Nat × AV)) (hf : S → EH) (ok : S → Prop) (μ : S → Nat) (s0 : S) (ρ0 : List (Option Nat)) (h0 : ok s0)
    (hw : Wk 1 (lkT l) (toH h) (Tf s0) (toH (hf s0)) ρ0)
    (hb : ∀ (s : S) (B : List (Nat × AV) → EH → Prop), ok s → B = (fun l' h' => ∃ s' ρ, ok s' ∧ μ s' < μ s ∧ Wk 1 (lkT l') (toH h') (Tf s') (toH (hf s')) ρ) → runC g tab c (fun e l h => match e with | .normal => B l h | e => Q e l h) (Tf s) (hf s)) : g .L c Q l h :=
  loop_run hg hfit hok Tf hf ok μ s0 ρ0 h0 hw hb
theorem back1 {S : Type} {ok : S → Prop} {μ : S → Nat} {s : S} {Tf : S → List (Nat × AV)} {hf : S → EH} {B : List (Nat × AV) → EH → Prop} {l : List (Nat × AV)} {h : EH}
    (hB : B = fun l' h' => ∃ s' ρ, ok s' ∧ μ s' < μ s ∧ Wk 1 (lkT l') (toH h') (Tf s') (toH (hf s')) ρ) (s' : S) (ρ : List (Option Nat)) (hw : Wk 1 (lkT l) (toH h) (Tf s') (toH (hf s')) ρ) (h1 : ok s') (h2 : μ s' < μ s) : B l h := by
  subst hB; exact ⟨s', ρ, h1, h2, hw⟩
theorem finH1 {F : List AT → EH → Prop} {Post : AV → AH → Prop} {x : AC} {ab : AB} (hF : F = FinP 1 Post) (hp : plainE ab.es = true) (hpost : Post (.t (.c x)) (toH [.rw ab])) (hx : plain x = true := by rfl) : F [.c x] [.rw ab] := by
  subst hF
  refine .inl ⟨.t (.c x), toH [.rw ab], [some 0], ?_, hpost⟩
  exact wk1 (h := toH [.rw ab]) ⟨⟨ab, rfl, rfl, hp⟩, trivial⟩ ⟨rnV_plain (x := .t (.c x)) hx, trivial⟩
end
def marksFrame (k0 : Int) (n : Nat) : List GFrame := (List.range n).map fun i : Nat => ⟨(k0 + 5 * (i : Int)), (k0 + 5 * (i : Int)) + 1, (k0 + 5 * (i : Int)) + 2, (k0 + 5 * (i : Int)) + 3, (k0 + 5 * (i : Int)) + 4⟩
theorem marksFrame_at {k0 z kc : Int} {n : Nat} {M : Int} (hM : M = (n : Int)) (h0 : 0 ≤ z) (h1 : z < M) (hk : kc = k0 + 5 * z) : (vw GFrame.c (marksFrame k0 n))[z.toNat]? = some ([.imm (.int .i64 kc), .imm (.int .i64 (kc + 1)), .imm (.int .i64 (kc + 2)), .imm (.int .i64 (kc + 3)), .imm (.int .i64 (kc + 4))]) := by
  subst hk
  have hz : z.toNat < n := by rw [hM] at h1; omega
  refine (vw_at (x := ⟨(k0 + 5 * z), (k0 + 5 * z) + 1, (k0 + 5 * z) + 2, (k0 + 5 * z) + 3, (k0 + 5 * z) + 4⟩) ?_).trans rfl
  rw [marksFrame, List.getElem?_map, List.getElem?_range hz, Option.map_some, Int.toNat_of_nonneg h0]
set_option maxHeartbeats 1600000 in
theorem laws_markFrameS_a (k0 : Int) (es : List (List AC)) (hk : ∀ e ∈ es, e.length = 5) (hp : plainE es = true) (hl : es.length ≤ 1048576) (hk0 : 0 ≤ k0) (hk1 : k0 ≤ 1152921504606846976) (ty : TypeId := 128) :
    Con Tryz.prog 49 (toH [.rw ⟨ty, 5, es⟩]) [.c (.own 0), ai k0] fun res h' => ∃ eh, toH eh = h' ∧ (res = .t (ai (k0 + 5 * lenI es)) ∧ eh = [.rw ⟨ty, 5, vw GFrame.c (marksFrame k0 es.length)⟩]) := by
  obtain ⟨V, hV⟩ : ∃ V, V = vw GFrame.c (marksFrame k0 es.length) := ⟨_, rfl⟩
  have hVl : V.length = es.length := by rw [hV, vw_length, marksFrame]; simp
  have hVe : lenI V = lenI es := by rw [lenI_eq, lenI_eq, hVl]
  have hV20 : lenI V ≤ 1048576 := by rw [lenI_eq]; omega
  have pV : plainE V = true := by rw [hV]; exact vw_plain _ _
  have hV0 : 0 ≤ lenI V := by rw [lenI_eq]; omega
  have hVn : lenI V = (es.length : Int) := by rw [hVe, lenI_eq]
  have hst : Fill 5 V es 0 := ⟨Int.le_refl 0, hV0, hVl.symm, hk, hp, fun i hi => by simp at hi⟩
  rw [← hV, ← hVe]
  refine con_run (c := body Tryz.f49) fits Tryz.func49 (by kernel_rfl) (by kernel_rfl) (bl (by rfl)) (by kernel_rfl) fun g F hg hF => ?_
  cbv
  refine loop_run1 hg fits (by kernel_rfl) (fun s : Int × Int × List (List AC) => [(0, .t (.c (.own 0))), (1, .t (ai s.2.1)), (5, .t (ai s.1))]) (fun s => [.rw ⟨ty, 5, s.2.2⟩]) (fun s => Fill 5 V s.2.2 s.1 ∧ s.2.1 = k0 + 5 * s.1) (fun s => (lenI V).toNat - s.1.toNat)
    (0, k0, es) [some 0] ⟨hst, by simp only; omega⟩ (wk1 ⟨⟨_, rfl, rfl, hp⟩, trivial⟩ ⟨rfl, rfl, rfl, trivial⟩) (fun s B hs hB => ?_)
  obtain ⟨z, kc, E⟩ := s
  obtain ⟨hs, hkc⟩ := hs
  simp only at hs hkc
  have h0 := hs.z0
  have h1 := hs.z1
  have hEl := hs.len
  have hEV : lenI E = lenI V := by rw [lenI_eq, lenI_eq, hs.len]
  cbv
  cases hc : g .q .lss z (g .ln E)
  · rw [goLss hg, goLn hg, hEV, decide_eq_false_iff_not] at hc
    cbv
    obtain rfl := hs.done hc
    refine finH1 hF pV ⟨_, rfl, ?_, rfl⟩
    show AV.t (ai kc) = _
    rw [show kc = k0 + 5 * lenI E by omega]
  · rw [goLss hg, goLn hg, hEV, decide_eq_true_eq] at hc
    cbv
    obtain ⟨j, hj⟩ : ∃ j, j = z.toNat := ⟨_, rfl⟩
    have hjl : j < E.length := lt_lenI h0 (by rw [hEV]; exact hc) hj
    obtain ⟨e, he, hel⟩ := hs.mem hjl
    have hpe : e.all plain = true := List.all_eq_true.1 hs.pl e (List.mem_of_getElem? he)
    obtain ⟨b0, b1, b2, b3, b4, rfl⟩ : ∃ b0 b1 b2 b3 b4, e = [b0, b1, b2, b3, b4] := by
      match e, hel with
      | [b0, b1, b2, b3, b4], _ => exact ⟨b0, b1, b2, b3, b4, rfl⟩
    have hy := marksFrame_at hVn h0 hc hkc
    rw [← hV] at hy
    obtain ⟨E0, hE0⟩ : ∃ E0, E0 = E := ⟨_, rfl⟩
    have l0 : j < E0.length := by rw [hE0]; exact hjl
    have h0_ := he
    rw [← hE0] at h0_ ⊢
    obtain ⟨q0, hq0⟩ : ∃ q, q = kc + 1 := ⟨_, rfl⟩
    obtain ⟨q1, hq1⟩ : ∃ q, q = kc + 2 := ⟨_, rfl⟩
    obtain ⟨q2, hq2⟩ : ∃ q, q = kc + 3 := ⟨_, rfl⟩
    obtain ⟨q3, hq3⟩ : ∃ q, q = kc + 4 := ⟨_, rfl⟩
    obtain ⟨q4, hq4⟩ : ∃ q, q = kc + 5 := ⟨_, rfl⟩
    have e0 : g .w .add .i64 kc 1 = q0 := by rw [goAdd hg, wrap_small _ (by omega)]; omega
    have e1 : g .w .add .i64 q0 1 = q1 := by rw [goAdd hg, wrap_small _ (by omega)]; omega
    have e2 : g .w .add .i64 q1 1 = q2 := by rw [goAdd hg, wrap_small _ (by omega)]; omega
    have e3 : g .w .add .i64 q2 1 = q3 := by rw [goAdd hg, wrap_small _ (by omega)]; omega
    have e4 : g .w .add .i64 q3 1 = q4 := by rw [goAdd hg, wrap_small _ (by omega)]; omega
    refine goYj hg h0 hj l0 ?_
    cbv
    refine ⟨[b0, b1, b2, b3, b4], h0_, ?_⟩
    cbv
    generalize hG1 : g .st _ _ _ = E1
    have hE1 : E1 = g .st E0 j [.imm (.int .i64 kc), b1, b2, b3, b4] := hG1.symm
    have h1_ : E1[j]? = some [.imm (.int .i64 kc), b1, b2, b3, b4] := by rw [hE1, goSt hg]; exact List.getElem?_set_self l0
    have l1 : j < E1.length := (List.getElem?_eq_some_iff.1 h1_).1
    try rw [e0]
    cbv
    refine goYj hg h0 hj l1 ?_
    cbv
    refine ⟨[.imm (.int .i64 kc), b1, b2, b3, b4], h1_, ?_⟩
    cbv
    generalize hG2 : g .st _ _ _ = E2
    have hE2 : E2 = g .st E1 j [.imm (.int .i64 kc), .imm (.int .i64 q0), b2, b3, b4] := hG2.symm
    have h2_ : E2[j]? = some [.imm (.int .i64 kc), .imm (.int .i64 q0), b2, b3, b4] := by rw [hE2, goSt hg]; exact List.getElem?_set_self l1
    have l2 : j < E2.length := (List.getElem?_eq_some_iff.1 h2_).1
    try rw [e1]
    cbv
    refine goYj hg h0 hj l2 ?_
    cbv
    refine ⟨[.imm (.int .i64 kc), .imm (.int .i64 q0), b2, b3, b4], h2_, ?_⟩
    cbv
    generalize hG3 : g .st _ _ _ = E3
    have hE3 : E3 = g .st E2 j [.imm (.int .i64 kc), .imm (.int .i64 q0), .imm (.int .i64 q1), b3, b4] := hG3.symm
    have h3_ : E3[j]? = some [.imm (.int .i64 kc), .imm (.int .i64 q0), .imm (.int .i64 q1), b3, b4] := by rw [hE3, goSt hg]; exact List.getElem?_set_self l2
    have l3 : j < E3.length := (List.getElem?_eq_some_iff.1 h3_).1
    try rw [e2]
    cbv
    refine goYj hg h0 hj l3 ?_
    cbv
    refine ⟨[.imm (.int .i64 kc), .imm (.int .i64 q0), .imm (.int .i64 q1), b3, b4], h3_, ?_⟩
    cbv
    generalize hG4 : g .st _ _ _ = E4
    have hE4 : E4 = g .st E3 j [.imm (.int .i64 kc), .imm (.int .i64 q0), .imm (.int .i64 q1), .imm (.int .i64 q2), b4] := hG4.symm
    have h4_ : E4[j]? = some [.imm (.int .i64 kc), .imm (.int .i64 q0), .imm (.int .i64 q1), .imm (.int .i64 q2), b4] := by rw [hE4, goSt hg]; exact List.getElem?_set_self l3
    have l4 : j < E4.length := (List.getElem?_eq_some_iff.1 h4_).1
    try rw [e3]
    cbv
    refine goYj hg h0 hj l4 ?_
    cbv
    refine ⟨[.imm (.int .i64 kc), .imm (.int .i64 q0), .imm (.int .i64 q1), .imm (.int .i64 q2), b4], h4_, ?_⟩
    cbv
    generalize hG5 : g .st _ _ _ = E5
    have hE5 : E5 = g .st E4 j [.imm (.int .i64 kc), .imm (.int .i64 q0), .imm (.int .i64 q1), .imm (.int .i64 q2), .imm (.int .i64 q3)] := hG5.symm
    have h5_ : E5[j]? = some [.imm (.int .i64 kc), .imm (.int .i64 q0), .imm (.int .i64 q1), .imm (.int .i64 q2), .imm (.int .i64 q3)] := by rw [hE5, goSt hg]; exact List.getElem?_set_self l4
    have l5 : j < E5.length := (List.getElem?_eq_some_iff.1 h5_).1
    try rw [e4]
    cbv
    have ez : g .w .add .i64 z 1 = z + 1 := by rw [goAdd hg, wrap_small _ (by omega)]
    rw [ez]
    have hfin : E5 = E.set j [.imm (.int .i64 kc), .imm (.int .i64 q0), .imm (.int .i64 q1), .imm (.int .i64 q2), .imm (.int .i64 q3)] := by rw [hE5, hE4, hE3, hE2, hE1, hE0]; simp only [goSt hg, List.set_set]
    rw [hfin]
    have hs' := hs.step hc hj hy rfl rfl
    subst hq0 hq1 hq2 hq3
    exact back1 hB (z + 1, q4, _) [some 0] (wk1 ⟨⟨_, rfl, rfl, hs'.pl⟩, trivial⟩ ⟨rfl, rfl, rfl, trivial⟩) ⟨hs', by simp only; omega⟩ (by show (lenI V).toNat - (z + 1).toNat < (lenI V).toNat - z.toNat; omega)
set_option maxHeartbeats 1600000 in
theorem laws_heldFrameS_a (k0 : Int) (n : Nat) (hl : n ≤ 1048576) (hk0 : 0 ≤ k0) (hk1 : k0 ≤ 1152921504606846976) : PCon Tryz.prog 52 [.c (.view (vw GFrame.c (marksFrame k0 n))), ai k0] fun res rows => res = .t (ai (k0 + 5 * (n : Int))) ∧ rows = [] := by
  obtain ⟨V, hV⟩ : ∃ V, V = vw GFrame.c (marksFrame k0 n) := ⟨_, rfl⟩
  have hVl : V.length = n := by rw [hV, vw_length, marksFrame]; simp
  obtain ⟨M, hM⟩ : ∃ M : Int, M = (n : Int) := ⟨_, rfl⟩
  have hVe : lenI V = M := by rw [lenI_eq, hVl, hM]
  have hM1 : M ≤ 1048576 := by omega
  have hM0 : 0 ≤ M := by omega
  rw [← hV, ← hM]
  refine pcon_run (c := body Tryz.f52) fits Tryz.func52 (by kernel_rfl) (by kernel_rfl) (by rfl) (by kernel_rfl) fun g F hg hF => ?_
  cbv
  refine loop_run hg fits (by kernel_rfl) (fun s : Int × Int => [(0, .t (.c (.view V))), (1, .t (ai s.2)), (5, .t (ai s.1))]) (fun _ => []) (fun s => 0 ≤ s.1 ∧ s.1 ≤ M ∧ s.2 = k0 + 5 * s.1) (fun s => M.toNat - s.1.toNat)
    (0, k0) [] ⟨Int.le_refl 0, hM0, by simp only; omega⟩ (wk0 ⟨rfl, rfl, rfl, trivial⟩) (fun s B hs hB => ?_)
  obtain ⟨z, kc⟩ := s
  obtain ⟨h0, h1, h2⟩ := hs
  simp only at h0 h1 h2
  cbv
  cases hc : g .q .lss z (g .ln V)
  · rw [goLss hg, goLn hg, hVe, decide_eq_false_iff_not] at hc
    cbv
    exact fin0i hF (by rw [h2, show z = M by omega])
  · rw [goLss hg, goLn hg, hVe, decide_eq_true_eq] at hc
    cbv
    have hy := marksFrame_at hM h0 hc h2
    rw [← hV] at hy
    obtain ⟨q0, hq0⟩ : ∃ q, q = kc + 1 := ⟨_, rfl⟩
    obtain ⟨q1, hq1⟩ : ∃ q, q = kc + 2 := ⟨_, rfl⟩
    obtain ⟨q2, hq2⟩ : ∃ q, q = kc + 3 := ⟨_, rfl⟩
    obtain ⟨q3, hq3⟩ : ∃ q, q = kc + 4 := ⟨_, rfl⟩
    obtain ⟨q4, hq4⟩ : ∃ q, q = kc + 5 := ⟨_, rfl⟩
    have e0 : g .w .add .i64 kc 1 = q0 := by rw [goAdd hg, wrap_small _ (by omega)]; omega
    have n0 : g .q .neq kc kc = false := by rw [goNeq hg]; simp
    have e1 : g .w .add .i64 q0 1 = q1 := by rw [goAdd hg, wrap_small _ (by omega)]; omega
    have n1 : g .q .neq q0 q0 = false := by rw [goNeq hg]; simp
    have e2 : g .w .add .i64 q1 1 = q2 := by rw [goAdd hg, wrap_small _ (by omega)]; omega
    have n2 : g .q .neq q1 q1 = false := by rw [goNeq hg]; simp
    have e3 : g .w .add .i64 q2 1 = q3 := by rw [goAdd hg, wrap_small _ (by omega)]; omega
    have n3 : g .q .neq q2 q2 = false := by rw [goNeq hg]; simp
    have e4 : g .w .add .i64 q3 1 = q4 := by rw [goAdd hg, wrap_small _ (by omega)]; omega
    have n4 : g .q .neq q3 q3 = false := by rw [goNeq hg]; simp
    rw [← hq0, ← hq1, ← hq2, ← hq3] at hy
    refine goX hg _ h0 hy rfl ?_
    cbv
    rw [n0]
    cbv
    rw [e0]
    cbv
    refine goX hg _ h0 hy rfl ?_
    cbv
    rw [n1]
    cbv
    rw [e1]
    cbv
    refine goX hg _ h0 hy rfl ?_
    cbv
    rw [n2]
    cbv
    rw [e2]
    cbv
    refine goX hg _ h0 hy rfl ?_
    cbv
    rw [n3]
    cbv
    rw [e3]
    cbv
    refine goX hg _ h0 hy rfl ?_
    cbv
    rw [n4]
    cbv
    rw [e4]
    have ez : g .w .add .i64 z 1 = z + 1 := by rw [goAdd hg, wrap_small _ (by omega)]
    rw [ez]
    exact back hB (z + 1, q4) [] (wk0 ⟨rfl, rfl, rfl, trivial⟩) ⟨by simp only; omega, by simp only; omega, by simp only; omega⟩ (by show M.toNat - (z + 1).toNat < M.toNat - z.toNat; omega)
def marksInt (k0 : Int) (n : Nat) : List Int := (List.range n).map fun i : Nat => k0 + (i : Int)
theorem marksInt_at {k0 z kc : Int} {n : Nat} {M : Int} (hM : M = (n : Int)) (h0 : 0 ≤ z) (h1 : z < M) (hk : kc = k0 + 1 * z) : (vw intC (marksInt k0 n))[z.toNat]? = some ([.imm (.int .i64 kc)]) := by
  subst hk
  have hz : z.toNat < n := by rw [hM] at h1; omega
  refine (vw_at (x := k0 + z) ?_).trans (by simp [lc, intC])
  rw [marksInt, List.getElem?_map, List.getElem?_range hz, Option.map_some, Int.toNat_of_nonneg h0]
set_option maxHeartbeats 1600000 in
theorem laws_markIntS_a (k0 : Int) (es : List (List AC)) (hk : ∀ e ∈ es, e.length = 1) (hp : plainE es = true) (hl : es.length ≤ 1048576) (hk0 : 0 ≤ k0) (hk1 : k0 ≤ 1152921504606846976) (ty : TypeId := 3) :
    Con Tryz.prog 129 (toH [.rw ⟨ty, 1, es⟩]) [.c (.own 0), ai k0] fun res h' => ∃ eh, toH eh = h' ∧ (res = .t (ai (k0 + 1 * lenI es)) ∧ eh = [.rw ⟨ty, 1, vw intC (marksInt k0 es.length)⟩]) := by
  obtain ⟨V, hV⟩ : ∃ V, V = vw intC (marksInt k0 es.length) := ⟨_, rfl⟩
  have hVl : V.length = es.length := by rw [hV, vw_length, marksInt]; simp
  have hVe : lenI V = lenI es := by rw [lenI_eq, lenI_eq, hVl]
  have hV20 : lenI V ≤ 1048576 := by rw [lenI_eq]; omega
  have pV : plainE V = true := by rw [hV]; exact vw_plain _ _
  have hV0 : 0 ≤ lenI V := by rw [lenI_eq]; omega
  have hVn : lenI V = (es.length : Int) := by rw [hVe, lenI_eq]
  have hst : Fill 1 V es 0 := ⟨Int.le_refl 0, hV0, hVl.symm, hk, hp, fun i hi => by simp at hi⟩
  rw [← hV, ← hVe]
  refine con_run (c := body Tryz.f129) fits Tryz.func129 (by kernel_rfl) (by kernel_rfl) (bl (by rfl)) (by kernel_rfl) fun g F hg hF => ?_
  cbv
  refine loop_run1 hg fits (by kernel_rfl) (fun s : Int × Int × List (List AC) => [(0, .t (.c (.own 0))), (1, .t (ai s.2.1)), (5, .t (ai s.1))]) (fun s => [.rw ⟨ty, 1, s.2.2⟩]) (fun s => Fill 1 V s.2.2 s.1 ∧ s.2.1 = k0 + 1 * s.1) (fun s => (lenI V).toNat - s.1.toNat)
    (0, k0, es) [some 0] ⟨hst, by simp only; omega⟩ (wk1 ⟨⟨_, rfl, rfl, hp⟩, trivial⟩ ⟨rfl, rfl, rfl, trivial⟩) (fun s B hs hB => ?_)
  obtain ⟨z, kc, E⟩ := s
  obtain ⟨hs, hkc⟩ := hs
  simp only at hs hkc
  have h0 := hs.z0
  have h1 := hs.z1
  have hEl := hs.len
  have hEV : lenI E = lenI V := by rw [lenI_eq, lenI_eq, hs.len]
  cbv
  cases hc : g .q .lss z (g .ln E)
  · rw [goLss hg, goLn hg, hEV, decide_eq_false_iff_not] at hc
    cbv
    obtain rfl := hs.done hc
    refine finH1 hF pV ⟨_, rfl, ?_, rfl⟩
    show AV.t (ai kc) = _
    rw [show kc = k0 + 1 * lenI E by omega]
  · rw [goLss hg, goLn hg, hEV, decide_eq_true_eq] at hc
    cbv
    obtain ⟨j, hj⟩ : ∃ j, j = z.toNat := ⟨_, rfl⟩
    have hjl : j < E.length := lt_lenI h0 (by rw [hEV]; exact hc) hj
    obtain ⟨e, he, hel⟩ := hs.mem hjl
    have hpe : e.all plain = true := List.all_eq_true.1 hs.pl e (List.mem_of_getElem? he)
    obtain ⟨b0, rfl⟩ : ∃ b0, e = [b0] := by
      match e, hel with
      | [b0], _ => exact ⟨b0, rfl⟩
    have hy := marksInt_at hVn h0 hc hkc
    rw [← hV] at hy
    obtain ⟨q0, hq0⟩ : ∃ q, q = kc + 1 := ⟨_, rfl⟩
    have e0 : g .w .add .i64 kc 1 = q0 := by rw [goAdd hg, wrap_small _ (by omega)]; omega
    refine goYj hg h0 hj hjl ?_
    cbv
    refine goN hg ⟨_, he, rfl⟩ ?_
    cbv
    rw [goSt hg]
    rw [e0]
    have ez : g .w .add .i64 z 1 = z + 1 := by rw [goAdd hg, wrap_small _ (by omega)]
    rw [ez]
    have hs' := hs.step hc hj hy rfl rfl
    exact back1 hB (z + 1, q0, _) [some 0] (wk1 ⟨⟨_, rfl, rfl, hs'.pl⟩, trivial⟩ ⟨rfl, rfl, rfl, trivial⟩) ⟨hs', by simp only; omega⟩ (by show (lenI V).toNat - (z + 1).toNat < (lenI V).toNat - z.toNat; omega)
set_option maxHeartbeats 1600000 in
theorem laws_heldIntS_a (k0 : Int) (n : Nat) (hl : n ≤ 1048576) (hk0 : 0 ≤ k0) (hk1 : k0 ≤ 1152921504606846976) : PCon Tryz.prog 130 [.c (.view (vw intC (marksInt k0 n))), ai k0] fun res rows => res = .t (ai (k0 + 1 * (n : Int))) ∧ rows = [] := by
  obtain ⟨V, hV⟩ : ∃ V, V = vw intC (marksInt k0 n) := ⟨_, rfl⟩
  have hVl : V.length = n := by rw [hV, vw_length, marksInt]; simp
  obtain ⟨M, hM⟩ : ∃ M : Int, M = (n : Int) := ⟨_, rfl⟩
  have hVe : lenI V = M := by rw [lenI_eq, hVl, hM]
  have hM1 : M ≤ 1048576 := by omega
  have hM0 : 0 ≤ M := by omega
  rw [← hV, ← hM]
  refine pcon_run (c := body Tryz.f130) fits Tryz.func130 (by kernel_rfl) (by kernel_rfl) (by rfl) (by kernel_rfl) fun g F hg hF => ?_
  cbv
  refine loop_run hg fits (by kernel_rfl) (fun s : Int × Int => [(0, .t (.c (.view V))), (1, .t (ai s.2)), (5, .t (ai s.1))]) (fun _ => []) (fun s => 0 ≤ s.1 ∧ s.1 ≤ M ∧ s.2 = k0 + 1 * s.1) (fun s => M.toNat - s.1.toNat)
    (0, k0) [] ⟨Int.le_refl 0, hM0, by simp only; omega⟩ (wk0 ⟨rfl, rfl, rfl, trivial⟩) (fun s B hs hB => ?_)
  obtain ⟨z, kc⟩ := s
  obtain ⟨h0, h1, h2⟩ := hs
  simp only at h0 h1 h2
  cbv
  cases hc : g .q .lss z (g .ln V)
  · rw [goLss hg, goLn hg, hVe, decide_eq_false_iff_not] at hc
    cbv
    exact fin0i hF (by rw [h2, show z = M by omega])
  · rw [goLss hg, goLn hg, hVe, decide_eq_true_eq] at hc
    cbv
    have hy := marksInt_at hM h0 hc h2
    rw [← hV] at hy
    obtain ⟨q0, hq0⟩ : ∃ q, q = kc + 1 := ⟨_, rfl⟩
    have e0 : g .w .add .i64 kc 1 = q0 := by rw [goAdd hg, wrap_small _ (by omega)]; omega
    have n0 : g .q .neq kc kc = false := by rw [goNeq hg]; simp
    refine goX hg _ h0 hy rfl ?_
    cbv
    rw [n0]
    cbv
    rw [e0]
    have ez : g .w .add .i64 z 1 = z + 1 := by rw [goAdd hg, wrap_small _ (by omega)]
    rw [ez]
    exact back hB (z + 1, q0) [] (wk0 ⟨rfl, rfl, rfl, trivial⟩) ⟨by simp only; omega, by simp only; omega, by simp only; omega⟩ (by show M.toNat - (z + 1).toNat < M.toNat - z.toNat; omega)
def marksRule (k0 : Int) (n : Nat) : List GRule := (List.range n).map fun i : Nat => ⟨(k0 + 3 * (i : Int)), (k0 + 3 * (i : Int)) + 1, (k0 + 3 * (i : Int)) + 2⟩
theorem marksRule_at {k0 z kc : Int} {n : Nat} {M : Int} (hM : M = (n : Int)) (h0 : 0 ≤ z) (h1 : z < M) (hk : kc = k0 + 3 * z) : (vw GRule.c (marksRule k0 n))[z.toNat]? = some ([.imm (.int .i64 kc), .imm (.int .i64 (kc + 1)), .imm (.int .i64 (kc + 2))]) := by
  subst hk
  have hz : z.toNat < n := by rw [hM] at h1; omega
  refine (vw_at (x := ⟨(k0 + 3 * z), (k0 + 3 * z) + 1, (k0 + 3 * z) + 2⟩) ?_).trans rfl
  rw [marksRule, List.getElem?_map, List.getElem?_range hz, Option.map_some, Int.toNat_of_nonneg h0]
set_option maxHeartbeats 1600000 in
theorem laws_markRuleS_a (k0 : Int) (es : List (List AC)) (hk : ∀ e ∈ es, e.length = 3) (hp : plainE es = true) (hl : es.length ≤ 1048576) (hk0 : 0 ≤ k0) (hk1 : k0 ≤ 1152921504606846976) (ty : TypeId := 146) :
    Con Tryz.prog 69 (toH [.rw ⟨ty, 3, es⟩]) [.c (.own 0), ai k0] fun res h' => ∃ eh, toH eh = h' ∧ (res = .t (ai (k0 + 3 * lenI es)) ∧ eh = [.rw ⟨ty, 3, vw GRule.c (marksRule k0 es.length)⟩]) := by
  obtain ⟨V, hV⟩ : ∃ V, V = vw GRule.c (marksRule k0 es.length) := ⟨_, rfl⟩
  have hVl : V.length = es.length := by rw [hV, vw_length, marksRule]; simp
  have hVe : lenI V = lenI es := by rw [lenI_eq, lenI_eq, hVl]
  have hV20 : lenI V ≤ 1048576 := by rw [lenI_eq]; omega
  have pV : plainE V = true := by rw [hV]; exact vw_plain _ _
  have hV0 : 0 ≤ lenI V := by rw [lenI_eq]; omega
  have hVn : lenI V = (es.length : Int) := by rw [hVe, lenI_eq]
  have hst : Fill 3 V es 0 := ⟨Int.le_refl 0, hV0, hVl.symm, hk, hp, fun i hi => by simp at hi⟩
  rw [← hV, ← hVe]
  refine con_run (c := body Tryz.f69) fits Tryz.func69 (by kernel_rfl) (by kernel_rfl) (bl (by rfl)) (by kernel_rfl) fun g F hg hF => ?_
  cbv
  refine loop_run1 hg fits (by kernel_rfl) (fun s : Int × Int × List (List AC) => [(0, .t (.c (.own 0))), (1, .t (ai s.2.1)), (5, .t (ai s.1))]) (fun s => [.rw ⟨ty, 3, s.2.2⟩]) (fun s => Fill 3 V s.2.2 s.1 ∧ s.2.1 = k0 + 3 * s.1) (fun s => (lenI V).toNat - s.1.toNat)
    (0, k0, es) [some 0] ⟨hst, by simp only; omega⟩ (wk1 ⟨⟨_, rfl, rfl, hp⟩, trivial⟩ ⟨rfl, rfl, rfl, trivial⟩) (fun s B hs hB => ?_)
  obtain ⟨z, kc, E⟩ := s
  obtain ⟨hs, hkc⟩ := hs
  simp only at hs hkc
  have h0 := hs.z0
  have h1 := hs.z1
  have hEl := hs.len
  have hEV : lenI E = lenI V := by rw [lenI_eq, lenI_eq, hs.len]
  cbv
  cases hc : g .q .lss z (g .ln E)
  · rw [goLss hg, goLn hg, hEV, decide_eq_false_iff_not] at hc
    cbv
    obtain rfl := hs.done hc
    refine finH1 hF pV ⟨_, rfl, ?_, rfl⟩
    show AV.t (ai kc) = _
    rw [show kc = k0 + 3 * lenI E by omega]
  · rw [goLss hg, goLn hg, hEV, decide_eq_true_eq] at hc
    cbv
    obtain ⟨j, hj⟩ : ∃ j, j = z.toNat := ⟨_, rfl⟩
    have hjl : j < E.length := lt_lenI h0 (by rw [hEV]; exact hc) hj
    obtain ⟨e, he, hel⟩ := hs.mem hjl
    have hpe : e.all plain = true := List.all_eq_true.1 hs.pl e (List.mem_of_getElem? he)
    obtain ⟨b0, b1, b2, rfl⟩ : ∃ b0 b1 b2, e = [b0, b1, b2] := by
      match e, hel with
      | [b0, b1, b2], _ => exact ⟨b0, b1, b2, rfl⟩
    have hy := marksRule_at hVn h0 hc hkc
    rw [← hV] at hy
    obtain ⟨E0, hE0⟩ : ∃ E0, E0 = E := ⟨_, rfl⟩
    have l0 : j < E0.length := by rw [hE0]; exact hjl
    have h0_ := he
    rw [← hE0] at h0_ ⊢
    obtain ⟨q0, hq0⟩ : ∃ q, q = kc + 1 := ⟨_, rfl⟩
    obtain ⟨q1, hq1⟩ : ∃ q, q = kc + 2 := ⟨_, rfl⟩
    obtain ⟨q2, hq2⟩ : ∃ q, q = kc + 3 := ⟨_, rfl⟩
    have e0 : g .w .add .i64 kc 1 = q0 := by rw [goAdd hg, wrap_small _ (by omega)]; omega
    have e1 : g .w .add .i64 q0 1 = q1 := by rw [goAdd hg, wrap_small _ (by omega)]; omega
    have e2 : g .w .add .i64 q1 1 = q2 := by rw [goAdd hg, wrap_small _ (by omega)]; omega
    refine goYj hg h0 hj l0 ?_
    cbv
    refine ⟨[b0, b1, b2], h0_, ?_⟩
    cbv
    generalize hG1 : g .st _ _ _ = E1
    have hE1 : E1 = g .st E0 j [.imm (.int .i64 kc), b1, b2] := hG1.symm
    have h1_ : E1[j]? = some [.imm (.int .i64 kc), b1, b2] := by rw [hE1, goSt hg]; exact List.getElem?_set_self l0
    have l1 : j < E1.length := (List.getElem?_eq_some_iff.1 h1_).1
    try rw [e0]
    cbv
    refine goYj hg h0 hj l1 ?_
    cbv
    refine ⟨[.imm (.int .i64 kc), b1, b2], h1_, ?_⟩
    cbv
    generalize hG2 : g .st _ _ _ = E2
    have hE2 : E2 = g .st E1 j [.imm (.int .i64 kc), .imm (.int .i64 q0), b2] := hG2.symm
    have h2_ : E2[j]? = some [.imm (.int .i64 kc), .imm (.int .i64 q0), b2] := by rw [hE2, goSt hg]; exact List.getElem?_set_self l1
    have l2 : j < E2.length := (List.getElem?_eq_some_iff.1 h2_).1
    try rw [e1]
    cbv
    refine goYj hg h0 hj l2 ?_
    cbv
    refine ⟨[.imm (.int .i64 kc), .imm (.int .i64 q0), b2], h2_, ?_⟩
    cbv
    generalize hG3 : g .st _ _ _ = E3
    have hE3 : E3 = g .st E2 j [.imm (.int .i64 kc), .imm (.int .i64 q0), .imm (.int .i64 q1)] := hG3.symm
    have h3_ : E3[j]? = some [.imm (.int .i64 kc), .imm (.int .i64 q0), .imm (.int .i64 q1)] := by rw [hE3, goSt hg]; exact List.getElem?_set_self l2
    have l3 : j < E3.length := (List.getElem?_eq_some_iff.1 h3_).1
    try rw [e2]
    cbv
    have ez : g .w .add .i64 z 1 = z + 1 := by rw [goAdd hg, wrap_small _ (by omega)]
    rw [ez]
    have hfin : E3 = E.set j [.imm (.int .i64 kc), .imm (.int .i64 q0), .imm (.int .i64 q1)] := by rw [hE3, hE2, hE1, hE0]; simp only [goSt hg, List.set_set]
    rw [hfin]
    have hs' := hs.step hc hj hy rfl rfl
    subst hq0 hq1
    exact back1 hB (z + 1, q2, _) [some 0] (wk1 ⟨⟨_, rfl, rfl, hs'.pl⟩, trivial⟩ ⟨rfl, rfl, rfl, trivial⟩) ⟨hs', by simp only; omega⟩ (by show (lenI V).toNat - (z + 1).toNat < (lenI V).toNat - z.toNat; omega)
set_option maxHeartbeats 1600000 in
theorem laws_heldRuleS_a (k0 : Int) (n : Nat) (hl : n ≤ 1048576) (hk0 : 0 ≤ k0) (hk1 : k0 ≤ 1152921504606846976) : PCon Tryz.prog 131 [.c (.view (vw GRule.c (marksRule k0 n))), ai k0] fun res rows => res = .t (ai (k0 + 3 * (n : Int))) ∧ rows = [] := by
  obtain ⟨V, hV⟩ : ∃ V, V = vw GRule.c (marksRule k0 n) := ⟨_, rfl⟩
  have hVl : V.length = n := by rw [hV, vw_length, marksRule]; simp
  obtain ⟨M, hM⟩ : ∃ M : Int, M = (n : Int) := ⟨_, rfl⟩
  have hVe : lenI V = M := by rw [lenI_eq, hVl, hM]
  have hM1 : M ≤ 1048576 := by omega
  have hM0 : 0 ≤ M := by omega
  rw [← hV, ← hM]
  refine pcon_run (c := body Tryz.f131) fits Tryz.func131 (by kernel_rfl) (by kernel_rfl) (by rfl) (by kernel_rfl) fun g F hg hF => ?_
  cbv
  refine loop_run hg fits (by kernel_rfl) (fun s : Int × Int => [(0, .t (.c (.view V))), (1, .t (ai s.2)), (5, .t (ai s.1))]) (fun _ => []) (fun s => 0 ≤ s.1 ∧ s.1 ≤ M ∧ s.2 = k0 + 3 * s.1) (fun s => M.toNat - s.1.toNat)
    (0, k0) [] ⟨Int.le_refl 0, hM0, by simp only; omega⟩ (wk0 ⟨rfl, rfl, rfl, trivial⟩) (fun s B hs hB => ?_)
  obtain ⟨z, kc⟩ := s
  obtain ⟨h0, h1, h2⟩ := hs
  simp only at h0 h1 h2
  cbv
  cases hc : g .q .lss z (g .ln V)
  · rw [goLss hg, goLn hg, hVe, decide_eq_false_iff_not] at hc
    cbv
    exact fin0i hF (by rw [h2, show z = M by omega])
  · rw [goLss hg, goLn hg, hVe, decide_eq_true_eq] at hc
    cbv
    have hy := marksRule_at hM h0 hc h2
    rw [← hV] at hy
    obtain ⟨q0, hq0⟩ : ∃ q, q = kc + 1 := ⟨_, rfl⟩
    obtain ⟨q1, hq1⟩ : ∃ q, q = kc + 2 := ⟨_, rfl⟩
    obtain ⟨q2, hq2⟩ : ∃ q, q = kc + 3 := ⟨_, rfl⟩
    have e0 : g .w .add .i64 kc 1 = q0 := by rw [goAdd hg, wrap_small _ (by omega)]; omega
    have n0 : g .q .neq kc kc = false := by rw [goNeq hg]; simp
    have e1 : g .w .add .i64 q0 1 = q1 := by rw [goAdd hg, wrap_small _ (by omega)]; omega
    have n1 : g .q .neq q0 q0 = false := by rw [goNeq hg]; simp
    have e2 : g .w .add .i64 q1 1 = q2 := by rw [goAdd hg, wrap_small _ (by omega)]; omega
    have n2 : g .q .neq q1 q1 = false := by rw [goNeq hg]; simp
    rw [← hq0, ← hq1] at hy
    refine goX hg _ h0 hy rfl ?_
    cbv
    rw [n0]
    cbv
    rw [e0]
    cbv
    refine goX hg _ h0 hy rfl ?_
    cbv
    rw [n1]
    cbv
    rw [e1]
    cbv
    refine goX hg _ h0 hy rfl ?_
    cbv
    rw [n2]
    cbv
    rw [e2]
    have ez : g .w .add .i64 z 1 = z + 1 := by rw [goAdd hg, wrap_small _ (by omega)]
    rw [ez]
    exact back hB (z + 1, q2) [] (wk0 ⟨rfl, rfl, rfl, trivial⟩) ⟨by simp only; omega, by simp only; omega, by simp only; omega⟩ (by show M.toNat - (z + 1).toNat < M.toNat - z.toNat; omega)
end Go.Proofs.YtenbloaopcfdlaaGreat
namespace Go.Proofs.YtenbloaopcfdlaaGreat
open Go.ChangeShapes Go.WideShapes Go.ChangeAt Go.RowKit Am
set_option linter.unusedVariables false
set_option linter.unusedSimpArgs false
set_option maxRecDepth 100000
def m3 (k : Int) : Bool := k.tmod 3 == 0
theorem set_same {E : List (List AC)} {j : Nat} {y : List AC} (h : E[j]? = some y) : E.set j y = E := by
  refine List.ext_getElem? fun i => ?_
  rw [List.getElem?_set]
  by_cases hi : j = i
  · subst hi; rw [if_pos rfl, if_pos (List.getElem?_eq_some_iff.1 h).1, h]
  · rw [if_neg hi]
theorem plain_set {E : List (List AC)} {j : Nat} {y : List AC} (h : plainE E = true) (hy : y.all plain = true) : plainE (E.set j y) = true := by
  rw [plainE, List.all_eq_true] at h ⊢
  intro x hx
  rcases List.mem_or_eq_of_mem_set hx with hx | rfl
  · exact h x hx
  · exact hy
theorem set_step {E E1 E2 : List (List AC)} {j : Nat} {x y : List AC} (h : E2 = E1.set j x) (hs : E1 = E.set j y) (hl : j < E.length) : E2 = E.set j x ∧ E2[j]? = some x ∧ j < E2.length := by
  rw [hs, List.set_set] at h
  subst h
  exact ⟨rfl, List.getElem?_set_self hl, by rw [List.length_set]; exact hl⟩
theorem st_step {P : Program} {n0 N : Nat} {β : BP} {g : Gd} (hg : g = G0 P n0 N) {E E1 E2 : List (List AC)} {j : Nat} {x y : List AC} (h : g .st E1 j x = E2) (hs : E1 = E.set j y) (hl : j < E.length) : E2 = E.set j x ∧ E2[j]? = some x ∧ j < E2.length := by
  rw [goSt hg, hs, List.set_set] at h
  subst h
  exact ⟨rfl, List.getElem?_set_self hl, by rw [List.length_set]; exact hl⟩
theorem q_bnd {a b c C M : Int} (h0 : 0 ≤ a) (hM : a + C ≤ M) (hq : b = a + c) (h1 : 0 ≤ c) (h2 : c ≤ C) : 0 ≤ b ∧ b ≤ M := by constructor <;> omega
theorem q_add {P : Program} {n0 N : Nat} {β : BP} {g : Gd} (hg : g = G0 P n0 N) {a b d c e C : Int} (h0 : 0 ≤ a) (hM : a + C ≤ 1152921504606846976) (hb : b = a + c) (hd : d = a + e) (he : e = c + 1) (h1 : 0 ≤ c) (h2 : c ≤ C) : g .w .add .i64 b 1 = d := by
  rw [goAdd hg, wrap_small _ (by omega)]; omega
set_option maxHeartbeats 1600000 in
theorem laws_markFrameS_0 (k0 : Int) : PCon Tryz.prog 49 [.c (.view []), ai k0] fun res rows => res = .t (ai k0) ∧ rows = [] := by
  refine pcon_run4 ([]) ([]) (c := body Tryz.f49) fits Tryz.func49 (by kernel_rfl) (by kernel_rfl) (by rfl) (by kernel_rfl) fun g eff hd F heff hhd hg hF => ?_
  cbv
  refine loop_runW4 [] [] heff hhd hg fits (by kernel_rfl) (fun _ : Unit => [(0, .t (.c (.view []))), (1, .t (ai k0)), (5, .t (ai 0))]) (fun _ => []) (fun _ => True) (fun _ => 0) () trivial (Wk.weak (wk0 ⟨rfl, rfl, rfl, trivial⟩)) (fun s B _ hB => ?_)
  cbv
  have e : g .q .lss 0 (g .ln []) = false := by rw [goLss hg, goLn hg]; rfl
  rw [e]
  cbv
  exact fin0i hF rfl
theorem laws_markFrameS_n (k0 : Int) (bs : List Nat) (V : List (List AC)) (hl : V.length ≤ 1048576) (hk : ∀ y ∈ V, y.length = 5) (hi : immE V = true) (hnd : bs.Nodup) (hk0 : 0 ≤ k0) (hk1 : k0 ≤ 1152921504606846976) :
    MCon Tryz.prog 49 [.c (.fv bs V), ai k0] [(bs, V, vw GFrame.c (marksFrame k0 V.length))] (.int .i64 (k0 + 5 * (V.length : Int))) := by
  by_cases hne : V = []
  · subst hne
    have : k0 + 5 * (([] : List (List AC)).length : Int) = k0 := by simp
    rw [this]
    exact mcon_nil (laws_markFrameS_0 k0)
  · rw [← lenI_eq]
    exact mcon_flat (by kernel_rfl) hne hk hi (vw_imm _ _) hnd (by rw [vw_length]; simp [marksFrame]) fun ty => laws_markFrameS_a k0 V hk (imm_plainE hi) hl hk0 hk1 ty
set_option maxHeartbeats 1600000 in
theorem laws_markIntS_0 (k0 : Int) : PCon Tryz.prog 129 [.c (.view []), ai k0] fun res rows => res = .t (ai k0) ∧ rows = [] := by
  refine pcon_run4 ([]) ([]) (c := body Tryz.f129) fits Tryz.func129 (by kernel_rfl) (by kernel_rfl) (by rfl) (by kernel_rfl) fun g eff hd F heff hhd hg hF => ?_
  cbv
  refine loop_runW4 [] [] heff hhd hg fits (by kernel_rfl) (fun _ : Unit => [(0, .t (.c (.view []))), (1, .t (ai k0)), (5, .t (ai 0))]) (fun _ => []) (fun _ => True) (fun _ => 0) () trivial (Wk.weak (wk0 ⟨rfl, rfl, rfl, trivial⟩)) (fun s B _ hB => ?_)
  cbv
  have e : g .q .lss 0 (g .ln []) = false := by rw [goLss hg, goLn hg]; rfl
  rw [e]
  cbv
  exact fin0i hF rfl
theorem laws_markIntS_n (k0 : Int) (bs : List Nat) (V : List (List AC)) (hl : V.length ≤ 1048576) (hk : ∀ y ∈ V, y.length = 1) (hi : immE V = true) (hnd : bs.Nodup) (hk0 : 0 ≤ k0) (hk1 : k0 ≤ 1152921504606846976) :
    MCon Tryz.prog 129 [.c (.fv bs V), ai k0] [(bs, V, vw intC (marksInt k0 V.length))] (.int .i64 (k0 + 1 * (V.length : Int))) := by
  by_cases hne : V = []
  · subst hne
    have : k0 + 1 * (([] : List (List AC)).length : Int) = k0 := by simp
    rw [this]
    exact mcon_nil (laws_markIntS_0 k0)
  · rw [← lenI_eq]
    exact mcon_flat (by kernel_rfl) hne hk hi (vw_imm _ _) hnd (by rw [vw_length]; simp [marksInt]) fun ty => laws_markIntS_a k0 V hk (imm_plainE hi) hl hk0 hk1 ty
set_option maxHeartbeats 1600000 in
theorem laws_markRuleS_0 (k0 : Int) : PCon Tryz.prog 69 [.c (.view []), ai k0] fun res rows => res = .t (ai k0) ∧ rows = [] := by
  refine pcon_run4 ([]) ([]) (c := body Tryz.f69) fits Tryz.func69 (by kernel_rfl) (by kernel_rfl) (by rfl) (by kernel_rfl) fun g eff hd F heff hhd hg hF => ?_
  cbv
  refine loop_runW4 [] [] heff hhd hg fits (by kernel_rfl) (fun _ : Unit => [(0, .t (.c (.view []))), (1, .t (ai k0)), (5, .t (ai 0))]) (fun _ => []) (fun _ => True) (fun _ => 0) () trivial (Wk.weak (wk0 ⟨rfl, rfl, rfl, trivial⟩)) (fun s B _ hB => ?_)
  cbv
  have e : g .q .lss 0 (g .ln []) = false := by rw [goLss hg, goLn hg]; rfl
  rw [e]
  cbv
  exact fin0i hF rfl
theorem laws_markRuleS_n (k0 : Int) (bs : List Nat) (V : List (List AC)) (hl : V.length ≤ 1048576) (hk : ∀ y ∈ V, y.length = 3) (hi : immE V = true) (hnd : bs.Nodup) (hk0 : 0 ≤ k0) (hk1 : k0 ≤ 1152921504606846976) :
    MCon Tryz.prog 69 [.c (.fv bs V), ai k0] [(bs, V, vw GRule.c (marksRule k0 V.length))] (.int .i64 (k0 + 3 * (V.length : Int))) := by
  by_cases hne : V = []
  · subst hne
    have : k0 + 3 * (([] : List (List AC)).length : Int) = k0 := by simp
    rw [this]
    exact mcon_nil (laws_markRuleS_0 k0)
  · rw [← lenI_eq]
    exact mcon_flat (by kernel_rfl) hne hk hi (vw_imm _ _) hnd (by rw [vw_length]; simp [marksRule]) fun ty => laws_markRuleS_a k0 V hk (imm_plainE hi) hl hk0 hk1 ty
end Go.Proofs.YtenbloaopcfdlaaGreat
