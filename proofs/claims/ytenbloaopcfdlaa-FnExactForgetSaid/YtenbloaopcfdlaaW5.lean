/- Frames in the whole's coordinates. -/
import Derived.Test.YtenbloaopcfdlaaW4
namespace Go.Proofs.Ytenbloaopcfdlaa
open Go.ChangeShapes Go.WideShapes Go.ChangeAt Go.RowKit Am
set_option linter.unusedVariables false
set_option linter.unusedSimpArgs false
set_option maxRecDepth 100000

def absU (ns : List NNode) (xs : List GFrame) : Nat → Int → Int → Int → Int × Int
  | 0, _, X, Y => (X, Y)
  | k + 1, n, X, Y => if isN ns n = true then (if upN ns n = 0 ∨ (frF (upN ns n) xs).2 = false then (X, Y) else absU ns xs k (upN ns n) (wrap64 (X + (frF (upN ns n) xs).1.x)) (wrap64 (Y + (frF (upN ns n) xs).1.y))) else (X, Y)
def absG (ns : List NNode) (xs : List GFrame) (f : GFrame) : GFrame := ⟨f.node, (absU ns xs ns.length f.node f.x f.y).1, (absU ns xs ns.length f.node f.x f.y).2, f.wide, f.high⟩
def absF (ns : List NNode) (xs : List GFrame) : List GFrame := if treeB ns = true then xs.map (absG ns xs) else xs
/-- A walk up from n ends within k steps. -/
def upD (ns : List NNode) : Nat → Int → Prop
  | 0, n => isN ns n = false
  | k + 1, n => isN ns n = false ∨ upD ns k (upN ns n)
theorem upD_out {ns : List NNode} {n : Int} (h : isN ns n = false) : ∀ k, upD ns k n
  | 0 => h
  | _ + 1 => .inl h
theorem isN_zero (ns : List NNode) : isN ns 0 = false := by simp [isN, rng]
theorem upD_dep {ns : List NNode} : ∀ (f : Nat) (k n : Int), depF ns f k n ≠ 0 → upD ns f n
  | 0, k, n, h => by
    by_cases h0 : n = 0
    · subst h0; exact isN_zero ns
    · exact absurd (dep_end ns h0) h
  | f + 1, k, n, h => by
    by_cases h0 : n = 0
    · subst h0; exact .inl (isN_zero ns)
    · cases hi : isN ns n
      · exact .inl hi
      · rw [dep_step ns h0 hi] at h
        exact .inr (upD_dep f _ _ h)
theorem upD_all {ns : List NNode} (h : treeB ns = true) (n : Int) : upD ns ns.length n := by
  cases hi : isN ns n
  · exact upD_out hi _
  · obtain ⟨i1, i2, x, hx⟩ := isN_at hi
    simp only [treeB, Bool.and_eq_true] at h
    have h3 := (goT_iff ns ns 0).1 h.2 (n - 1).toNat x hx
    rw [show (0 : Int) + (((n - 1).toNat : Nat) : Int) + 1 = n by omega] at h3
    simp only [nodeOk, Bool.and_eq_true, rng, decide_eq_true_eq] at h3
    exact upD_dep _ 0 n (by show depN ns n ≠ 0; omega)
theorem absU_out {ns : List NNode} {xs : List GFrame} {n : Int} (h : isN ns n = false) (k : Nat) (X Y : Int) : absU ns xs k n X Y = (X, Y) := by cases k <;> simp [absU, h]
theorem absU_end {ns : List NNode} {xs : List GFrame} {n u : Int} {f : GFrame} {ok : Bool} (h : isN ns n = true) (hu : upN ns n = u) (hf : frF u xs = (f, ok)) (hs : u = 0 ∨ ok = false) (k : Nat) (X Y : Int) : absU ns xs (k + 1) n X Y = (X, Y) := by
  rw [absU, if_pos h, hu, hf, if_pos hs]
theorem absU_up {ns : List NNode} {xs : List GFrame} {n u : Int} {f : GFrame} (h : isN ns n = true) (hu : upN ns n = u) (hf : frF u xs = (f, true)) (hs : u ≠ 0) (k : Nat) (X Y : Int) : absU ns xs (k + 1) n X Y = absU ns xs k u (wrap64 (X + f.x)) (wrap64 (Y + f.y)) := by
  rw [absU, if_pos h, hu, hf, if_neg (by simp [hs])]
/-- A row, changed from its start up to z. -/
structure Half (V G E : List (List AC)) (z : Int) : Prop where
  z0 : 0 ≤ z
  z1 : z ≤ lenI V
  vg : V.length = G.length
  el : E.length = V.length
  eq : ∀ i : Nat, E[i]? = if (i : Int) < z then G[i]? else V[i]?
theorem Half.start {V G : List (List AC)} (h : V.length = G.length) : Half V G V 0 := ⟨Int.le_refl 0, by rw [lenI_eq]; omega, h, rfl, fun i => by rw [if_neg (by omega)]⟩
theorem Half.at {V G E : List (List AC)} {z : Int} (h : Half V G E z) {y : List AC} (hy : V[z.toNat]? = some y) : E[z.toNat]? = some y := by
  have h0 := h.z0
  rw [h.eq, if_neg (by omega), hy]
theorem Half.step {V G E : List (List AC)} {z : Int} (h : Half V G E z) (hz : z < lenI V) {y : List AC} (hy : G[z.toNat]? = some y) : Half V G (E.set z.toNat y) (z + 1) := by
  have h0 := h.z0
  have hl := h.el
  rw [lenI_eq] at hz
  refine ⟨by omega, by rw [lenI_eq]; omega, h.vg, by rw [List.length_set, hl], fun i => ?_⟩
  rw [List.getElem?_set]
  by_cases hi : z.toNat = i
  · subst hi
    rw [if_pos rfl, if_pos (by omega), if_pos (by omega), hy]
  · rw [if_neg hi, h.eq]
    by_cases hj : (i : Int) < z
    · rw [if_pos hj, if_pos (by omega)]
    · rw [if_neg hj, if_neg (by omega)]
theorem Half.done {V G E : List (List AC)} {z : Int} (h : Half V G E z) (hz : ¬ z < lenI V) : E = G := by
  rw [lenI_eq] at hz
  refine List.ext_getElem? fun i => ?_
  have h1 := h.el
  have h2 := h.vg
  rw [h.eq]
  by_cases hi : (i : Int) < z
  · rw [if_pos hi]
  · rw [if_neg hi, List.getElem?_eq_none (by omega), List.getElem?_eq_none (by omega)]
theorem Half.plain {V G E : List (List AC)} {z : Int} (h : Half V G E z) (hV : plainE V = true) (hG : plainE G = true) : plainE E = true := by
  rw [plainE, List.all_eq_true]
  intro x hx
  obtain ⟨i, hi⟩ := List.getElem?_of_mem hx
  rw [h.eq] at hi
  by_cases hj : (i : Int) < z
  · rw [if_pos hj] at hi; exact List.all_eq_true.1 hG x (List.mem_of_getElem? hi)
  · rw [if_neg hj] at hi; exact List.all_eq_true.1 hV x (List.mem_of_getElem? hi)
set_option maxHeartbeats 8000000 in
theorem impl_Absolute_a (ns : List NNode) (hl : ns.length ≤ 1048576) (hs : ∀ y ∈ ns, y.small) (xs : List GFrame) (hx : xs.length ≤ 1048576) : PCon Try.prog 21 [.agg [.view (vwA NNode.ac ns)], .c (.view (vw GFrame.c xs))] fun res rows => res = .t (.c (.own 0)) ∧ rows = [⟨79, 5, vw GFrame.c (absF ns xs)⟩] := by
  have cc := impl_copyFrames_a xs hx
  have cT := impl_TreeOk_a ns hl hs
  have cF := impl_FrameAt_a xs hx
  obtain ⟨T, hT⟩ : ∃ T, T = vwA NNode.ac ns := ⟨_, rfl⟩
  have hTx : lenI T = (ns.length : Int) := by rw [lenI_eq, hT, vwA_length]
  have hisN : ∀ n, isN ns n = rng n 1 (lenI T) := fun n => by rw [hTx]; rfl
  have hT1 : lenI T ≤ 1048576 := by omega
  obtain ⟨V, hV⟩ : ∃ V, V = vw GFrame.c xs := ⟨_, rfl⟩
  have hVl : V.length = xs.length := by rw [hV, vw_length]
  have iV : immE V = true := by rw [hV]; exact vw_imm _ _
  have kV : ∀ y ∈ V, y.length = 5 := by rw [hV]; exact vw_k (c := GFrame.c) (k := 5) fun _ => rfl
  have dV : ∀ y ∈ V, y.all dat = true := by rw [hV]; exact vw_dat
  have pV := imm_plainE iV
  obtain ⟨G, hG⟩ : ∃ G, G = vw GFrame.c (absF ns xs) := ⟨_, rfl⟩
  have pG : plainE G = true := by rw [hG]; exact vw_plain _ _
  have hV2 : lenI V ≤ 1048576 := by rw [lenI_eq]; omega
  rw [← hV] at cc cF
  rw [← hT] at cT
  rw [← hT, ← hV, ← hG]
  refine pcon_run (c := body Try.f21) fits Try.func21 (by kernel_rfl) (by kernel_rfl) (by rfl) (by kernel_rfl) fun g F hg hF => ?_
  cbv
  refine callRow hg cc (dat_data rfl) iV ?_
  cbv
  cases hTB : treeB ns
  case false =>
    rw [hTB] at cT
    refine call0 hg cT rfl rfl ?_
    cbv
    have hGV : V = G := by rw [hG, absF, hTB, hV]; rfl
    rw [← hGV] at hF
    exact finRow hF rfl pV
  rw [hTB] at cT
  refine call0 hg cT rfl rfl ?_
  cbv
  replace hG : G = vw GFrame.c (xs.map (absG ns xs)) := by rw [hG, absF, if_pos hTB]
  have hGl : G.length = xs.length := by rw [hG, vw_length]; simp
  have hup := upD_all hTB
  refine loop_run hg fits (by kernel_rfl) (fun t : Int × List (List AC) => [(1, .t (.c (.view V))), (2, .t (.c (.ptr 0 0 0))), (5, .t (.c (.own 1))), (17, .t (ai (g .ln V))), (18, .t (ai t.1))]) (fun t => [.bx 55 1 [.view T], .rw ⟨79, 5, t.2⟩]) (fun t => Half V G t.2 t.1) (fun t => (lenI V).toNat - t.1.toNat)
    (0, V) [some 0, some 1] (Half.start (by rw [hGl, hVl])) (wkS [0, 1] (by decide) ⟨⟨_, rfl, rfl, rfl⟩, ⟨_, rfl, rfl, pV⟩, trivial⟩ ⟨rfl, rfl, rfl, rfl, rfl, trivial⟩) (fun t B hst hB => ?_)
  obtain ⟨z, E⟩ := t
  simp only at hst
  have h0 := hst.z0
  have h1 := hst.z1
  have hel := hst.el
  cbv
  cases hc : g .q .lss z (g .ln V)
  · rw [goLss hg, goLn hg, decide_eq_false_iff_not] at hc
    cbv
    obtain rfl := hst.done hc
    exact finRow hF rfl pG
  rw [goLss hg, goLn hg, decide_eq_true_eq] at hc
  cbv
  obtain ⟨x, hxx⟩ := at_z (xs := xs) h0 (by rw [lenI_eq] at hc; omega)
  have hyy : V[z.toNat]? = some (lc (GFrame.c x)) := by rw [hV]; exact vw_at hxx
  have hGG : G[z.toNat]? = some (lc (GFrame.c (absG ns xs x))) := by rw [hG]; exact vw_at (by simp [hxx])
  have hEy := hst.at hyy
  obtain ⟨j, hj⟩ : ∃ j, j = z.toNat := ⟨_, rfl⟩
  have hjl : j < E.length := by rw [lenI_eq] at hc; omega
  have hpE := hst.plain pV pG
  have hstep := hst.step hc hGG
  obtain ⟨a0, a1, a2, a3, a4⟩ := x
  obtain ⟨RX, hRX⟩ : ∃ X, X = absU ns xs ns.length a0 a1 a2 := ⟨_, rfl⟩
  replace hstep : Half V G (E.set z.toNat [.imm (.int .i64 a0), .imm (.int .i64 RX.1), .imm (.int .i64 RX.2), .imm (.int .i64 a3), .imm (.int .i64 a4)]) (z + 1) := by rw [hRX]; exact hstep
  replace hEy : E[z.toNat]? = some [.imm (.int .i64 a0), .imm (.int .i64 a1), .imm (.int .i64 a2), .imm (.int .i64 a3), .imm (.int .i64 a4)] := hEy
  rw [← hj] at hEy hstep
  refine goYj hg h0 hj hjl ?_
  cbv
  refine ⟨_, hEy, ?_⟩
  cbv
  refine loop_run hg fits (by kernel_rfl) (fun t : Nat × Int × Int × Int × List (List AC) => [(1, .t (.c (.view V))), (2, .t (.c (.ptr 0 0 0))), (5, .t (.c (.own 1))), (6, .t (ai z)), (7, .t (ai t.2.1)), (17, .t (ai (g .ln V))), (18, .t (ai z))]) (fun t => [.bx 55 1 [.view T], .rw ⟨79, 5, t.2.2.2.2⟩])
    (fun t => upD ns t.1 t.2.1 ∧ absU ns xs t.1 t.2.1 t.2.2.1 t.2.2.2.1 = RX ∧ t.2.2.2.2 = E.set j [.imm (.int .i64 a0), .imm (.int .i64 t.2.2.1), .imm (.int .i64 t.2.2.2.1), .imm (.int .i64 a3), .imm (.int .i64 a4)]) (fun t => t.1)
    (ns.length, a0, a1, a2, E) [some 0, some 1] ⟨hup _, hRX.symm, (set_same hEy).symm⟩ (wkS [0, 1] (by decide) ⟨⟨_, rfl, rfl, rfl⟩, ⟨_, rfl, rfl, hpE⟩, trivial⟩ ⟨rfl, rfl, rfl, rfl, rfl, rfl, rfl, trivial⟩) (fun t B2 hst2 hB2 => ?_)
  obtain ⟨k, n, X, Y, R⟩ := t
  obtain ⟨hu, hU, hR⟩ := hst2
  simp only at hu hU hR
  cbv
  have ci := impl_isNode_a T n
  rw [← hisN n] at ci
  cases hi : isN ns n
  · rw [hi] at ci
    rw [absU_out hi] at hU
    refine call0 hg ci rfl rfl ?_
    cbv
    have e1 : g .w .add .i64 z 1 = z + 1 := by rw [goAdd hg, wrap_small _ (by omega)]
    rw [e1]
    subst hU
    rw [← hR] at hstep
    exact back hB (z + 1, _) [some 0, some 1] (wkS [0, 1] (by decide) ⟨⟨_, rfl, rfl, rfl⟩, ⟨_, rfl, rfl, hstep.plain pV pG⟩, trivial⟩ ⟨rfl, rfl, rfl, rfl, rfl, trivial⟩) hstep (by show (lenI V).toNat - (z + 1).toNat < (lenI V).toNat - z.toNat; omega)
  rw [hi] at ci
  refine call0 hg ci rfl rfl ?_
  cbv
  cases k with
  | zero => exact absurd hu (by rw [upD, hi]; decide)
  | succ k =>
  obtain ⟨i1, i2, x, hx⟩ := isN_at hi
  have hi2 : n ≤ 1048576 := Int.le_trans (hTx ▸ i2) hT1
  have htt : T[(n - 1).toNat]? = some x.ac := by rw [hT]; exact vwA_at hx
  have hun := upN_at hx
  have hu2 : upD ns k x.up := by
    rcases hu with h | h
    · rw [hi] at h; cases h
    · rw [← hun]; exact h
  obtain ⟨b0, b1, ⟨b2, b3, b4, b5, b6, b7, b8, b9, b10, b11, b12, ⟨b13, b14⟩, ⟨b15, b16⟩, ⟨b17, b18⟩, ⟨b19, b20⟩, ⟨b21, b22⟩, ⟨b23, b24⟩, ⟨b25, b26⟩, b27, ⟨⟨b28, b29⟩, ⟨b30, b31⟩, ⟨b32, b33⟩, ⟨b34, b35⟩, ⟨b36, b37⟩, ⟨b38, b39⟩⟩, ⟨⟨b40, b41⟩, ⟨b42, b43⟩, ⟨b44, b45⟩, ⟨b46, b47⟩, ⟨b48, b49⟩, ⟨b50, b51⟩⟩, ⟨b52, b53, b54, b55⟩, ⟨b56, b57, b58, b59⟩, b60, b61⟩, b62, ⟨b63⟩⟩ := x
  replace htt : T[(n - 1).toNat]? = some [.imm (.int .i64 b0), .view (vw intC b1), .imm (.int .i64 b2), .imm (.int .i64 b3), .imm (.int .i64 b4), .imm (.int .i64 b5), .imm (.int .i64 b6), .imm (.int .i64 b7), .imm (.bool b8), .imm (.bool b9), .imm (.int .i64 b10), .imm (.int .i64 b11), .imm (.int .i64 b12), .imm (.int .i64 b13), .imm (.int .i64 b14), .imm (.int .i64 b15), .imm (.int .i64 b16), .imm (.int .i64 b17), .imm (.int .i64 b18), .imm (.int .i64 b19), .imm (.int .i64 b20), .imm (.int .i64 b21), .imm (.int .i64 b22), .imm (.int .i64 b23), .imm (.int .i64 b24), .imm (.int .i64 b25), .imm (.int .i64 b26), .imm (.int .i64 b27), .imm (.int .i64 b28), .imm (.int .i64 b29), .imm (.int .i64 b30), .imm (.int .i64 b31), .imm (.int .i64 b32), .imm (.int .i64 b33), .imm (.int .i64 b34), .imm (.int .i64 b35), .imm (.int .i64 b36), .imm (.int .i64 b37), .imm (.int .i64 b38), .imm (.int .i64 b39), .imm (.int .i64 b40), .imm (.int .i64 b41), .imm (.int .i64 b42), .imm (.int .i64 b43), .imm (.int .i64 b44), .imm (.int .i64 b45), .imm (.int .i64 b46), .imm (.int .i64 b47), .imm (.int .i64 b48), .imm (.int .i64 b49), .imm (.int .i64 b50), .imm (.int .i64 b51), .imm (.int .i64 b52), .imm (.int .i64 b53), .imm (.int .i64 b54), .imm (.int .i64 b55), .imm (.int .i64 b56), .imm (.int .i64 b57), .imm (.int .i64 b58), .imm (.int .i64 b59), .imm (.int .i64 b60), .imm (.int .i64 b61), .imm (.bool b62), .view (vw GRule.c b63)] := htt
  obtain ⟨Vb1, hVb1⟩ : ∃ V, V = vw intC b1 := ⟨_, rfl⟩
  obtain ⟨Vb63, hVb63⟩ : ∃ V, V = vw GRule.c b63 := ⟨_, rfl⟩
  rw [← hVb1, ← hVb63] at htt
  simp only at hun hu2
  refine call0 hg (impl_node_a T n i1 hi2 htt) rfl rfl ?_
  cbv
  have cf := cF b0
  obtain ⟨⟨⟨r0, r1, r2, r3, r4⟩, ok⟩, hr⟩ : ∃ r, r = frF b0 xs := ⟨_, rfl⟩
  rw [← hr] at cf
  refine call0 hg cf rfl rfl ?_
  cbv
  have hRl : j < R.length := by rw [hR, List.length_set]; exact hjl
  have hRj : R[j]? = some [.imm (.int .i64 a0), .imm (.int .i64 X), .imm (.int .i64 Y), .imm (.int .i64 a3), .imm (.int .i64 a4)] := by rw [hR]; exact List.getElem?_set_self hjl
  have hst3 : (b0 = 0 ∨ ok = false) → (X, Y) = RX := fun h => by rw [← hU, absU_end hi hun hr.symm h]
  have hst4 : b0 ≠ 0 → ok = true → absU ns xs k b0 (wrap64 (X + r1)) (wrap64 (Y + r2)) = RX := fun h h' => by subst h'; rw [← hU, absU_up hi hun hr.symm h]
  have ez : g .w .add .i64 z 1 = z + 1 := by rw [goAdd hg, wrap_small _ (by omega)]
  have hend : (X, Y) = RX → Half V G R (z + 1) := fun h => by subst h; rw [hR]; exact hstep
  cases e0 : g .q .eql b0 0
  case true =>
    rw [goEql hg, beq_iff_eq] at e0
    have hs' := hend (hst3 (.inl e0))
    cbv
    rw [ez]
    exact back hB (z + 1, _) [some 0, some 1] (wkS [0, 1] (by decide) ⟨⟨_, rfl, rfl, rfl⟩, ⟨_, rfl, rfl, hs'.plain pV pG⟩, trivial⟩ ⟨rfl, rfl, rfl, rfl, rfl, trivial⟩) hs' (by show (lenI V).toNat - (z + 1).toNat < (lenI V).toNat - z.toNat; omega)
  rw [goEql hg, beq_eq_false_iff_ne] at e0
  cases ok
  case false =>
    have hs' := hend (hst3 (.inr rfl))
    cbv
    rw [ez]
    exact back hB (z + 1, _) [some 0, some 1] (wkS [0, 1] (by decide) ⟨⟨_, rfl, rfl, rfl⟩, ⟨_, rfl, rfl, hs'.plain pV pG⟩, trivial⟩ ⟨rfl, rfl, rfl, rfl, rfl, trivial⟩) hs' (by show (lenI V).toNat - (z + 1).toNat < (lenI V).toNat - z.toNat; omega)
  replace hst4 := hst4 e0 rfl
  obtain ⟨P, hP⟩ : ∃ P, P = wrap64 (X + r1) := ⟨_, rfl⟩
  obtain ⟨Q, hQ⟩ : ∃ Q, Q = wrap64 (Y + r2) := ⟨_, rfl⟩
  have eP : g .w .add .i64 X r1 = P := by rw [goAdd hg, hP]
  have eQ : g .w .add .i64 Y r2 = Q := by rw [goAdd hg, hQ]
  rw [← hP, ← hQ] at hst4
  cbv
  refine goYj hg h0 hj hRl ?_
  cbv
  refine ⟨_, hRj, ?_⟩
  cbv
  refine goYj hg h0 hj hRl ?_
  cbv
  refine ⟨_, hRj, ?_⟩
  cbv
  rw [eP]
  generalize hG1 : g .st _ _ _ = R1
  generalize hX1 : putC _ _ _ = x1 at hG1
  cbv at hX1
  subst hX1
  obtain ⟨s1_, h1_, l1_⟩ := st_step hg hG1 hR hjl
  clear hG1
  refine goYj hg h0 hj l1_ ?_
  cbv
  refine ⟨_, h1_, ?_⟩
  cbv
  refine goYj hg h0 hj l1_ ?_
  cbv
  refine ⟨_, h1_, ?_⟩
  cbv
  rw [eQ]
  generalize hG2 : g .st _ _ _ = R2
  generalize hX2 : putC _ _ _ = x2 at hG2
  cbv at hX2
  subst hX2
  obtain ⟨s2_, h2_, l2_⟩ := st_step hg hG2 s1_ hjl
  clear hG2
  exact back hB2 (k, b0, P, Q, R2) [some 0, some 1] (wkS [0, 1] (by decide) ⟨⟨_, rfl, rfl, rfl⟩, ⟨_, rfl, rfl, (by rw [s2_]; exact plain_set hpE rfl)⟩, trivial⟩ ⟨rfl, rfl, rfl, rfl, rfl, rfl, rfl, trivial⟩) ⟨hu2, hst4, s2_⟩ (Nat.lt_succ_self _)
set_option maxHeartbeats 8000000 in
theorem spec_Absolute_a (ns : List NNode) (hl : ns.length ≤ 1048576) (hs : ∀ y ∈ ns, y.small) (xs : List GFrame) (hx : xs.length ≤ 1048576) : PCon Try.prog 18 [.agg [.view (vwA NNode.ac ns)], .c (.view (vw GFrame.c xs))] fun res rows => res = .t (.c (.own 0)) ∧ rows = [⟨79, 5, vw GFrame.c (absF ns xs)⟩] := by
  have cT := spec_TreeOk_a ns hl hs
  have cF := spec_FrameAt_a xs hx
  obtain ⟨T, hT⟩ : ∃ T, T = vwA NNode.ac ns := ⟨_, rfl⟩
  have hTx : lenI T = (ns.length : Int) := by rw [lenI_eq, hT, vwA_length]
  have hisN : ∀ n, isN ns n = rng n 1 (lenI T) := fun n => by rw [hTx]; rfl
  have hT1 : lenI T ≤ 1048576 := by omega
  obtain ⟨V, hV⟩ : ∃ V, V = vw GFrame.c xs := ⟨_, rfl⟩
  have hVl : V.length = xs.length := by rw [hV, vw_length]
  have iV : immE V = true := by rw [hV]; exact vw_imm _ _
  have kV : ∀ y ∈ V, y.length = 5 := by rw [hV]; exact vw_k (c := GFrame.c) (k := 5) fun _ => rfl
  have dV : ∀ y ∈ V, y.all dat = true := by rw [hV]; exact vw_dat
  have pV := imm_plainE iV
  obtain ⟨G, hG⟩ : ∃ G, G = vw GFrame.c (absF ns xs) := ⟨_, rfl⟩
  have pG : plainE G = true := by rw [hG]; exact vw_plain _ _
  have hV2 : lenI V ≤ 1048576 := by rw [lenI_eq]; omega
  rw [← hV] at cF
  rw [← hT] at cT
  rw [← hT, ← hV, ← hG]
  refine pcon_run (c := body Try.f18) fits Try.func18 (by kernel_rfl) (by kernel_rfl) (by rfl) (by kernel_rfl) fun g F hg hF => ?_
  cbv
  refine goNV0 hg kV (by decide) (by rw [hVl]; exact hx) ?_
  cbv
  rw [goAp hg, List.nil_append]
  cases hTB : treeB ns
  case false =>
    rw [hTB] at cT
    refine call0 hg cT rfl rfl ?_
    cbv
    have hGV : V = G := by rw [hG, absF, hTB, hV]; rfl
    rw [← hGV] at hF
    exact finRow hF rfl pV
  rw [hTB] at cT
  refine call0 hg cT rfl rfl ?_
  cbv
  replace hG : G = vw GFrame.c (xs.map (absG ns xs)) := by rw [hG, absF, if_pos hTB]
  have hGl : G.length = xs.length := by rw [hG, vw_length]; simp
  have hup := upD_all hTB
  refine loop_run hg fits (by kernel_rfl) (fun t : Int × List (List AC) => [(1, .t (.c (.view V))), (2, .t (.c (.ptr 0 0 0))), (5, .t (.c (.own 1))), (6, .t (ai t.1))]) (fun t => [.bx 55 1 [.view T], .rw ⟨79, 5, t.2⟩]) (fun t => Half V G t.2 t.1) (fun t => (lenI V).toNat - t.1.toNat)
    (0, V) [some 0, some 2] (Half.start (by rw [hGl, hVl])) (wkS [0, 2] (by decide) ⟨⟨_, rfl, rfl, rfl⟩, ⟨_, rfl, rfl, pV⟩, trivial⟩ ⟨rfl, rfl, rfl, rfl, trivial⟩) (fun t B hst hB => ?_)
  obtain ⟨z, E⟩ := t
  simp only at hst
  have h0 := hst.z0
  have h1 := hst.z1
  have hel := hst.el
  have hEV : lenI E = lenI V := by rw [lenI_eq, lenI_eq, hel]
  cbv
  cases hc : g .q .lss z (g .ln E)
  · rw [goLss hg, goLn hg, hEV, decide_eq_false_iff_not] at hc
    cbv
    obtain rfl := hst.done hc
    exact finRow hF rfl pG
  rw [goLss hg, goLn hg, hEV, decide_eq_true_eq] at hc
  cbv
  obtain ⟨x, hxx⟩ := at_z (xs := xs) h0 (by rw [lenI_eq] at hc; omega)
  have hyy : V[z.toNat]? = some (lc (GFrame.c x)) := by rw [hV]; exact vw_at hxx
  have hGG : G[z.toNat]? = some (lc (GFrame.c (absG ns xs x))) := by rw [hG]; exact vw_at (by simp [hxx])
  have hEy := hst.at hyy
  obtain ⟨j, hj⟩ : ∃ j, j = z.toNat := ⟨_, rfl⟩
  have hjl : j < E.length := by rw [lenI_eq] at hc; omega
  have hpE := hst.plain pV pG
  have hstep := hst.step hc hGG
  obtain ⟨a0, a1, a2, a3, a4⟩ := x
  obtain ⟨RX, hRX⟩ : ∃ X, X = absU ns xs ns.length a0 a1 a2 := ⟨_, rfl⟩
  replace hstep : Half V G (E.set z.toNat [.imm (.int .i64 a0), .imm (.int .i64 RX.1), .imm (.int .i64 RX.2), .imm (.int .i64 a3), .imm (.int .i64 a4)]) (z + 1) := by rw [hRX]; exact hstep
  replace hEy : E[z.toNat]? = some [.imm (.int .i64 a0), .imm (.int .i64 a1), .imm (.int .i64 a2), .imm (.int .i64 a3), .imm (.int .i64 a4)] := hEy
  rw [← hj] at hEy hstep
  refine goYj hg h0 hj hjl ?_
  cbv
  refine ⟨_, hEy, ?_⟩
  cbv
  refine loop_run hg fits (by kernel_rfl) (fun t : Nat × Int × Int × Int × List (List AC) => [(1, .t (.c (.view V))), (2, .t (.c (.ptr 0 0 0))), (5, .t (.c (.own 1))), (6, .t (ai z)), (7, .t (ai t.2.1))]) (fun t => [.bx 55 1 [.view T], .rw ⟨79, 5, t.2.2.2.2⟩])
    (fun t => upD ns t.1 t.2.1 ∧ absU ns xs t.1 t.2.1 t.2.2.1 t.2.2.2.1 = RX ∧ t.2.2.2.2 = E.set j [.imm (.int .i64 a0), .imm (.int .i64 t.2.2.1), .imm (.int .i64 t.2.2.2.1), .imm (.int .i64 a3), .imm (.int .i64 a4)]) (fun t => t.1)
    (ns.length, a0, a1, a2, E) [some 0, some 1] ⟨hup _, hRX.symm, (set_same hEy).symm⟩ (wkS [0, 1] (by decide) ⟨⟨_, rfl, rfl, rfl⟩, ⟨_, rfl, rfl, hpE⟩, trivial⟩ ⟨rfl, rfl, rfl, rfl, rfl, trivial⟩) (fun t B2 hst2 hB2 => ?_)
  obtain ⟨k, n, X, Y, R⟩ := t
  obtain ⟨hu, hU, hR⟩ := hst2
  simp only at hu hU hR
  cbv
  have ci := spec_l10Is_a T n
  rw [← hisN n] at ci
  cases hi : isN ns n
  · rw [hi] at ci
    rw [absU_out hi] at hU
    refine call0 hg ci rfl rfl ?_
    cbv
    have e1 : g .w .add .i64 z 1 = z + 1 := by rw [goAdd hg, wrap_small _ (by omega)]
    rw [e1]
    subst hU
    rw [← hR] at hstep
    exact back hB (z + 1, _) [some 0, some 1] (wkS [0, 1] (by decide) ⟨⟨_, rfl, rfl, rfl⟩, ⟨_, rfl, rfl, hstep.plain pV pG⟩, trivial⟩ ⟨rfl, rfl, rfl, rfl, trivial⟩) hstep (by show (lenI V).toNat - (z + 1).toNat < (lenI V).toNat - z.toNat; omega)
  rw [hi] at ci
  refine call0 hg ci rfl rfl ?_
  cbv
  cases k with
  | zero => exact absurd hu (by rw [upD, hi]; decide)
  | succ k =>
  obtain ⟨i1, i2, x, hx⟩ := isN_at hi
  have hi2 : n ≤ 1048576 := Int.le_trans (hTx ▸ i2) hT1
  have htt : T[(n - 1).toNat]? = some x.ac := by rw [hT]; exact vwA_at hx
  have hun := upN_at hx
  have hu2 : upD ns k x.up := by
    rcases hu with h | h
    · rw [hi] at h; cases h
    · rw [← hun]; exact h
  obtain ⟨b0, b1, ⟨b2, b3, b4, b5, b6, b7, b8, b9, b10, b11, b12, ⟨b13, b14⟩, ⟨b15, b16⟩, ⟨b17, b18⟩, ⟨b19, b20⟩, ⟨b21, b22⟩, ⟨b23, b24⟩, ⟨b25, b26⟩, b27, ⟨⟨b28, b29⟩, ⟨b30, b31⟩, ⟨b32, b33⟩, ⟨b34, b35⟩, ⟨b36, b37⟩, ⟨b38, b39⟩⟩, ⟨⟨b40, b41⟩, ⟨b42, b43⟩, ⟨b44, b45⟩, ⟨b46, b47⟩, ⟨b48, b49⟩, ⟨b50, b51⟩⟩, ⟨b52, b53, b54, b55⟩, ⟨b56, b57, b58, b59⟩, b60, b61⟩, b62, ⟨b63⟩⟩ := x
  replace htt : T[(n - 1).toNat]? = some [.imm (.int .i64 b0), .view (vw intC b1), .imm (.int .i64 b2), .imm (.int .i64 b3), .imm (.int .i64 b4), .imm (.int .i64 b5), .imm (.int .i64 b6), .imm (.int .i64 b7), .imm (.bool b8), .imm (.bool b9), .imm (.int .i64 b10), .imm (.int .i64 b11), .imm (.int .i64 b12), .imm (.int .i64 b13), .imm (.int .i64 b14), .imm (.int .i64 b15), .imm (.int .i64 b16), .imm (.int .i64 b17), .imm (.int .i64 b18), .imm (.int .i64 b19), .imm (.int .i64 b20), .imm (.int .i64 b21), .imm (.int .i64 b22), .imm (.int .i64 b23), .imm (.int .i64 b24), .imm (.int .i64 b25), .imm (.int .i64 b26), .imm (.int .i64 b27), .imm (.int .i64 b28), .imm (.int .i64 b29), .imm (.int .i64 b30), .imm (.int .i64 b31), .imm (.int .i64 b32), .imm (.int .i64 b33), .imm (.int .i64 b34), .imm (.int .i64 b35), .imm (.int .i64 b36), .imm (.int .i64 b37), .imm (.int .i64 b38), .imm (.int .i64 b39), .imm (.int .i64 b40), .imm (.int .i64 b41), .imm (.int .i64 b42), .imm (.int .i64 b43), .imm (.int .i64 b44), .imm (.int .i64 b45), .imm (.int .i64 b46), .imm (.int .i64 b47), .imm (.int .i64 b48), .imm (.int .i64 b49), .imm (.int .i64 b50), .imm (.int .i64 b51), .imm (.int .i64 b52), .imm (.int .i64 b53), .imm (.int .i64 b54), .imm (.int .i64 b55), .imm (.int .i64 b56), .imm (.int .i64 b57), .imm (.int .i64 b58), .imm (.int .i64 b59), .imm (.int .i64 b60), .imm (.int .i64 b61), .imm (.bool b62), .view (vw GRule.c b63)] := htt
  obtain ⟨Vb1, hVb1⟩ : ∃ V, V = vw intC b1 := ⟨_, rfl⟩
  obtain ⟨Vb63, hVb63⟩ : ∃ V, V = vw GRule.c b63 := ⟨_, rfl⟩
  rw [← hVb1, ← hVb63] at htt
  simp only at hun hu2
  refine call0 hg (spec_l10Node_a T n i1 hi2 htt) rfl rfl ?_
  cbv
  have cf := cF b0
  obtain ⟨⟨⟨r0, r1, r2, r3, r4⟩, ok⟩, hr⟩ : ∃ r, r = frF b0 xs := ⟨_, rfl⟩
  rw [← hr] at cf
  refine call0 hg cf rfl rfl ?_
  cbv
  have hRl : j < R.length := by rw [hR, List.length_set]; exact hjl
  have hRj : R[j]? = some [.imm (.int .i64 a0), .imm (.int .i64 X), .imm (.int .i64 Y), .imm (.int .i64 a3), .imm (.int .i64 a4)] := by rw [hR]; exact List.getElem?_set_self hjl
  have hst3 : (b0 = 0 ∨ ok = false) → (X, Y) = RX := fun h => by rw [← hU, absU_end hi hun hr.symm h]
  have hst4 : b0 ≠ 0 → ok = true → absU ns xs k b0 (wrap64 (X + r1)) (wrap64 (Y + r2)) = RX := fun h h' => by subst h'; rw [← hU, absU_up hi hun hr.symm h]
  have ez : g .w .add .i64 z 1 = z + 1 := by rw [goAdd hg, wrap_small _ (by omega)]
  have hend : (X, Y) = RX → Half V G R (z + 1) := fun h => by subst h; rw [hR]; exact hstep
  cases e0 : g .q .eql b0 0
  case true =>
    rw [goEql hg, beq_iff_eq] at e0
    have hs' := hend (hst3 (.inl e0))
    cbv
    rw [ez]
    exact back hB (z + 1, _) [some 0, some 1] (wkS [0, 1] (by decide) ⟨⟨_, rfl, rfl, rfl⟩, ⟨_, rfl, rfl, hs'.plain pV pG⟩, trivial⟩ ⟨rfl, rfl, rfl, rfl, trivial⟩) hs' (by show (lenI V).toNat - (z + 1).toNat < (lenI V).toNat - z.toNat; omega)
  rw [goEql hg, beq_eq_false_iff_ne] at e0
  cases ok
  case false =>
    have hs' := hend (hst3 (.inr rfl))
    cbv
    rw [ez]
    exact back hB (z + 1, _) [some 0, some 1] (wkS [0, 1] (by decide) ⟨⟨_, rfl, rfl, rfl⟩, ⟨_, rfl, rfl, hs'.plain pV pG⟩, trivial⟩ ⟨rfl, rfl, rfl, rfl, trivial⟩) hs' (by show (lenI V).toNat - (z + 1).toNat < (lenI V).toNat - z.toNat; omega)
  replace hst4 := hst4 e0 rfl
  obtain ⟨P, hP⟩ : ∃ P, P = wrap64 (X + r1) := ⟨_, rfl⟩
  obtain ⟨Q, hQ⟩ : ∃ Q, Q = wrap64 (Y + r2) := ⟨_, rfl⟩
  have eP : g .w .add .i64 X r1 = P := by rw [goAdd hg, hP]
  have eQ : g .w .add .i64 Y r2 = Q := by rw [goAdd hg, hQ]
  rw [← hP, ← hQ] at hst4
  cbv
  refine goYj hg h0 hj hRl ?_
  cbv
  refine ⟨_, hRj, ?_⟩
  cbv
  refine goYj hg h0 hj hRl ?_
  cbv
  refine ⟨_, hRj, ?_⟩
  cbv
  rw [eP]
  generalize hG1 : g .st _ _ _ = R1
  generalize hX1 : putC _ _ _ = x1 at hG1
  cbv at hX1
  subst hX1
  obtain ⟨s1_, h1_, l1_⟩ := st_step hg hG1 hR hjl
  clear hG1
  refine goYj hg h0 hj l1_ ?_
  cbv
  refine ⟨_, h1_, ?_⟩
  cbv
  refine goYj hg h0 hj l1_ ?_
  cbv
  refine ⟨_, h1_, ?_⟩
  cbv
  rw [eQ]
  generalize hG2 : g .st _ _ _ = R2
  generalize hX2 : putC _ _ _ = x2 at hG2
  cbv at hX2
  subst hX2
  obtain ⟨s2_, h2_, l2_⟩ := st_step hg hG2 s1_ hjl
  clear hG2
  exact back hB2 (k, b0, P, Q, R2) [some 0, some 1] (wkS [0, 1] (by decide) ⟨⟨_, rfl, rfl, rfl⟩, ⟨_, rfl, rfl, (by rw [s2_]; exact plain_set hpE rfl)⟩, trivial⟩ ⟨rfl, rfl, rfl, rfl, rfl, trivial⟩) ⟨hu2, hst4, s2_⟩ (Nat.lt_succ_self _)

end Go.Proofs.Ytenbloaopcfdlaa
