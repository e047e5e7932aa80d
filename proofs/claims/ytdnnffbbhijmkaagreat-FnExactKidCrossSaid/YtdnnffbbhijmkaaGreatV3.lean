/- A child's space across. -/
import Derived.Test.YtdnnffbbhijmkaaGreatV2
namespace Go.Proofs.YtdnnffbbhijmkaaGreat
open Go.ChangeShapes Go.WideShapes Go.ChangeAt Go.RowKit Am
set_option linter.unusedVariables false
set_option linter.unusedSimpArgs false
set_option maxRecDepth 100000

def datE : AC → Bool
  | .imm _ => true
  | .view _ => true
  | .eptr _ _ => true
  | _ => false
theorem rt_data {F : Nat → Prop} {w : World} {m : AM} {h : AH} {x : AT} {v : Value} (hp : x.cells.all datE = true) (hv : RT F w m h x v) : RT F w [] [] x v := by
  have key : ∀ (c : AC) (u : Value), datE c = true → RC F w m h c u → RC F w [] [] c u := by
    intro c u hc hr
    cases c <;> first | exact hr | cases hc
  cases x with
  | c y => exact key y v (by simpa [AT.cells] using hp) hv
  | agg xs =>
    obtain ⟨vs, h1, h2, h3⟩ := hv
    exact ⟨vs, h1, h2, fun j y hj => let ⟨u, hu, ho, hr⟩ := h3 j y hj; ⟨u, hu, ho, key y u (List.all_eq_true.1 hp y (List.mem_of_getElem? hj)) hr⟩⟩
/-- A call that is handed data, pointers to data among them. -/
theorem con_data {P : Program} {f : FuncId} {h : AH} {args : List AT} {Post : AV → List AB → Prop} (hc : PCon P f args Post) (hp : (args.all fun x => x.cells.all datE) = true) : Con P f h args fun res h' => ∃ r rows, Post r rows ∧ res = r.shift h.length ∧ h' = h ++ (rows.map (AB.shift h.length)).map .live :=
  ⟨hc.1, fun F w m vs hH hl hx => (hc.2 F w [] vs (RH.empty hH.old) hl (fun j x hj => by
    obtain ⟨v, hv, hr⟩ := hx j x hj
    exact ⟨v, hv, rt_data (List.all_eq_true.1 hp x (List.mem_of_getElem? hj)) hr⟩)).mono fun e w'' ⟨v, res, h', m', F1, he, ⟨rows, hh, hpost⟩, hG, hs, hv⟩ => by
    subst hh
    obtain ⟨m2, F2, g1, g2, g3⟩ := Step.of_outG hH (out_of_callG (n := h.length) hG hs hv)
    exact ⟨v, _, _, m2, F2, he, ⟨res, rows, hpost, rfl, rfl⟩, g1, g2, g3⟩⟩
theorem callD {P : Program} {n0 N : Nat} {h : EH} {g : Gd} (hg : g = G0 P n0 N) {f : FuncId} {args : List AT} {K : AV → EH → Prop} {r : AV} (hc : PCon P f args fun res rows => res = r ∧ rows = []) (hp : (args.all fun x => x.cells.all datE) = true) (hr : plainV r = true) (hK : K r (h ++ [])) : g .C f h args K := by
  subst hg
  refine (con_data (h := toH h) hc hp).mono fun res h' ⟨r0, rows, ⟨e1, e2⟩, h1, h2⟩ => ?_
  subst e1 e2
  subst h1 h2
  exact ⟨h, by simp, by rw [plain_shiftV hr]; simpa using hK⟩
def crsO (s k : GStyle) (rtl row : Bool) (ac : GSpace) (kn : Int) : GSpace :=
  let sd := sdB s k rtl false kn
  let b := wrap64 (sd.before + sd.behind)
  if fixO k (!row) (knS ac) ≠ -1 then ⟨3, bndO k (!row) (knS ac) (fixO k (!row) (knS ac))⟩
  else if filB { sd with align := algn s k } = true ∧ s.wrap = 1 ∧ ac.mode = 3 then ⟨3, bndO k (!row) (knS ac) (wrap64 (ac.n - b))⟩
  else loos (innS ac b)
set_option maxHeartbeats 16000000 in
theorem spec_l18Cross_a (ns : List NNode) (hl : ns.length ≤ 1048576) (kid : Int) (y : NNode) (h1 : isN ns kid = true) (hy : ns[(kid - 1).toNat]? = some y) (rtl kp : Bool) (C D : AC) (n : Int) (s : GStyle) (row : Bool) (al ac : GSpace) (kn : Int) (K : List (List AC)) : PCon Tryz.prog 65 [.c (.eptr [.view (vwA NNode.ac ns), .imm (.bool rtl), .imm (.bool kp), C, D] 0), .agg (nwL n s row al ac kn (.view K)), ai kid] fun res rows => res = .t (agP (crsO s y.style rtl row ac kn)) ∧ rows = [] := by
  obtain ⟨Ky, hKy⟩ : ∃ K, K = vw intC y.kids := ⟨_, rfl⟩
  obtain ⟨Ry, hRy⟩ : ∃ R, R = vw GRule.c y.table.rules := ⟨_, rfl⟩
  have b2 := isN_at h1
  have cs := spec_l18Sides_a ns hl kid y h1 hy rtl false kp C D n s row al ac kn K
  obtain ⟨V, hV⟩ : ∃ V, V = vwA NNode.ac ns := ⟨_, rfl⟩
  have cy := spec_l10Node_x ns kid y b2.1 (by have := b2.2.1; omega) hy V Ky Ry hV hKy hRy
  have ck := spec_l18Known_a ac.mode ac.n
  change PCon _ _ _ fun res rows => res = .t (ai (knS ac)) ∧ rows = [] at ck
  have cf := spec_FixedOf_a y.style (!row) (knS ac)
  have cb := spec_Bounded_a y.style (!row) (knS ac) (fixO y.style (!row) (knS ac))
  have ca := spec_AlignOf_a s y.style
  have ci := fun z => spec_InnerOf_a ac.mode ac.n z
  have cL := spec_Loosened_a
  obtain ⟨R, hR⟩ : ∃ R, R = crsO s y.style rtl row ac kn := ⟨_, rfl⟩
  rw [← hV] at cs
  rw [← hV, ← hR]
  unfold crsO at hR
  simp only at hR
  obtain ⟨SD, hSD⟩ : ∃ S, S = sdB s y.style rtl false kn := ⟨_, rfl⟩
  rw [← hSD] at cs hR
  clear hSD
  obtain ⟨am, an⟩ := ac
  obtain ⟨KN, hKN⟩ : ∃ S, S = knS ⟨am, an⟩ := ⟨_, rfl⟩
  rw [← hKN] at ck cf cb hR
  have cb := fun z => spec_Bounded_a y.style (!row) KN z
  obtain ⟨FX, hFX⟩ : ∃ S, S = fixO y.style (!row) KN := ⟨_, rfl⟩
  rw [← hFX] at cf hR
  obtain ⟨AL, hAL⟩ : ∃ S, S = algn s y.style := ⟨_, rfl⟩
  rw [← hAL] at ca hR
  clear hAL hFX hKN
  have cF := spec_Fills_a { SD with align := AL }
  have cB := spec_l18Both_a { SD with align := AL }
  change PCon _ _ _ fun res rows => res = .t (ai (wrap64 (SD.before + SD.behind))) ∧ rows = [] at cB
  obtain ⟨FB, hFB⟩ : ∃ S, S = filB { SD with align := AL } := ⟨_, rfl⟩
  rw [← hFB] at cF hR
  obtain ⟨BB, hBB⟩ : ∃ S, S = wrap64 (SD.before + SD.behind) := ⟨_, rfl⟩
  rw [← hBB] at cB hR
  clear hFB hBB
  have ci := ci BB
  change PCon _ _ _ fun res rows => res = .t (agP (innS ⟨am, an⟩ BB)) ∧ rows = [] at ci
  obtain ⟨i1, i2, hI⟩ : ∃ i1 i2, (⟨i1, i2⟩ : GSpace) = innS ⟨am, an⟩ BB := ⟨_, _, rfl⟩
  rw [← hI] at ci hR
  clear hI
  have cL := cL i1 i2
  obtain ⟨l1, l2, hL⟩ : ∃ j1 j2, (⟨j1, j2⟩ : GSpace) = loos ⟨i1, i2⟩ := ⟨_, _, rfl⟩
  rw [← hL] at cL hR
  clear hL
  obtain ⟨ZZ, hZZ⟩ : ∃ S, S = wrap64 (an - BB) := ⟨_, rfl⟩
  have cb1 := cb FX
  have cb2 := cb ZZ
  obtain ⟨B1, hB1⟩ : ∃ S, S = bndO y.style (!row) KN FX := ⟨_, rfl⟩
  obtain ⟨B2, hB2⟩ : ∃ S, S = bndO y.style (!row) KN ZZ := ⟨_, rfl⟩
  rw [← hZZ, ← hB1, ← hB2] at hR
  rw [← hB1] at cb1
  rw [← hB2] at cb2
  clear hB1 hB2 cb
  obtain ⟨wr, hwr⟩ : ∃ w, w = s.wrap := ⟨_, rfl⟩
  rw [← hwr] at hR
  by_cases q1 : FX = -1
  · simp only [q1, ne_eq, not_true_eq_false, if_false] at hR
    subst q1
    have t1 : ∀ g : Gd, g = G0 Tryz.prog 0 Tryz.f65.ntmps → g .q .neq (-1) (-1) = false := fun g hg => by rw [goNeq hg]; rfl
    have t2 : ∀ g : Gd, g = G0 Tryz.prog 0 Tryz.f65.ntmps → g .q .eql s.wrap 1 = decide (wr = 1) := fun g hg => by rw [goEql hg, hwr]; exact Bool.beq_eq_decide_eq _ _
    have t3 : ∀ g : Gd, g = G0 Tryz.prog 0 Tryz.f65.ntmps → g .q .eql am 3 = decide (am = 3) := fun g hg => by rw [goEql hg]; exact Bool.beq_eq_decide_eq _ _
    have t4 : ∀ g : Gd, g = G0 Tryz.prog 0 Tryz.f65.ntmps → g .w .sub .i64 an BB = ZZ := fun g hg => by rw [goSub hg, hZZ]
    clear hwr hZZ
    cases FB
    case false =>
      simp only [Bool.false_eq_true, false_and, if_false] at hR
      rw [hR]
      clear hR
      refine pcon_run (c := body Tryz.f65) fits Tryz.func65 (by kernel_rfl) (by kernel_rfl) (by rfl) (by kernel_rfl) fun g F hg hF => ?_
      have t1 := t1 g hg
      cbv
      repeat' (first | (refine call0 hg cy rfl rfl ?_; cbv) | (refine call0P hg cy rfl rfl ?_; cbv) | (refine call0 hg ck rfl rfl ?_; cbv) | (refine call0P hg ck rfl rfl ?_; cbv))
      refine callD hg cs rfl rfl ?_
      cbv
      repeat' (first | (refine call0 hg cf rfl rfl ?_; cbv) | (refine call0P hg cf rfl rfl ?_; cbv))
      rw [t1]
      cbv
      repeat' (first | (refine call0 hg ca rfl rfl ?_; cbv) | (refine call0P hg ca rfl rfl ?_; cbv) | (refine call0 hg cF rfl rfl ?_; cbv) | (refine call0P hg cF rfl rfl ?_; cbv) | (refine call0 hg cB rfl rfl ?_; cbv) | (refine call0P hg cB rfl rfl ?_; cbv) | (refine call0 hg ci rfl rfl ?_; cbv) | (refine call0P hg ci rfl rfl ?_; cbv) | (refine call0 hg cL rfl rfl ?_; cbv) | (refine call0P hg cL rfl rfl ?_; cbv))
      exact fin0v hF ⟨rfl, rfl⟩
    by_cases q2 : wr = 1
    case neg =>
      simp only [q2, false_and, and_false, if_false] at hR
      rw [hR]
      clear hR
      refine pcon_run (c := body Tryz.f65) fits Tryz.func65 (by kernel_rfl) (by kernel_rfl) (by rfl) (by kernel_rfl) fun g F hg hF => ?_
      have t1 := t1 g hg
      have t2 := t2 g hg
      rw [decide_eq_false q2] at t2
      cbv
      repeat' (first | (refine call0 hg cy rfl rfl ?_; cbv) | (refine call0P hg cy rfl rfl ?_; cbv) | (refine call0 hg ck rfl rfl ?_; cbv) | (refine call0P hg ck rfl rfl ?_; cbv))
      refine callD hg cs rfl rfl ?_
      cbv
      repeat' (first | (refine call0 hg cf rfl rfl ?_; cbv) | (refine call0P hg cf rfl rfl ?_; cbv))
      rw [t1]
      cbv
      repeat' (first | (refine call0 hg ca rfl rfl ?_; cbv) | (refine call0P hg ca rfl rfl ?_; cbv) | (refine call0 hg cF rfl rfl ?_; cbv) | (refine call0P hg cF rfl rfl ?_; cbv))
      rw [t2]
      cbv
      repeat' (first | (refine call0 hg cB rfl rfl ?_; cbv) | (refine call0P hg cB rfl rfl ?_; cbv) | (refine call0 hg ci rfl rfl ?_; cbv) | (refine call0P hg ci rfl rfl ?_; cbv) | (refine call0 hg cL rfl rfl ?_; cbv) | (refine call0P hg cL rfl rfl ?_; cbv))
      exact fin0v hF ⟨rfl, rfl⟩
    by_cases q3 : am = 3
    case neg =>
      simp only [q3, false_and, and_false, if_false] at hR
      rw [hR]
      clear hR
      refine pcon_run (c := body Tryz.f65) fits Tryz.func65 (by kernel_rfl) (by kernel_rfl) (by rfl) (by kernel_rfl) fun g F hg hF => ?_
      have t1 := t1 g hg
      have t2 := t2 g hg
      have t3 := t3 g hg
      rw [decide_eq_true q2] at t2
      rw [decide_eq_false q3] at t3
      cbv
      repeat' (first | (refine call0 hg cy rfl rfl ?_; cbv) | (refine call0P hg cy rfl rfl ?_; cbv) | (refine call0 hg ck rfl rfl ?_; cbv) | (refine call0P hg ck rfl rfl ?_; cbv))
      refine callD hg cs rfl rfl ?_
      cbv
      repeat' (first | (refine call0 hg cf rfl rfl ?_; cbv) | (refine call0P hg cf rfl rfl ?_; cbv))
      rw [t1]
      cbv
      repeat' (first | (refine call0 hg ca rfl rfl ?_; cbv) | (refine call0P hg ca rfl rfl ?_; cbv) | (refine call0 hg cF rfl rfl ?_; cbv) | (refine call0P hg cF rfl rfl ?_; cbv))
      rw [t2]
      cbv
      rw [t3]
      cbv
      repeat' (first | (refine call0 hg cB rfl rfl ?_; cbv) | (refine call0P hg cB rfl rfl ?_; cbv) | (refine call0 hg ci rfl rfl ?_; cbv) | (refine call0P hg ci rfl rfl ?_; cbv) | (refine call0 hg cL rfl rfl ?_; cbv) | (refine call0P hg cL rfl rfl ?_; cbv))
      exact fin0v hF ⟨rfl, rfl⟩
    simp only [q2, q3, and_self, if_true] at hR
    rw [hR]
    clear hR
    refine pcon_run (c := body Tryz.f65) fits Tryz.func65 (by kernel_rfl) (by kernel_rfl) (by rfl) (by kernel_rfl) fun g F hg hF => ?_
    have t1 := t1 g hg
    have t2 := t2 g hg
    have t3 := t3 g hg
    have t4 := t4 g hg
    rw [decide_eq_true q2] at t2
    rw [decide_eq_true q3] at t3
    cbv
    repeat' (first | (refine call0 hg cy rfl rfl ?_; cbv) | (refine call0P hg cy rfl rfl ?_; cbv) | (refine call0 hg ck rfl rfl ?_; cbv) | (refine call0P hg ck rfl rfl ?_; cbv))
    refine callD hg cs rfl rfl ?_
    cbv
    repeat' (first | (refine call0 hg cf rfl rfl ?_; cbv) | (refine call0P hg cf rfl rfl ?_; cbv))
    rw [t1]
    cbv
    repeat' (first | (refine call0 hg ca rfl rfl ?_; cbv) | (refine call0P hg ca rfl rfl ?_; cbv) | (refine call0 hg cF rfl rfl ?_; cbv) | (refine call0P hg cF rfl rfl ?_; cbv))
    rw [t2]
    cbv
    rw [t3]
    cbv
    repeat' (first | (refine call0 hg cB rfl rfl ?_; cbv) | (refine call0P hg cB rfl rfl ?_; cbv))
    rw [t4]
    repeat' (first | (refine call0 hg cb2 rfl rfl ?_; cbv) | (refine call0P hg cb2 rfl rfl ?_; cbv))
    exact fin0v hF ⟨rfl, rfl⟩
  · simp only [q1, ne_eq, not_false_eq_true, if_true] at hR
    rw [hR]
    clear hR
    refine pcon_run (c := body Tryz.f65) fits Tryz.func65 (by kernel_rfl) (by kernel_rfl) (by rfl) (by kernel_rfl) fun g F hg hF => ?_
    have t1 : g .q .neq FX (-1) = true := by rw [goNeq hg]; simp [q1]
    cbv
    repeat' (first | (refine call0 hg cy rfl rfl ?_; cbv) | (refine call0P hg cy rfl rfl ?_; cbv) | (refine call0 hg ck rfl rfl ?_; cbv) | (refine call0P hg ck rfl rfl ?_; cbv))
    refine callD hg cs rfl rfl ?_
    cbv
    repeat' (first | (refine call0 hg cf rfl rfl ?_; cbv) | (refine call0P hg cf rfl rfl ?_; cbv))
    rw [t1]
    cbv
    repeat' (first | (refine call0 hg cb1 rfl rfl ?_; cbv) | (refine call0P hg cb1 rfl rfl ?_; cbv))
    exact fin0v hF ⟨rfl, rfl⟩

end Go.Proofs.YtdnnffbbhijmkaaGreat
