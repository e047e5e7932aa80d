/- A part of AM, a framework of the prover own: functions of any program as maps of data. -/
import Derived.Test.YtenbloaopcfdlaaGreatIag
namespace Go.Proofs.YtenbloaopcfdlaaGreat.Am
open Go.RowKit
set_option linter.unusedVariables false
set_option linter.unusedSimpArgs false
def hid (σ : List Nat) (h : AH) : AH := (List.range h.length).map fun r => cond (σ.contains r) .gone ((h[r]?).getD .gone)
theorem hid_len (σ : List Nat) (h : AH) : (hid σ h).length = h.length := by simp [hid]
theorem hid_out {σ : List Nat} {h : AH} {r : Nat} (hr : r ∉ σ) : (hid σ h)[r]? = h[r]? := by
  unfold hid
  rw [List.getElem?_map]
  by_cases hl : r < h.length
  · rw [List.getElem?_range hl]
    simp [hr, hl]
  · rw [List.getElem?_eq_none (by simpa using hl), List.getElem?_eq_none (by omega)]; rfl
theorem hid_in {σ : List Nat} {h : AH} {r : Nat} (hr : r ∈ σ) (hl : r < h.length) : (hid σ h)[r]? = some .gone := by
  unfold hid
  rw [List.getElem?_map, List.getElem?_range hl]
  simp [hr]
def bck (σ : List Nat) (H X : AH) : AH := (List.range (H.length + (X.length - σ.length))).map fun r =>
  match σ.idxOf? r with
  | some i => ((X[i]?).getD .gone).mv (plc σ H.length)
  | none => if r < H.length then (H[r]?).getD .gone else ((X[σ.length + (r - H.length)]?).getD .gone).mv (plc σ H.length)
theorem bck_len (σ : List Nat) (H X : AH) : (bck σ H X).length = H.length + (X.length - σ.length) := by simp [bck]
theorem bck_out {σ : List Nat} {H X : AH} {r : Nat} (hr : r ∉ σ) (hl : r < H.length) : (bck σ H X)[r]? = H[r]? := by
  have h1 : σ.idxOf? r = none := by rw [List.idxOf?_eq_none_iff]; exact hr
  unfold bck
  rw [List.getElem?_map, List.getElem?_range (by omega)]
  simp [h1, hl]
theorem bck_rest {σ : List Nat} {H H' X : AH} (he : H.length = H'.length) {r : Nat} (hr : r ∈ σ ∨ H.length ≤ r) : (bck σ H X)[r]? = (bck σ H' X)[r]? := by
  unfold bck
  rw [List.getElem?_map, List.getElem?_map, he]
  by_cases hl : r < H'.length + (X.length - σ.length)
  · rw [List.getElem?_range hl]
    simp only [Option.map_some]
    congr 1
    cases hi : σ.idxOf? r with
    | some i => rfl
    | none =>
      have hr' : r ∉ σ := by rw [List.idxOf?_eq_none_iff] at hi; exact hi
      rcases hr with hr | hr
      · exact (hr' hr).elim
      · simp only; rw [if_neg (by omega), if_neg (by omega)]
  · rw [List.getElem?_eq_none (by simpa using hl)]; rfl
theorem idx_at {σ : List Nat} (hnd : σ.Nodup) {i r : Nat} (h : σ[i]? = some r) : σ.idxOf? r = some i := by
  obtain ⟨hi, hr⟩ := List.getElem?_eq_some_iff.1 h
  rw [List.idxOf?_eq_some_iff]
  refine ⟨hi, hr, fun j hj he => ?_⟩
  have := (List.getElem_inj (h₀ := by omega) (h₁ := hi) hnd).1 (he.trans hr.symm)
  omega
theorem bck_at {σ : List Nat} {H X : AH} (hnd : σ.Nodup) (hlt : ∀ r ∈ σ, r < H.length) (hx : σ.length ≤ X.length) {i : Nat} (hi : i < X.length) : (bck σ H X)[plc σ H.length i]? = (X[i]?).map (AE.mv (plc σ H.length)) := by
  rw [plc_eq, List.getElem?_eq_getElem hi]
  cases hs : σ[i]? with
  | some r =>
    have hr : r ∈ σ := List.mem_of_getElem? hs
    have := hlt r hr
    simp only
    unfold bck
    rw [List.getElem?_map, List.getElem?_range (by omega)]
    simp [idx_at hnd hs, hi]
  | none =>
    have hsi : σ.length ≤ i := List.getElem?_eq_none_iff.1 hs
    simp only
    unfold bck
    rw [List.getElem?_map, List.getElem?_range (by omega)]
    have hno : σ.idxOf? (H.length + (i - σ.length)) = none := by
      rw [List.idxOf?_eq_none_iff]
      intro hm
      have := hlt _ hm
      omega
    simp only [Option.map_some, hno]
    rw [if_neg (by omega), show σ.length + (H.length + (i - σ.length) - H.length) = i by omega, List.getElem?_eq_getElem hi]
    rfl
theorem rnH_congr {n0 : Nat} {ρ : List (Option Nat)} {h' h1 h2 : AH} (hs : ∀ (i j : Nat), ρ[i]? = some (some j) → h1[j]? = h2[j]?) : ∀ (es : AH) (i : Nat), (∀ k, n0 ≤ k) → rnH n0 ρ h' h1 i es → rnH n0 ρ h' h2 i es
  | [], i, _, _ => trivial
  | e :: es, i, h0, hr => by
    unfold rnH at hr ⊢
    obtain ⟨a1, a2, a3⟩ := hr
    refine ⟨a1, ?_, rnH_congr hs es (i + 1) h0 a3⟩
    cases e with
    | live ab' =>
      simp only at a2 ⊢
      cases hq : ρ[i]? with
      | none => rw [hq] at a2; exact a2
      | some o =>
        rw [hq] at a2
        cases o with
        | none => exact a2
        | some j => simp only at a2 ⊢; rw [← hs i j hq]; exact a2
    | gone => trivial
    | hole => intro hi; have := h0 i; omega
def EOk [BP] (P : Program) (o : Oper) (h : AH) (σ : List Nat) (T : Nat → AV) (res : AV) (X : AH) : Prop :=
  plainV res = true ∧ σ.length ≤ X.length ∧ (∀ i : Nat, X[i]? ≠ some .hole) ∧ σ.Nodup ∧ (∀ r ∈ σ, r < h.length) ∧ ∃ (c : Call) (f : FuncId) (args args' : List AT) (hs : AH), o.op = .call c ∧
    ((c.callee = .value (.func f) ∧ c.args.toList.map (ev T) = args.map .t) ∨ ∃ t rs as, c.callee = .value (.tmp t) ∧ T t = .t (.c (.clo f rs)) ∧ c.args.toList.map (ev T) = as.map .t ∧ args = as ++ rs.map fun r => .c (.ptr r 0 0)) ∧
    Con P f hs args' (fun r s => r = res ∧ s = X) ∧ hs.length = σ.length ∧ rnH 0 (σ.map some) hs h 0 hs ∧ (∀ (i : Nat) (e : AE), hs[i]? = some e → ∃ ab, e = .live ab) ∧ rnTs (σ.map some) hs args' args
theorem plain_mv {c : AC} (hp : plain c = true) (s : Nat → Nat) : c.mv s = c := by cases c <;> first | rfl | cases hp
theorem plainL_mv {xs : List AC} (hp : xs.all plain = true) (s : Nat → Nat) : xs.map (AC.mv s) = xs := by
  induction xs with
  | nil => rfl
  | cons x xs ih => simp only [List.all_cons, Bool.and_eq_true] at hp; rw [List.map_cons, plain_mv hp.1, ih hp.2]
theorem plainT_mv {x : AT} (hp : plainT x = true) (s : Nat → Nat) : x.mv s = x := by
  cases x with
  | c c => exact congrArg AT.c (plain_mv hp s)
  | agg xs => exact congrArg AT.agg (plainL_mv hp s)
theorem plainV_mv {x : AV} (hp : plainV x = true) (s : Nat → Nat) : x.mv s = x := by
  cases x with
  | t x => exact congrArg AV.t (plainT_mv hp s)
  | tup xs =>
    refine congrArg AV.tup ?_
    simp only [plainV] at hp
    induction xs with
    | nil => rfl
    | cons x xs ih => simp only [List.all_cons, Bool.and_eq_true] at hp; rw [List.map_cons, plainT_mv hp.1, ih hp.2]
section
variable {P : Program} {F : Nat → Prop} {w : World} {m : AM} {T : Nat → AV} {a : Act}
theorem EOk.congr {β : BP} {o : Oper} {h : AH} {σ : List Nat} {T T' : Nat → AV} {res : AV} {X : AH} (he : ∀ x ∈ o.op.operands, ev T x = ev T' x) (hE : EOk P o h σ T res X) : EOk P o h σ T' res X := by
  obtain ⟨hp, hxl, hnh, hnd, hlt0, c, f, args, args', hs, hop, hcal, hrest⟩ := hE
  refine ⟨hp, hxl, hnh, hnd, hlt0, c, f, args, args', hs, hop, ?_, hrest⟩
  rw [hop] at he
  have e1 : ∀ x ∈ c.args.toList, ev T x = ev T' x := fun x hx => he x (by simp [Op.operands, Call.operands]; right; simpa using hx)
  have em : c.args.toList.map (ev T') = c.args.toList.map (ev T) := List.map_congr_left (fun x hx => (e1 x hx).symm)
  rcases hcal with ⟨h1, h2⟩ | ⟨t, rs, as, h1, h2, h3, h4⟩
  · exact .inl ⟨h1, by rw [em]; exact h2⟩
  · refine .inr ⟨t, rs, as, h1, ?_, by rw [em]; exact h3, h4⟩
    have := he (.tmp t) (by simp [Op.operands, Call.operands, h1])
    simp only [ev] at this
    rw [← this]; exact h2
theorem EOk.run {β : BP} {o : Oper} {h hS : AH} {σ : List Nat} {res : AV} {X : AH} (hE : EOk P o h σ T res X) (hH : RH F w m hS) (hT : RTm F w m hS T a) (hsame : ∀ r ∈ σ, hS[r]? = h[r]?) (hle : h.length ≤ hS.length) :
    Yl P o a w fun v w' => ∃ m' F1, Grow F F1 w m hS ∧ Step F1 w m hS w' m' (bck σ hS X) ∧ RV F1 w' m' (bck σ hS X) res v := by
  obtain ⟨hp, hxl, hnh, hnd, hlt0, c, f, args, args', hs, hop, hcal, hcon, hhl, hr0, hlv, ha⟩ := hE
  have hlt : ∀ r ∈ σ, r < hS.length := fun r hr => Nat.lt_of_lt_of_le (hlt0 r hr) hle
  have hr : rnH 0 (σ.map some) hs hS 0 hs := rnH_congr (fun i j hij => by
    rw [List.getElem?_map, Option.map_eq_some_iff] at hij
    obtain ⟨r, h1, h2⟩ := hij
    cases h2
    exact (hsame _ (List.mem_of_getElem? h1)).symm) hs 0 (fun k => Nat.zero_le k) hr0
  have hnd' : ((σ.map some).filterMap id).Nodup := by rw [nodup_ids]; exact hnd
  have hH' := RH.rn0 hH hnd' hr
  have hal := rnTs_len _ _ ha
  obtain ⟨vs, hrun, hvl, hvx⟩ : ∃ vs : List Value, (execOp a.eval o).run P w = .ok (.enter f vs.toArray) w ∧ vs.length = args.length ∧ ∀ (j : Nat) (x : AT), args[j]? = some x → ∃ v, vs[j]? = some v ∧ RT F w m hS x v := by
    rcases hcal with ⟨h1, h2⟩ | ⟨t, rs, as, h1, h2, h3, h4⟩
    · obtain ⟨g1, g2⟩ := args_sound hT h2
      refine ⟨c.args.toList.map a.eval, ?_, g1, g2⟩
      rw [run_call hop h1 hcon.1, ← Array.toList_map]
    · obtain ⟨g1, g2⟩ := args_sound hT h3
      obtain ⟨us, k1, k2, k3⟩ : RCl m hS f rs (a.eval (.tmp t)) := ev_t hT (show ev T (.tmp t) = _ from h2)
      refine ⟨c.args.toList.map a.eval ++ us, ?_, by simp [h4, k2, ← g1], fun j x hj => ?_⟩
      · rw [run_callV hop h1 k1 hcon.1, ← List.append_toArray, ← Array.toList_map]
      · rw [h4, List.getElem?_append] at hj
        rw [List.getElem?_append, g1]
        split at hj
        · rw [if_pos (by assumption)]; exact g2 j x hj
        · rw [if_neg (by assumption)]
          simp only [List.getElem?_map, Option.map_eq_some_iff] at hj
          obtain ⟨r, hr, rfl⟩ := hj
          obtain ⟨u, hu, hr'⟩ := k3 _ r hr
          refine ⟨u, hu, ?_⟩
          rcases hr' with hg | ⟨ab, b, cap, q1, q2, q3⟩
          · exact .inl hg
          · exact .inr ⟨ab, b, cap, q1, q2, by rw [q3]; simp⟩
  have hlive : ∀ (i : Nat) (x : AE), hs[i]? = some x → ∃ (r : Nat) (ab AB : AB), σ[i]? = some r ∧ x = .live ab ∧ hS[r]? = some (.live AB) ∧ AB.k = ab.k ∧ AB.es.length = ab.es.length := fun i x hx => by
    obtain ⟨ab, rfl⟩ := hlv i x hx
    have hil : i < σ.length := by rw [← hhl]; exact (List.getElem?_eq_some_iff.1 hx).1
    rcases rn_live hr hx with ⟨h1, _⟩ | ⟨j, AB, h1, h2, h3, h4, h5, _⟩
    · rw [List.getElem?_map, List.getElem?_eq_getElem hil] at h1; cases h1
    · rw [List.getElem?_map, Option.map_eq_some_iff] at h1
      obtain ⟨r, h6, h7⟩ := h1
      cases h7
      exact ⟨j, ab, AB, h6, rfl, h2, h4.symm, h5.symm⟩
  have hMl : m.length = hS.length := hH.len
  have hps : ∀ (i r : Nat), σ[i]? = some r → plc σ hS.length i = r := fun i r h1 => by rw [plc_eq, h1]
  have hpn : ∀ i : Nat, σ.length ≤ i → plc σ hS.length i = hS.length + (i - σ.length) := fun i h1 => by rw [plc_eq, List.getElem?_eq_none h1]
  have hgets : ∀ i : Nat, i < σ.length → ∃ r, σ[i]? = some r := fun i hi => ⟨_, List.getElem?_eq_getElem hi⟩
  have hmi : ∀ (i r : Nat), σ[i]? = some r → (rnM m (σ.map some) hs.length)[i]? = m[r]? := fun i r h1 => by
    have hi : i < hs.length := by rw [hhl]; exact (List.getElem?_eq_some_iff.1 h1).1
    have hrl : r < m.length := by rw [hMl]; exact hlt r (List.mem_of_getElem? h1)
    rw [rnM_some hi (by simp [h1]) (List.getElem?_eq_getElem hrl), List.getElem?_eq_getElem hrl]
  have hcalls := hcon.2 F w _ vs hH' (by rw [hvl, hal]) (fun j y hj => by
    obtain ⟨x, hxj, hxy⟩ := rnTs_get _ _ j y ha hj
    obtain ⟨v, hv, hrt⟩ := hvx j x hxj
    exact ⟨v, hv, RT.rn hH hr hrt hxy⟩)
  have hle2 : hs.length ≤ X.length := by omega
  have post : ∀ {F1 : Nat → Prop} {w' : World} {m' : AM} {v : Value}, Grow F F1 w (rnM m (σ.map some) hs.length) hs → Step F1 w (rnM m (σ.map some) hs.length) hs w' m' X → RV F1 w' m' X res v →
      ∃ m' F1, Grow F F1 w m hS ∧ Step F1 w m hS w' m' (bck σ hS X) ∧ RV F1 w' m' (bck σ hS X) res v := fun {F1 w' m' v} hG hst hv => by
    have hm'l : m'.length = X.length := hst.hp.len
    obtain ⟨hGM, hstep, hres⟩ := frame (H' := bck σ hS X) (M' := m ++ m'.drop hs.length) (s := plc σ hS.length) hH hG hst
      (fun i x hx => by
        obtain ⟨r, ab, AB, h1, h2, h3, h4, h5⟩ := hlive i x hx
        rw [hps i r h1]
        exact ⟨ab, AB, h2, h3, h4, h5, hmi i r h1⟩)
      (plc_inj hnd hlt)
      (fun i hi => by
        obtain ⟨r, h1⟩ := hgets i (by omega)
        rw [hps i r h1]; exact hlt r (List.mem_of_getElem? h1))
      (fun i hi => by rw [hpn i (by omega), hhl])
      (by rw [bck_len, hhl])
      (by rw [bck_len]; simp [hMl, hm'l]; omega)
      hle2
      (fun i hi => bck_at hnd hlt (by omega) hi)
      (fun i hi hng => by
        by_cases hil : i < σ.length
        · obtain ⟨r, h1⟩ := hgets i hil
          rw [hps i r h1]
          have hx := List.getElem?_eq_getElem (l := hs) (i := i) (by omega)
          obtain ⟨r', ab, AB, _, h2, _⟩ := hlive _ _ hx
          rw [h2] at hx
          rcases (hst.keeps i).2 ab hx with hg | ⟨ab', _, _, _, h4⟩
          · exact absurd hg hng
          · rw [h4, hmi i r h1]
            have hrl : r < m.length := by rw [hMl]; exact hlt r (List.mem_of_getElem? h1)
            exact List.getElem?_append_left hrl
        · rw [hpn i (by omega)]
          rw [List.getElem?_append_right (by omega), List.getElem?_drop]
          congr 1
          omega)
      (fun r hr hne => by
        have hnm : r ∉ σ := fun hm => by
          obtain ⟨i, hi, h1⟩ := List.getElem_of_mem hm
          have h2 := List.getElem?_eq_getElem hi
          rw [h1] at h2
          exact hne i (by omega) (hps i r h2)
        exact ⟨bck_out hnm hr, List.getElem?_append_left (by omega)⟩)
      hnh
    have hv' := hres res v hv
    rw [plainV_mv hp] at hv'
    exact ⟨_, F1, hGM, hstep, hv'⟩
  unfold Yl
  rw [hrun]
  exact hcalls.mono fun e w'' ⟨v, res', h', m', F1, he, ⟨h1, h2⟩, hG, hs', hv⟩ => by
    subst h1 h2
    exact ⟨v, he, post hG hs' hv⟩
end
def Sem1 [BP] (P : Program) (σ : List Nat) (L : Nat) (o : Oper) (T : Nat → AV) (H : AH) (res : AV) (X : AH) : Prop :=
  ∀ (F : Nat → Prop) (w : World) (m : AM) (a : Act) (hS : AH), RH F w m hS → RTm F w m hS T a → (∀ r ∈ σ, hS[r]? = H[r]?) → Cp (hid σ H) hS → hS.length = L → Yl P o a w fun v w' => ∃ m' F1, Grow F F1 w m hS ∧ Step F1 w m hS w' m' (bck σ hS X) ∧ RV F1 w' m' (bck σ hS X) res v
structure Trace1 (P : Program) (ops : Array Oper) (l : List Oper) (T : Nat → AV) (h : AH) (σ : List Nat) (e : Nat) (E : Oper → (Nat → AV) → AH → AV → AH → Prop) (X : AH) (Ts : Nat → Nat → AV) (Hs : Nat → AH) (R : Nat → AV) (Rw : Nat → List AB) (W : Nat → Bool) : Prop where
  t0 : Ts 0 = T
  h0 : Hs 0 = h
  at_ : ∀ (i : Nat) (o : Oper), l[i]? = some o → gval ops o (Ts i) = some (W i) ∧ (W i = true → i ≠ e → popP P (Ts i) (hid σ (Hs i)) (Hs i).length o.op (fun r s => r = R i ∧ s = Rw i)) ∧ (W i = false → R i = .t (.c (.imm undef)) ∧ Rw i = []) ∧
    Ts (i + 1) = put (Ts i) o.dst (R i) ∧ Hs (i + 1) = Hs i ++ (Rw i).map .live ∧ (i = e → W i = true ∧ Rw i = [] ∧ E o (Ts i) (Hs i) (R i) X)
def headE (P : Program) (ops : Array Oper) (σ : List Nat) (e : Nat) (E : Oper → (Nat → AV) → AH → AV → AH → Prop) (K : (Nat → AV) → AH → AH → Prop) : Nat → AH → List Oper → (Nat → AV) → AH → Prop
  | _, X, [], T, h => K T h X
  | k, X, o :: os, T, h => if k = e then o.guard = none ∧ ∃ res X1, E o T h res X1 ∧ headE P ops σ e E K (k + 1) X1 os (put T o.dst res) h
    else grd ops o T (∃ res rows, popP P T (hid σ h) h.length o.op (fun r s => r = res ∧ s = rows) ∧ headE P ops σ e E K (k + 1) X os (put T o.dst res) (h ++ rows.map .live)) (headE P ops σ e E K (k + 1) X os (put T o.dst (.t (.c (.imm undef)))) h)
theorem trace1_of {P : Program} {ops : Array Oper} {σ : List Nat} {e : Nat} {E : Oper → (Nat → AV) → AH → AV → AH → Prop} {K : (Nat → AV) → AH → AH → Prop} : ∀ (l : List Oper) (k : Nat) (X0 : AH) (T : Nat → AV) (h : AH), headE P ops σ e E K k X0 l T h →
    ∃ (X : AH) (Ts : Nat → Nat → AV) (Hs : Nat → AH) (R : Nat → AV) (Rw : Nat → List AB) (W : Nat → Bool), (e < k → X = X0) ∧ (k + l.length ≤ e → X = X0) ∧ K (Ts l.length) (Hs l.length) X ∧ Ts 0 = T ∧ Hs 0 = h ∧ ∀ (i : Nat) (o : Oper), l[i]? = some o → gval ops o (Ts i) = some (W i) ∧ (W i = true → k + i ≠ e → popP P (Ts i) (hid σ (Hs i)) (Hs i).length o.op (fun r s => r = R i ∧ s = Rw i)) ∧ (W i = false → R i = .t (.c (.imm undef)) ∧ Rw i = []) ∧
    Ts (i + 1) = put (Ts i) o.dst (R i) ∧ Hs (i + 1) = Hs i ++ (Rw i).map .live ∧ (k + i = e → W i = true ∧ Rw i = [] ∧ E o (Ts i) (Hs i) (R i) X)
  | [], k, X0, T, h, hh => ⟨X0, fun _ => T, fun _ => h, fun _ => .t (.c .dead), fun _ => [], fun _ => false, fun _ => rfl, fun _ => rfl, hh, rfl, rfl, fun i o hi => by simp at hi⟩
  | o :: os, k, X0, T, h, hh => by
    unfold headE at hh
    have cons : ∀ (res : AV) (rows : List AB) (b : Bool) (X1 : AH), gval ops o T = some b → (b = true → k ≠ e → popP P T (hid σ h) h.length o.op (fun r s => r = res ∧ s = rows)) → (b = false → res = .t (.c (.imm undef)) ∧ rows = []) → (k ≠ e → X1 = X0) →
        (k = e → b = true ∧ rows = [] ∧ E o T h res X1) → headE P ops σ e E K (k + 1) X1 os (put T o.dst res) (h ++ rows.map .live) →
        ∃ (X : AH) (Ts : Nat → Nat → AV) (Hs : Nat → AH) (R : Nat → AV) (Rw : Nat → List AB) (W : Nat → Bool), (e < k → X = X0) ∧ (k + (o :: os).length ≤ e → X = X0) ∧ K (Ts (o :: os).length) (Hs (o :: os).length) X ∧ Ts 0 = T ∧ Hs 0 = h ∧ ∀ (i : Nat) (o' : Oper), (o :: os)[i]? = some o' → gval ops o' (Ts i) = some (W i) ∧ (W i = true → k + i ≠ e → popP P (Ts i) (hid σ (Hs i)) (Hs i).length o'.op (fun r s => r = R i ∧ s = Rw i)) ∧ (W i = false → R i = .t (.c (.imm undef)) ∧ Rw i = []) ∧
          Ts (i + 1) = put (Ts i) o'.dst (R i) ∧ Hs (i + 1) = Hs i ++ (Rw i).map .live ∧ (k + i = e → W i = true ∧ Rw i = [] ∧ E o' (Ts i) (Hs i) (R i) X) := by
      intro res rows b X1 hb h1 h2 hX hEe h3
      obtain ⟨X, Ts, Hs, R, Rw, W, x1, x2, hK, t0, h0, hat⟩ := trace1_of os (k + 1) X1 _ _ h3
      refine ⟨X, fun i => match i with | 0 => T | i + 1 => Ts i, fun i => match i with | 0 => h | i + 1 => Hs i, fun i => match i with | 0 => res | i + 1 => R i, fun i => match i with | 0 => rows | i + 1 => Rw i, fun i => match i with | 0 => b | i + 1 => W i, fun hlt => ?_, fun hle => ?_, hK, rfl, rfl, fun i o' hi => ?_⟩
      · rw [x1 (by omega), hX (by omega)]
      · simp only [List.length_cons] at hle
        rw [x2 (by omega), hX (by omega)]
      · cases i with
        | zero =>
          simp only [List.getElem?_cons_zero, Option.some.injEq] at hi
          subst hi
          refine ⟨hb, h1, h2, t0, h0, fun hke => ?_⟩
          simp only [Nat.add_zero] at hke
          obtain ⟨g1, g2, g3⟩ := hEe hke
          refine ⟨g1, g2, ?_⟩
          rw [x1 (by omega)]
          exact g3
        | succ i =>
          simp only [List.getElem?_cons_succ] at hi
          have := hat i o' hi
          rw [show k + 1 + i = k + (i + 1) by omega] at this
          exact this
    by_cases hk : k = e
    · rw [if_pos hk] at hh
      obtain ⟨hg, res, X1, hE, hr⟩ := hh
      exact cons res [] true X1 (by unfold gval; rw [hg]) (fun _ h => absurd hk h) (fun h => by cases h) (fun h => absurd hk h) (fun _ => ⟨rfl, rfl, hE⟩) (by simpa using hr)
    · rw [if_neg hk] at hh
      rcases grd_gval hh with ⟨hb, res, rows, h1, h2⟩ | ⟨hb, h2⟩
      · exact cons res rows true X0 hb (fun _ _ => h1) (fun h => by cases h) (fun _ => rfl) (fun h => absurd h hk) h2
      · exact cons _ [] false X0 hb (fun h => by cases h) (fun _ => ⟨rfl, rfl⟩) (fun _ => rfl) (fun h => absurd h hk) (by simpa using h2)
section
variable {P : Program} {F : Nat → Prop} {w0 : World} {m0 : AM} {h0 : AH} {N mm : Nat} {ops : Array Oper} {T : Nat → AV} {h : AH} {Ts : Nat → Nat → AV} {Hs : Nat → AH} {R : Nat → AV} {Rw : Nat → List AB} {W : Nat → Bool} {e : Nat} {σ : List Nat} {X : AH} {E : Oper → (Nat → AV) → AH → AV → AH → Prop}
theorem Trace1.len (htr : Trace1 P ops (ops.toList.take mm) T h σ e E X Ts Hs R Rw W) (hle : mm ≤ ops.size) {i : Nat} (hi : i < mm) : (Hs (i + 1)).length = (Hs i).length + (Rw i).length := by
  have ho : ops[i]? = some ops[i] := by simp
  have hg : (ops.toList.take mm)[i]? = some ops[i] := by rw [List.getElem?_take, if_pos hi]; simp
  rw [(htr.at_ i _ hg).2.2.2.2.1]; simp
theorem Trace1.mono (htr : Trace1 P ops (ops.toList.take mm) T h σ e E X Ts Hs R Rw W) (hle : mm ≤ ops.size) {i : Nat} : ∀ (d : Nat), i + d ≤ mm → (Hs i).length ≤ (Hs (i + d)).length ∧ ∀ (r : Nat) (x : AE), (Hs i)[r]? = some x → (Hs (i + d))[r]? = some x
  | 0, _ => ⟨Nat.le_refl _, fun r x h => h⟩
  | d + 1, hd => by
    obtain ⟨h1, h2⟩ := htr.mono hle (i := i) d (by omega)
    have ho : ops[i + d]? = some ops[i + d] := by simp
    have hg : (ops.toList.take mm)[i + d]? = some ops[i + d] := by rw [List.getElem?_take, if_pos (by omega)]; simp
    have h3 := (htr.at_ (i + d) _ hg).2.2.2.2.1
    rw [← Nat.add_assoc, h3]
    refine ⟨by simp; omega, fun r x hr => ?_⟩
    have h4 := h2 r x hr
    rw [List.getElem?_append_left (List.getElem?_eq_some_iff.1 h4).1]
    exact h4
theorem Trace1.temp (htr : Trace1 P ops (ops.toList.take mm) T h σ e E X Ts Hs R Rw W) (hle : mm ≤ ops.size) {i d : Nat} : ∀ (k : Nat), i + k ≤ mm → (∀ (j : Nat) (o : Oper), i ≤ j → j < i + k → ops[j]? = some o → o.dst ≠ some d) → Ts (i + k) d = Ts i d
  | 0, _, _ => rfl
  | k + 1, hk, hj => by
    have ho : ops[i + k]? = some ops[i + k] := by simp
    have hg : (ops.toList.take mm)[i + k]? = some ops[i + k] := by rw [List.getElem?_take, if_pos (by omega)]; simp
    have h3 := (htr.at_ (i + k) _ hg).2.2.2.1
    rw [← Nat.add_assoc, h3]
    have hne := hj (i + k) _ (by omega) (by omega) ho
    have h4 := htr.temp hle (i := i) k (by omega) (fun j o h1 h2 h3 => hj j o h1 (by omega) h3)
    rw [put_ne _ _ hne]
    exact h4
structure Mid1 [BP] (F : Nat → Prop) (w0 : World) (m0 : AM) (h0 : AH) (N mm : Nat) (ops : Array Oper) (e : Nat) (σ : List Nat) (X : AH) (Ts : Nat → Nat → AV) (Hs : Nat → AH) (Rw : Nat → List AB) (listed : Array Bool) (U : List Nat) (a : Act) (w : World) (m : AM) (hS : AH) : Prop where
  inv : HeadInv .any ops mm listed
  nodup : U.Nodup
  un : ∀ i, i ∈ U ↔ i < mm ∧ listed.getD i true = false
  len : hS.length = (Hs mm).length + (if e ∈ U then 0 else X.length - σ.length)
  same : ∀ r : Nat, (r ∉ σ ∨ e ∈ U) → r < (Hs mm).length → hS[r]? = (Hs mm)[r]? ∨ ∃ i ∈ U, (Hs i).length ≤ r ∧ r < (Hs i).length + (Rw i).length
  hole : ∀ i ∈ U, ∀ r : Nat, (Hs i).length ≤ r → r < (Hs i).length + (Rw i).length → hS[r]? = some .hole
  subr : e ∉ U → ∀ r ∈ σ, ∀ i ∈ U, ¬ ((Hs i).length ≤ r ∧ r < (Hs i).length + (Rw i).length)
  sub1 : e ∉ U → ∀ r : Nat, (r ∈ σ ∨ (Hs mm).length ≤ r) → hS[r]? = (bck σ (Hs mm) X)[r]?
  tm : ∀ d, (∃ i ∈ U, ∃ o, ops[i]? = some o ∧ o.dst = some d) ∨ RV F w m hS (Ts mm d) (a.tmps.getD d undef)
  st : StepX F w0 m0 h0 w m hS
  df : a.defers = []
  sz : a.tmps.size = N
theorem Mid1.step {β : BP} (hE : ∀ {o T H res X}, H.length ≤ (Hs mm).length → E o T H res X → Sem1 P σ (Hs mm).length o T H res X) (hC : ∀ {o T T' H res X}, (∀ x ∈ o.op.operands, ev T x = ev T' x) → E o T H res X → E o T' H res X) (hW : ∀ {o T H res X}, E o T H res X → ∀ r ∈ σ, r < H.length ∧ (r < h.length ∨ ∃ t, Operand.tmp t ∈ o.op.operands ∧ T t = .t (.c (.own r)))) (hem : e < mm) (htr : Trace1 P ops (ops.toList.take mm) T h σ e E X Ts Hs R Rw W) (hle : mm ≤ ops.size) (hB : headB ops mm = true) (hg : guardOk N ops = true) (hd : ops.toList.all (dstOk N) = true)
    {listed : Array Bool} {U : List Nat} {a : Act} {w : World} {m : AM} {hS : AH} (M : Mid1 F w0 m0 h0 N mm ops e σ X Ts Hs Rw listed U a w m hS) {i : Nat} (hr : i ∈ Region.ready .any ops listed) (hi : i < mm) {Q' : Exit → Act → World → Prop} {K : Act → World → Prop}
    (hK : ∀ F1 a' w' m' hS', Grow F F1 w m hS → Mid1 F1 w0 m0 h0 N mm ops e σ X Ts Hs Rw (listed.setIfInBounds i true) (U.erase i) a' w' m' hS' → K a' w') : wpOp P ops Q' i K a w := by
  obtain ⟨o, ho, haft, hdep⟩ := headB_spec hB hi
  obtain ⟨hun, o2, ho2, hall⟩ := mem_ready.1 hr
  rw [ho] at ho2
  cases ho2
  have hiU : i ∈ U := (M.un i).2 ⟨hi, hun⟩
  obtain ⟨hgv, hpop, hskip, hT1, hH1, heff⟩ := htr.at_ i o (by rw [List.getElem?_take, if_pos hi]; simpa using ho)
  have hdo : dstOk N o = true := List.all_eq_true.1 hd o (List.mem_of_getElem? (by simpa using ho : ops.toList[i]? = some o))
  have hmemo : o ∈ ops.toList := List.mem_of_getElem? (by simpa using ho : ops.toList[i]? = some o)
  have hlook : ∀ d, d ∈ o.looksAt ops → RV F w m hS (Ts i d) (a.tmps.getD d undef) := fun d hd' => by
    have hTd : Ts mm d = Ts i d := by
      have := htr.temp hle (i := i) (d := d) (mm - i) (by omega) (fun j o' h1 h2 h3 h4 => by
        have := ((hdep j o' d (by omega) h3 h4).2 hd').1
        omega)
      rwa [show i + (mm - i) = mm by omega] at this
    rcases M.tm d with ⟨j, hjU, o', hj, hjd⟩ | h1
    · obtain ⟨hjm, hjun⟩ := (M.un j).1 hjU
      obtain ⟨_, hw⟩ := (hdep j o' d hjm hj hjd).2 hd'
      obtain ⟨oi, hoi, e, he, hb, hon⟩ := Region.waitsFor_spec hw
      rw [ho] at hoi
      cases hoi
      have h2 := hall e he hb
      rw [hon, getD_both hjun] at h2
      cases h2
    · rwa [hTd] at h1
  have hwant : Region.wanted o (yielded ops a.tmps) = W i := gval_sound (F := F) (w := w) (m := m) (h := hS) (fun g t h1 h2 => by rw [M.sz]; exact guardOk_spec hg hmemo g t h1 h2) (fun g t h1 h2 => hlook t (looks_guard h1 h2)) hgv
  have hpre := htr.mono hle (i := i + 1) (mm - (i + 1)) (by omega)
  rw [show i + 1 + (mm - (i + 1)) = mm by omega] at hpre
  have hlen1 := htr.len hle hi
  have hsp : (Hs i).length + (Rw i).length ≤ hS.length := by rw [M.len]; omega
  have hpre0 := htr.mono hle (i := 0) i (by omega)
  rw [Nat.zero_add, htr.h0] at hpre0
  have hmem : i ≠ e → (e ∈ U.erase i ↔ e ∈ U) := fun hne => by
    rw [M.nodup.mem_erase_iff]
    exact ⟨fun h => h.2, fun h => ⟨fun he => hne he.symm, h⟩⟩
  have hTd : ∀ d, o.dst = some d → Ts mm d = R i := fun d hd' => by
    have := htr.temp hle (i := i + 1) (d := d) (mm - (i + 1)) (by omega) (fun j o' h1 h2 h3 h4 => by
      exact (hdep j o' d (by omega) h3 h4).1 (by omega) hd')
    rw [show i + 1 + (mm - (i + 1)) = mm by omega] at this
    rw [this, hT1]
    unfold put
    rw [hd']
    simp
  have inv' := M.inv.set hr hi
  have un' : ∀ j, j ∈ U.erase i ↔ j < mm ∧ (listed.setIfInBounds i true).getD j true = false := fun j => by
    rw [M.nodup.mem_erase_iff, M.un j]
    by_cases hij : i = j
    · subst hij
      have hil : i < listed.size := by rw [M.inv.size]; exact (Array.getElem?_eq_some_iff.1 ho).1
      simp [hil]
    · rw [getD_set_ne true hij]
      exact ⟨fun ⟨_, h2⟩ => h2, fun h2 => ⟨fun e => hij e.symm, h2⟩⟩
  have hdis : ∀ j, j ∈ U.erase i → ∀ r, (Hs j).length ≤ r → r < (Hs j).length + (Rw j).length → r < (Hs i).length ∨ (Hs i).length + (Rw i).length ≤ r := fun j hj r h1 h2 => by
    rw [M.nodup.mem_erase_iff] at hj
    have hjm := ((M.un j).1 hj.2).1
    rcases Nat.lt_or_gt_of_ne hj.1 with hlt | hlt
    · have h3 := (htr.mono hle (i := j + 1) (i - (j + 1)) (by omega)).1
      rw [show j + 1 + (i - (j + 1)) = i by omega, htr.len hle hjm] at h3
      omega
    · have h3 := (htr.mono hle (i := i + 1) (j - (i + 1)) (by omega)).1
      rw [show i + 1 + (j - (i + 1)) = j by omega, hlen1] at h3
      omega
  unfold wpOp
  rw [ho]
  simp only
  cases hWi : W i with
  | false =>
    rw [hwant, hWi]
    simp only [Bool.false_eq_true, if_false]
    obtain ⟨hR, hRw⟩ := hskip hWi
    have hne : i ≠ e := fun he => by have := (heff he).1; rw [hWi] at this; cases this
    refine hK F _ _ m hS (Grow.refl _ _ _ _) ⟨inv', M.nodup.erase i, un', by simp only [hmem hne]; exact M.len, fun r hrσ hrl => ?_, fun j hj r h1 h2 => M.hole j (List.mem_of_mem_erase hj) r h1 h2, fun he r hr j hj => M.subr (fun h => he ((hmem hne).2 h)) r hr j (List.mem_of_mem_erase hj), fun he => M.sub1 (fun h => he ((hmem hne).2 h)), fun d => ?_, M.st, by rw [put_defers]; exact M.df, by rw [put_size]; exact M.sz⟩
    · rcases M.same r (hrσ.imp id (hmem hne).1) hrl with h1 | ⟨j, hj, h1, h2⟩
      · exact .inl h1
      · by_cases hij : j = i
        · subst hij; rw [hRw] at h2; simp at h2; omega
        · exact .inr ⟨j, (M.nodup.mem_erase_iff).2 ⟨hij, hj⟩, h1, h2⟩
    · by_cases hdd : o.dst = some d
      · right
        rw [put_get]
        have hlt : d < N := by unfold dstOk at hdo; rw [hdd] at hdo; simpa using hdo
        rw [if_pos ⟨hdd, by rw [M.sz]; exact hlt⟩, hTd d hdd, hR]
        rfl
      · rw [put_get, if_neg (fun hx => hdd hx.1)]
        rcases M.tm d with ⟨j, hj, o', ho', hjd⟩ | h1
        · left
          refine ⟨j, (M.nodup.mem_erase_iff).2 ⟨fun e => ?_, hj⟩, o', ho', hjd⟩
          subst e
          rw [ho] at ho'
          cases ho'
          exact hdd hjd
        · exact .inr h1
  | true =>
    rw [hwant, hWi]
    simp only [if_true]
    left
    have hT' : RTm F w m hS (fun d => if d ∈ o.looksAt ops then Ts i d else .t (.c .dead)) a := fun d => by
      by_cases hd' : d ∈ o.looksAt ops
      · simp only [hd', if_true]; exact hlook d hd'
      · simp only [hd', if_false]; exact (trivial : RC F w m hS .dead _)
    have hCp : Cp (hid σ (Hs i)) hS := fun r ab hr' => by
      have hrl0 : r < (Hs i).length := by rw [← hid_len σ (Hs i)]; exact (List.getElem?_eq_some_iff.1 hr').1
      have hrσ : r ∉ σ := fun hm => by rw [hid_in hm hrl0] at hr'; cases hr'
      rw [hid_out hrσ] at hr'
      have h1 := (htr.mono hle (i := i) (mm - i) (by omega)).2 r _ hr'
      rw [show i + (mm - i) = mm by omega] at h1
      have hrl : r < (Hs mm).length := (List.getElem?_eq_some_iff.1 h1).1
      rcases M.same r (.inl hrσ) hrl with h2 | ⟨j, hj, h2, h3⟩
      · rw [h2, h1]
        exact ⟨(by intro he; cases he), (fun ab' he => by cases he; rfl)⟩
      · rw [M.hole j hj r h2 h3]
        exact ⟨(by intro he; cases he), (fun ab' he => by cases he)⟩
    by_cases hie : i = e
    · -- the one that changes blocks
      obtain ⟨_, hRw, hEo⟩ := heff hie
      have hWo := hW hEo
      have hEo := hC (T' := fun d => if d ∈ o.looksAt ops then Ts i d else .t (.c .dead)) (fun x hx => by
        cases x with
        | tmp t => simp only [ev, looks_op (ops := ops) hx, if_true]
        | const v => rfl
        | global g => rfl
        | func f => rfl) hEo
      have heU : e ∈ U := hie ▸ hiU
      have hSl : hS.length = (Hs mm).length := by rw [M.len, if_pos heU]; rfl
      have hnr : ∀ r ∈ σ, r < (Hs i).length ∧ ∀ j ∈ U, ¬ ((Hs j).length ≤ r ∧ r < (Hs j).length + (Rw j).length) := fun r hr => by
        obtain ⟨g1, g2⟩ := hWo r hr
        refine ⟨g1, fun j hj hx => ?_⟩
        rcases g2 with g2 | ⟨t, g2, g3⟩
        · have hjm := ((M.un j).1 hj).1
          have h4 := (htr.mono hle (i := 0) j (by omega)).1
          rw [Nat.zero_add, htr.h0] at h4
          omega
        · have h5 := hlook t (looks_op (ops := ops) g2)
          rw [g3] at h5
          have h6 := M.hole j hj r hx.1 hx.2
          rcases h5 with h5 | ⟨ab, h5, _⟩
          · rw [h6] at h5; cases h5
          · rw [h6] at h5; cases h5
      have hsm : ∀ r ∈ σ, hS[r]? = (Hs i)[r]? := fun r hr => by
        obtain ⟨g1, g2⟩ := hnr r hr
        have g3 := List.getElem?_eq_getElem g1
        have g4 := (htr.mono hle (i := i) (mm - i) (by omega)).2 r _ g3
        rw [show i + (mm - i) = mm by omega] at g4
        rcases M.same r (.inr heU) (List.getElem?_eq_some_iff.1 g4).1 with g5 | ⟨j, hj, g5, g6⟩
        · rw [g5, g4, g3]
        · exact (g2 j hj ⟨g5, g6⟩).elim
      have hnU : e ∉ U.erase i := fun hm => by rw [M.nodup.mem_erase_iff] at hm; exact hm.1 hie.symm
      refine (hE (by have := (htr.mono hle (i := i) (mm - i) (by omega)).1; rwa [show i + (mm - i) = mm by omega] at this) hEo F w m a hS M.st.hp hT' hsm hCp hSl).wp (fun v w' ⟨m', F1, hG, hst, hv⟩ => ?_)
      refine hK F1 _ _ m' _ hG ⟨inv', M.nodup.erase i, un', by rw [bck_len, hSl, if_neg hnU], fun r hrσ hrl => ?_, fun j hj r h1 h2 => ?_, fun _ r hr j hj => (hnr r hr).2 j (List.mem_of_mem_erase hj), fun _ r hr => bck_rest hSl (by rw [hSl]; exact hr), fun d => ?_, M.st.trans hst, by rw [put_defers]; exact M.df, by rw [put_size]; exact M.sz⟩
      · have hrσ : r ∉ σ := by rcases hrσ with h | h; exact h; exact absurd h hnU
        rw [bck_out hrσ (by rw [hSl]; exact hrl)]
        rcases M.same r (.inl hrσ) hrl with h1 | ⟨j, hj, h1, h2⟩
        · exact .inl h1
        · by_cases hij : j = i
          · subst hij; rw [hRw] at h2; simp at h2; omega
          · exact .inr ⟨j, (M.nodup.mem_erase_iff).2 ⟨hij, hj⟩, h1, h2⟩
      · have hjU := List.mem_of_mem_erase hj
        have hjm := ((M.un j).1 hjU).1
        have h3 := (htr.mono hle (i := j + 1) (mm - (j + 1)) (by omega)).1
        rw [show j + 1 + (mm - (j + 1)) = mm by omega, htr.len hle hjm] at h3
        rw [bck_out (fun hm => (hnr r hm).2 j hjU ⟨h1, h2⟩) (by rw [hSl]; omega)]
        exact M.hole j hjU r h1 h2
      · by_cases hdd : o.dst = some d
        · right
          rw [put_get]
          have hlt : d < N := by unfold dstOk at hdo; rw [hdd] at hdo; simpa using hdo
          rw [if_pos ⟨hdd, by rw [M.sz]; exact hlt⟩, hTd d hdd]
          exact hv
        · rw [put_get, if_neg (fun hx => hdd hx.1)]
          rcases M.tm d with ⟨j, hj, o', ho', hjd⟩ | h1
          · left
            refine ⟨j, (M.nodup.mem_erase_iff).2 ⟨fun e' => ?_, hj⟩, o', ho', hjd⟩
            subst e'
            rw [ho] at ho'
            cases ho'
            exact hdd hjd
          · exact .inr (RV.stepG hst hG.1 M.st.hp h1)
    have hp' := popP_congr (T' := fun d => if d ∈ o.looksAt ops then Ts i d else .t (.c .dead)) (fun x hx => by
      cases x with
      | tmp t => simp only [ev, looks_op (ops := ops) hx, if_true]
      | const v => rfl
      | global g => rfl
      | func f => rfl) (hpop hWi hie)
    refine (popP_sound o hCp hT' M.st.hp hp').wp (fun v w' ⟨res, rows, ⟨hres, hrows⟩, hout⟩ => ?_)
    subst hres
    subst hrows
    obtain ⟨F1, hF1, hF2, hF3, hbel, nb, hnl, hnb, hnd, hplace⟩ := hout
    have hml : m.length = hS.length := M.st.hp.len
    have gh : ∀ r, (repl hS (Hs i).length ((Rw i).map AE.live))[r]? = if (Hs i).length ≤ r ∧ r < (Hs i).length + (Rw i).length then ((Rw i).map AE.live)[r - (Hs i).length]? else hS[r]? := fun r => by
      have := repl_get hS (Hs i).length ((Rw i).map AE.live) (by simpa using hsp) r
      simpa using this
    have gm : ∀ r, (repl m (Hs i).length nb)[r]? = if (Hs i).length ≤ r ∧ r < (Hs i).length + (Rw i).length then nb[r - (Hs i).length]? else m[r]? := fun r => by
      have := repl_get m (Hs i).length nb (by rw [hnl, hml]; exact hsp) r
      rw [hnl] at this
      exact this
    have hkeep : Keeps m hS (repl m (Hs i).length nb) (repl hS (Hs i).length ((Rw i).map AE.live)) := fun r => by
      rw [gh r, gm r]
      by_cases hin : (Hs i).length ≤ r ∧ r < (Hs i).length + (Rw i).length
      · have := M.hole i hiU r hin.1 hin.2
        rw [this]
        exact ⟨(fun h1 => by cases h1), (fun ab h1 => by cases h1)⟩
      · rw [if_neg hin, if_neg hin]
        exact ⟨id, fun ab h1 => .inr ⟨ab, h1, rfl, rfl, rfl⟩⟩
    have hpl : ∀ (j : Nat) (ab : AB), (Rw i)[j]? = some ab → (repl hS (Hs i).length ((Rw i).map AE.live))[(Hs i).length + j]? = some (.live ab) ∧ (repl m (Hs i).length nb)[(Hs i).length + j]? = nb[j]? := fun j ab hj => by
      have hjl := (List.getElem?_eq_some_iff.1 hj).1
      rw [gh, gm, if_pos (by omega), if_pos (by omega), Nat.add_sub_cancel_left]
      exact ⟨by simp [hj], rfl⟩
    have hout2 := hplace _ _ hkeep hpl
    have hstep : Step F1 w m hS w' (repl m (Hs i).length nb) (repl hS (Hs i).length ((Rw i).map AE.live)) := by
      refine Step.of_out_at (n := (Hs i).length) M.st.hp hF1 hF2 hF3 hbel hnl hnb hnd hout2 hkeep (by rw [repl_len _ _ _ (by rw [hnl, hml]; exact hsp), repl_len _ _ _ (by simpa using hsp)]; exact hml) (fun r ab hr' => ?_)
      rw [gh r] at hr'
      rw [gm r]
      by_cases hin : (Hs i).length ≤ r ∧ r < (Hs i).length + (Rw i).length
      · right
        rw [if_pos hin] at hr'
        rw [if_pos hin]
        obtain ⟨ab', h1, h2⟩ := rowsOf hr'
        cases h2
        exact ⟨r - (Hs i).length, by omega, h1, rfl⟩
      · left
        rw [if_neg hin] at hr'
        rw [if_neg hin]
        exact ⟨hr', rfl⟩
    refine hK F1 _ _ _ _ ⟨hF1, fun b hb => (hF2 b hb).imp id .inl⟩ ⟨inv', M.nodup.erase i, un', by rw [repl_len _ _ _ (by simpa using hsp)]; simp only [hmem hie]; exact M.len, fun r hrσ hrl => ?_, fun j hj r h1 h2 => ?_, fun he r hr j hj => M.subr (fun h => he ((hmem hie).2 h)) r hr j (List.mem_of_mem_erase hj), fun he r hr => ?_, fun d => ?_, M.st.trans hstep, by rw [put_defers]; exact M.df, by rw [put_size]; exact M.sz⟩
    · rw [gh r]
      by_cases hin : (Hs i).length ≤ r ∧ r < (Hs i).length + (Rw i).length
      · left
        rw [if_pos hin]
        have hrl : r - (Hs i).length < ((Rw i).map AE.live).length := by simp; omega
        rw [List.getElem?_eq_getElem hrl]
        refine (hpre.2 r _ ?_).symm
        rw [hH1, List.getElem?_append_right hin.1, List.getElem?_eq_getElem hrl]
      · rw [if_neg hin]
        rcases M.same r (hrσ.imp id (hmem hie).1) hrl with h1 | ⟨j, hj, h1, h2⟩
        · exact .inl h1
        · by_cases hij : j = i
          · subst hij; exact (hin ⟨h1, h2⟩).elim
          · exact .inr ⟨j, (M.nodup.mem_erase_iff).2 ⟨hij, hj⟩, h1, h2⟩
    · rw [gh r, if_neg (by have := hdis j hj r h1 h2; omega)]
      exact M.hole j (List.mem_of_mem_erase hj) r h1 h2
    · rw [gh r, if_neg (by
        rcases hr with hr | hr
        · exact M.subr (fun h => he ((hmem hie).2 h)) r hr i hiU
        · omega)]
      exact M.sub1 (fun h => he ((hmem hie).2 h)) r hr
    · by_cases hdd : o.dst = some d
      · right
        rw [put_get]
        have hlt : d < N := by unfold dstOk at hdo; rw [hdd] at hdo; simpa using hdo
        rw [if_pos ⟨hdd, by rw [M.sz]; exact hlt⟩, hTd d hdd]
        exact hout2.1
      · rw [put_get, if_neg (fun hx => hdd hx.1)]
        rcases M.tm d with ⟨j, hj, o', ho', hjd⟩ | h1
        · left
          refine ⟨j, (M.nodup.mem_erase_iff).2 ⟨fun e => ?_, hj⟩, o', ho', hjd⟩
          subst e
          rw [ho] at ho'
          cases ho'
          exact hdd hjd
        · exact .inr (RV.stepG hstep hF1 M.st.hp h1)
theorem any_sound1 {β : BP} {F0 : Nat → Prop} (hE : ∀ {o T H res X}, H.length ≤ (Hs mm).length → E o T H res X → Sem1 P σ (Hs mm).length o T H res X) (hC : ∀ {o T T' H res X}, (∀ x ∈ o.op.operands, ev T x = ev T' x) → E o T H res X → E o T' H res X) (hW : ∀ {o T H res X}, E o T H res X → ∀ r ∈ σ, r < H.length ∧ (r < h.length ∨ ∃ t, Operand.tmp t ∈ o.op.operands ∧ T t = .t (.c (.own r)))) (hem : e < mm) (hB : drawB ops mm = true) (hg : guardOk N ops = true) (hd : ops.toList.all (dstOk N) = true) (htr : Trace1 P ops (ops.toList.take mm) T h σ e E X Ts Hs R Rw W) {Q : Exit → (Nat → AV) → AH → Prop}
    (htail : seqA P ops (Q .normal) (ops.toList.drop mm) (Ts mm) (bck σ (Hs mm) X)) :
    ∀ (f : Nat) (F : Nat → Prop) (listed : Array Bool) (U : List Nat) (a : Act) (w : World) (m : AM) (hS : AH), Grow F0 F w0 m0 h0 → U.length = f → Mid1 F w0 m0 h0 N mm ops e σ X Ts Hs Rw listed U a w m hS → wpAny P .any ops (Meets F0 w0 m0 h0 N Q) (f + (ops.size - mm)) listed a w := by
  unfold drawB at hB
  simp only [Bool.and_eq_true, Bool.or_eq_true, decide_eq_true_eq] at hB
  obtain ⟨⟨⟨hle, hhead⟩, htl⟩, hseq⟩ := hB
  intro f
  induction f with
  | zero =>
    intro F listed U a w m hS hG hU M
    have hU' : U = [] := List.eq_nil_of_length_eq_zero hU
    subst hU'
    have hl : listed = (Array.range ops.size).map fun i => decide (i < mm) := by
      apply Array.ext_getElem?
      intro i
      by_cases hi : i < ops.size
      · have hil : i < listed.size := by rw [M.inv.size]; exact hi
        have e2 : (((Array.range ops.size).map fun i => decide (i < mm)) : Array Bool)[i]? = some (decide (i < mm)) := by simp [hi]
        rw [e2, Array.getElem?_eq_getElem hil]
        congr 1
        by_cases him : i < mm
        · have h1 : ¬ (listed.getD i true = false) := fun hx => by have := (M.un i).2 ⟨him, hx⟩; simp at this
          have : listed.getD i true = listed[i] := by simp [Array.getD, hil]
          rw [this] at h1
          simp [him]
          simpa using h1
        · have h1 := M.inv.tail i (by omega) hi
          have : listed.getD i true = listed[i] := by simp [Array.getD, hil]
          rw [this] at h1
          simp [him, h1]
      · rw [Array.getElem?_eq_none (by rw [M.inv.size]; omega), Array.getElem?_eq_none (by simp; omega)]
    have hhS : hS = bck σ (Hs mm) X := by
      apply List.ext_getElem?
      intro r
      by_cases hr : r ∈ σ ∨ (Hs mm).length ≤ r
      · exact M.sub1 (by simp) r hr
      · have hr1 : r ∉ σ := fun h => hr (.inl h)
        have hr2 : r < (Hs mm).length := by rcases Nat.lt_or_ge r (Hs mm).length with h | h; exact h; exact absurd (.inr h) hr
        rw [bck_out hr1 hr2]
        rcases M.same r (.inl hr1) hr2 with h1 | ⟨j, hj, _⟩
        · exact h1
        · simp at hj
    subst hhS
    have hrel : Rel F w0 m0 h0 N (Ts mm) (bck σ (Hs mm) X) a w m := ⟨fun d => by
      rcases M.tm d with ⟨j, hj, _⟩ | h1
      · simp at hj
      · exact h1, M.st, M.df, M.sz⟩
    have hlen : (ops.toList.drop mm).length = ops.size - mm := by simp
    have := wpAny_of_seq (P := P) (md := .any) (ops := ops) (Q' := Meets F0 w0 m0 h0 N Q) (ops.toList.drop mm) mm listed a w (fun j => by simp [List.getElem?_drop]) (by rw [hlen, hl]; exact hseq)
      (seqA_sound hg _ F _ _ _ _ _ (fun o ho => List.mem_of_mem_drop ho) (List.all_eq_true.2 fun o ho => List.all_eq_true.1 hd o (List.mem_of_mem_drop ho)) hG hrel htail)
    rw [hlen] at this
    simpa using this
  | succ f ih =>
    intro F listed U a w m hS hG hU M
    have hne : U ≠ [] := by rintro rfl; simp at hU
    rw [show f + 1 + (ops.size - mm) = (f + (ops.size - mm)) + 1 by omega]
    have hrd : ∀ i ∈ Region.ready .any ops listed, i < mm := fun i hi => by
      rcases Nat.lt_or_ge i mm with h1 | h1
      · exact h1
      · exfalso
        obtain ⟨_, oi, hoi, _⟩ := mem_ready.1 hi
        have hil : i < ops.size := (Array.getElem?_eq_some_iff.1 hoi).1
        rcases htl with h2 | ⟨h2, h3⟩
        · omega
        · obtain ⟨j, hj⟩ := List.exists_mem_of_ne_nil U hne
          obtain ⟨hjm, hjun⟩ := (M.un j).1 hj
          exact tail_waits h2 h3 (by omega) M.inv _ j rfl hjm hjun i h1 hi
    refine ⟨fun h1 => ?_, fun i hi => Mid1.step hE hC hW hem htr hle hhead hg hd M hi (hrd i hi) (fun F1 a' w' m' hS' hG1 M' => ih F1 _ _ _ _ _ _ (hG.trans M.st hG1) ?_ M')⟩
    · exfalso
      obtain ⟨i, hi, hmin⟩ := min_of U hne
      obtain ⟨him, hun⟩ := (M.un i).1 hi
      obtain ⟨o, ho, haft, _⟩ := headB_spec hhead him
      have : i ∈ Region.ready .any ops listed := mem_ready.2 ⟨hun, o, ho, fun e he hb => by
        have h2 := haft e he hb
        have h3 : e.on ∉ U := fun h4 => by have := hmin _ h4; omega
        rw [M.un] at h3
        have h5 : ¬ listed.getD e.on true = false := fun h6 => h3 ⟨by omega, h6⟩
        have hel : e.on < listed.size := by rw [M.inv.size]; omega
        simp [Array.getD, hel] at h5 ⊢
        exact h5⟩
      rw [h1] at this
      cases this
    · have hiU : i ∈ U := (M.un i).2 ⟨hrd i hi, (mem_ready.1 hi).1⟩
      rw [List.length_erase_of_mem hiU, hU]
      rfl
theorem draw1_sound {β : BP} (e mm : Nat) (σ : List Nat) {E : Oper → (Nat → AV) → AH → AV → AH → Prop} {LK : Nat → Prop} (hE : ∀ {L o T H res X}, LK L → H.length ≤ L → E o T H res X → Sem1 P σ L o T H res X) (hC : ∀ {o T T' H res X}, (∀ x ∈ o.op.operands, ev T x = ev T' x) → E o T H res X → E o T' H res X) (hW : ∀ {o T H res X}, E o T H res X → ∀ r ∈ σ, r < H.length ∧ (r < h.length ∨ ∃ t, Operand.tmp t ∈ o.op.operands ∧ T t = .t (.c (.own r)))) (hem : e < mm) (hm : P.follows .mixedOrders = true) (hB : drawB ops mm = true) (hg : guardOk N ops = true) (hd : ops.toList.all (dstOk N) = true) {Q : Exit → (Nat → AV) → AH → Prop} {a : Act} {w : World} {m : AM} (r : Rel F w0 m0 h0 N T h a w m)
    (hh : headE P ops σ e E (fun T h X => LK h.length ∧ seqA P ops (Q .normal) (ops.toList.drop mm) T (bck σ h X)) 0 [] (ops.toList.take mm) T h) (id : Nat) : (Code.region id ops true).wp P (Meets F w0 m0 h0 N Q) a w := by
  obtain ⟨X, Ts, Hs, R, Rw, W, _, _, htail, ht0, hh0, hat⟩ := trace1_of _ _ _ _ _ hh
  have htr : Trace1 P ops (ops.toList.take mm) T h σ e E X Ts Hs R Rw W := ⟨ht0, hh0, fun i o hi => by
    have := hat i o hi
    simp only [Nat.zero_add] at this
    exact this⟩
  have hB' := hB
  unfold drawB at hB'
  simp only [Bool.and_eq_true, Bool.or_eq_true, decide_eq_true_eq] at hB'
  obtain ⟨⟨⟨hle, hhead⟩, htl⟩, hseq⟩ := hB'
  have hlen : (ops.toList.take mm).length = mm := by simp; omega
  rw [hlen] at htail
  obtain ⟨hLK, htail⟩ := htail
  refine wp_region_any hm ?_
  have hmono := htr.mono hle (i := 0) mm (by omega)
  rw [Nat.zero_add, htr.h0] at hmono
  obtain ⟨hl, hpre⟩ := hmono
  have hs0 := r.st.trans (Step.drew r.st.hp)
  let pad := (Hs mm).length - h.length
  have hk : Keeps m h (m ++ List.replicate pad none) (h ++ List.replicate pad AE.hole) := keeps_append r.st.hp.len
  have hlive : ∀ (r' : Nat) (ab : AB), (h ++ List.replicate pad AE.hole)[r']? = some (.live ab) → h[r']? = some (.live ab) ∧ (m ++ List.replicate pad none)[r']? = m[r']? := fun r' ab hr => by
    by_cases hlt : r' < h.length
    · rw [List.getElem?_append_left hlt] at hr
      exact ⟨hr, List.getElem?_append_left (by rw [r.st.hp.len]; exact hlt)⟩
    · rw [List.getElem?_append_right (by omega), List.getElem?_replicate] at hr
      split at hr <;> cases hr
  have hs1 : Step F { w with drawn := w.drawn + 1 } m h { w with drawn := w.drawn + 1 } (m ++ List.replicate pad none) (h ++ List.replicate pad AE.hole) := by
    have hH := (Step.drew r.st.hp).hp
    refine ⟨⟨fun r' ab h1 => ?_, fun r1 r2 ab ab' b c c' h1 h2 h3 h4 => ?_, by simp [r.st.hp.len, pad], hH.old, hH.lo⟩, hk, rfl, rfl, rfl, Nat.le_refl _, fun _ _ _ => rfl, fun r' ab b c h1 h2 => ?_⟩
    · obtain ⟨h2, h3⟩ := hlive r' ab h1
      rw [h3]
      rcases hH.at_ r' ab h2 with h4 | ⟨b, c, h4, h5, h6⟩
      · exact .inl h4
      · exact .inr ⟨b, c, h4, h5, RB.ext (fun _ hb => hb) (fun _ _ => rfl) hk rfl h6⟩
    · obtain ⟨g1, g2⟩ := hlive r1 ab h1
      obtain ⟨g3, g4⟩ := hlive r2 ab' h2
      rw [g2] at h3; rw [g4] at h4
      exact hH.inj r1 r2 ab ab' b c c' g1 g3 h3 h4
    · obtain ⟨g1, g2⟩ := hlive r' ab h1
      rw [g2] at h2
      exact .inl ⟨r', ab, c, g1, h2⟩
  have hrange : ∀ (k : Nat), k ≤ mm → ∀ r' : Nat, h.length ≤ r' → r' < (Hs k).length → ∃ i, i < k ∧ (Hs i).length ≤ r' ∧ r' < (Hs i).length + (Rw i).length := by
    intro k
    induction k with
    | zero => intro _ r' h1 h2; rw [htr.h0] at h2; omega
    | succ k ih =>
      intro hk' r' h1 h2
      rw [htr.len hle (by omega)] at h2
      by_cases hlt : r' < (Hs k).length
      · obtain ⟨i, hi, h3⟩ := ih (by omega) r' h1 hlt
        exact ⟨i, by omega, h3⟩
      · exact ⟨k, by omega, by omega, h2⟩
  have M : Mid1 F w0 m0 h0 N mm ops e σ X Ts Hs Rw (Array.replicate ops.size false) (List.range mm) a { w with drawn := w.drawn + 1 } (m ++ List.replicate pad none) (h ++ List.replicate pad AE.hole) := by
    refine ⟨⟨by simp, fun j oj _ hl => (by rw [getD_replicate_false] at hl; cases hl), fun t _ ht => getD_in (by simpa using ht) (getD_replicate_false _ _)⟩, List.nodup_range, fun i => ?_, by rw [if_pos (List.mem_range.2 hem)]; simp [pad]; omega, fun r' hrσ hrl => ?_, fun i hi r' h1 h2 => ?_, fun hn => absurd (List.mem_range.2 hem) hn, fun hn => absurd (List.mem_range.2 hem) hn, fun d => ?_, hs0.trans hs1, r.df, r.sz⟩
    · rw [List.mem_range]
      refine ⟨fun h1 => ⟨h1, getD_in (by simp; omega) (getD_replicate_false _ _)⟩, fun h1 => h1.1⟩
    · by_cases hlt : r' < h.length
      · left
        rw [List.getElem?_append_left hlt, List.getElem?_eq_getElem hlt]
        exact (hpre r' _ (List.getElem?_eq_getElem hlt)).symm
      · by_cases hlt2 : r' < (Hs mm).length
        · right
          obtain ⟨i, hi, h3⟩ := hrange mm (Nat.le_refl _) r' (by omega) hlt2
          exact ⟨i, List.mem_range.2 hi, h3⟩
        · left
          rw [List.getElem?_eq_none (by simp [pad]; omega), List.getElem?_eq_none (by omega)]
    · have him := List.mem_range.1 hi
      have h3 := (htr.mono hle (i := 0) i (by omega)).1
      rw [Nat.zero_add, htr.h0] at h3
      have h4 := (htr.mono hle (i := i + 1) (mm - (i + 1)) (by omega)).1
      rw [show i + 1 + (mm - (i + 1)) = mm by omega, htr.len hle him] at h4
      rw [List.getElem?_append_right (by omega), List.getElem?_replicate, if_pos (by simp only [pad]; omega)]
    · by_cases hw : ∃ i ∈ List.range mm, ∃ o, ops[i]? = some o ∧ o.dst = some d
      · exact .inl hw
      · right
        have hT : Ts mm d = T d := by
          have := htr.temp hle (i := 0) (d := d) mm (by omega) (fun j o h1 h2 h3 h4 => hw ⟨j, List.mem_range.2 (by omega), o, h3, h4⟩)
          rw [Nat.zero_add, htr.t0] at this
          exact this
        rw [hT]
        exact RV.step ((Step.drew r.st.hp).trans hs1) r.st.hp (r.tm d)
  have := any_sound1 (F0 := F) (fun hl hx => hE hLK hl hx) hC hW hem hB hg hd htr htail _ F _ _ _ _ _ _ (Grow.refl _ _ _ _) rfl M
  rw [List.length_range, show mm + (ops.size - mm) = ops.size by omega] at this
  exact this
theorem vc_eff {β : BP} {n0 id : Nat} {l : List Oper} {Q : Exit → (Nat → AV) → AH → Prop} (mm e : Nat) (σ : List Nat) {E : Oper → (Nat → AV) → AH → AV → AH → Prop} {LK : Nat → Prop} (hE : ∀ {L o T H res X}, LK L → H.length ≤ L → E o T H res X → Sem1 P σ L o T H res X) (hC : ∀ {o T T' H res X}, (∀ x ∈ o.op.operands, ev T x = ev T' x) → E o T H res X → E o T' H res X)
    (hW : ∀ {o T H res X}, E o T H res X → ∀ r ∈ σ, r < H.length ∧ (r < h.length ∨ ∃ t, Operand.tmp t ∈ o.op.operands ∧ T t = .t (.c (.own r)))) (hem : e < mm) (hm : P.follows .mixedOrders = true) (hok : textOk N l.toArray = true) (hB : drawB l.toArray mm = true)
    (hs : headE P l.toArray σ e E (fun T h X => LK h.length ∧ seqA P l.toArray (Q .normal) (l.drop mm) T (bck σ h X)) 0 [] (l.take mm) T h) : VC P n0 N (.region id l.toArray true) Q T h := fun F w0 m0 h0 a w m hn r => by
  unfold textOk at hok
  simp only [Bool.and_eq_true] at hok
  exact draw1_sound e mm σ hE hC hW hem hm hB hok.1 hok.2 r hs id
end
end Go.Proofs.YtenbloaopcfdlaaGreat.Am
namespace Go.Proofs.YtenbloaopcfdlaaGreat.Am
open Go.RowKit
set_option linter.unusedVariables false
set_option linter.unusedSimpArgs false
inductive EK where
  | hand
abbrev ET := List (Nat × EK)
def lkE : ET → Nat → Option EK
  | [], _ => none
  | (k, t) :: l, d => match Nat.beq k d with | true => some t | false => lkE l d
abbrev EF := EH → List Nat → FuncId → List AT → (AV → EH → Prop) → Prop
abbrev HF := Code → (Exit → List (Nat × AV) → EH → Prop) → List (Nat × AV) → EH → Prop
def hd0 [BP] (P : Program) (n0 N : Nat) : HF := fun c Q l h => VC P n0 N c (QE Q) (lkT l) (toH h)
def eff0 [BP] (P : Program) : EF := fun h σ f args K => ∃ res X hs args', plainV res = true ∧ σ.length ≤ X.length ∧ σ.Nodup ∧ (∀ r ∈ σ, r < h.length) ∧ Con P f (toH hs) args' (fun r s => r = res ∧ s = toH X) ∧ SubE (σ.map some) hs h σ hs ∧ rnTs (σ.map some) (toH hs) args' args ∧ K res X
def hidG : List Nat → EH → EH
  | [], h => h
  | r :: σ, h => hidG σ (setL h r .gn)
theorem hidG_hid : ∀ (σ : List Nat) (h : EH), toH (hidG σ h) = hid σ (toH h) := by
  have key : ∀ (σ : List Nat) (h : EH), (hidG σ h).length = h.length ∧ ∀ r : Nat, (hidG σ h)[r]? = if r ∈ σ ∧ r < h.length then some .gn else h[r]? := by
    intro σ
    induction σ with
    | nil => intro h; exact ⟨rfl, fun r => by simp [hidG]⟩
    | cons q σ ih =>
      intro h
      unfold hidG
      rw [setL_eq]
      obtain ⟨h1, h2⟩ := ih (h.set q .gn)
      refine ⟨by rw [h1]; simp, fun r => ?_⟩
      rw [h2 r, List.length_set, List.getElem?_set]
      by_cases hr : r < h.length
      · by_cases hm : r ∈ σ
        · simp [hm, hr]
        · by_cases hq : q = r
          · subst hq; simp [hr]
          · have hq' : ¬ r = q := fun h => hq h.symm
            simp [hm, hq, hq']
      · have : h[r]? = none := by rw [List.getElem?_eq_none_iff]; omega
        by_cases hq : q = r
        · subst hq; simp [hr]
        · simp [hr, hq, this]
  intro σ h
  obtain ⟨h1, h2⟩ := key σ h
  apply List.ext_getElem?
  intro r
  simp only [toH, List.getElem?_map, h2 r]
  by_cases hl : r < h.length
  · by_cases hm : r ∈ σ
    · have := hid_in (h := toH h) hm (by rw [toH_len]; exact hl)
      simp only [toH] at this
      rw [this, if_pos ⟨hm, hl⟩]; rfl
    · have := hid_out (h := toH h) hm
      simp only [toH] at this
      rw [this, if_neg (fun h => hm h.1), List.getElem?_map]
  · rw [if_neg (fun h => hl h.2)]
    have e1 : h[r]? = none := by rw [List.getElem?_eq_none_iff]; omega
    rw [e1]
    symm
    have := hid_len σ (toH h)
    rw [Option.map_none, List.getElem?_eq_none_iff]
    rw [toH] at this
    rw [this, List.length_map]; omega
section
variable {P : Program} {ops : Array Oper} {σ : List Nat} {e : Nat} {E : Oper → (Nat → AV) → AH → AV → AH → Prop} {K : (Nat → AV) → AH → AH → Prop}
theorem hid_app {σ : List Nat} {h tl : AH} (hσ : ∀ r ∈ σ, r < h.length) : hid σ (h ++ tl) = hid σ h ++ tl := by
  apply List.ext_getElem?
  intro r
  by_cases hm : r ∈ σ
  · rw [hid_in hm (by rw [List.length_append]; have := hσ r hm; omega), List.getElem?_append_left (by rw [hid_len]; exact hσ r hm), hid_in hm (hσ r hm)]
  · rw [hid_out hm, List.getElem?_append, List.getElem?_append, hid_len, hid_out hm]
theorem headE_pre {K1 : (Nat → AV) → AH → Prop} {X : AH} {rest : List Oper} : ∀ (l : List Oper) (k : Nat) (T : Nat → AV) (h : AH), (∀ r ∈ σ, r < h.length) → headA P ops K1 l T (hid σ h) → k + l.length ≤ e → (∀ T tl, K1 T (hid σ (h ++ tl)) → headE P ops σ e E K (k + l.length) X rest T (h ++ tl)) → headE P ops σ e E K k X (l ++ rest) T h
  | [], k, T, h, _, hh, _, hk => by have := hk T []; simp only [List.append_nil, List.length_nil, Nat.add_zero] at this; exact this hh
  | o :: os, k, T, h, hσ, hh, hle, hk => by
    unfold headA at hh
    simp only [List.length_cons] at hle hk
    rw [List.cons_append]
    unfold headE
    rw [if_neg (by omega)]
    exact grd_mono (fun ⟨res, rows, h1, h2⟩ => by
      rw [← hid_app hσ] at h2
      rw [hid_len] at h1
      refine ⟨res, rows, h1, headE_pre os (k + 1) _ _ (fun r hr => by rw [List.length_append]; have := hσ r hr; omega) h2 (by omega) (fun T tl h3 => ?_)⟩
      rw [List.append_assoc] at h3 ⊢
      have := hk T _ h3
      rwa [show k + (os.length + 1) = k + 1 + os.length by omega] at this)
     (fun h2 => headE_pre os (k + 1) _ _ hσ h2 (by omega) (fun T tl h3 => by have := hk T tl h3; rwa [show k + (os.length + 1) = k + 1 + os.length by omega] at this)) hh
theorem headE_post {K1 : (Nat → AV) → AH → Prop} {X : AH} : ∀ (l : List Oper) (k : Nat) (T : Nat → AV) (h : AH), (∀ r ∈ σ, r < h.length) → headA P ops K1 l T (hid σ h) → e < k → (∀ T tl, K1 T (hid σ (h ++ tl)) → K T (h ++ tl) X) → headE P ops σ e E K k X l T h
  | [], k, T, h, _, hh, _, hk => by have := hk T []; simp only [List.append_nil] at this; exact this hh
  | o :: os, k, T, h, hσ, hh, hle, hk => by
    unfold headA at hh
    unfold headE
    rw [if_neg (by omega)]
    exact grd_mono (fun ⟨res, rows, h1, h2⟩ => by
      rw [← hid_app hσ] at h2
      rw [hid_len] at h1
      refine ⟨res, rows, h1, headE_post os (k + 1) _ _ (fun r hr => by rw [List.length_append]; have := hσ r hr; omega) h2 (by omega) (fun T tl h3 => ?_)⟩
      rw [List.append_assoc] at h3 ⊢
      exact hk T _ h3) (fun h2 => headE_post os (k + 1) _ _ hσ h2 (by omega) hk) hh
end
theorem Cp.of_hid {σ : List Nat} {H hS : AH} (hs : ∀ r ∈ σ, hS[r]? = H[r]?) (hC : Cp (hid σ H) hS) : Cp H hS := fun r ab hr => by
  by_cases hm : r ∈ σ
  · rw [hs r hm, hr]
    exact ⟨(by intro he; cases he), fun ab' he => by cases he; rfl⟩
  · exact hC r ab (by rw [hid_out hm]; exact hr)
theorem bck_hid {σ : List Nat} {H X : AH} : bck σ (hid σ H) X = bck σ H X := by
  apply List.ext_getElem?
  intro r
  by_cases h1 : r ∈ σ ∨ (hid σ H).length ≤ r
  · exact bck_rest (hid_len σ H) h1
  · have h2 : r ∉ σ := fun h => h1 (.inl h)
    have h3 : r < (hid σ H).length := by rcases Nat.lt_or_ge r (hid σ H).length with h | h; exact h; exact absurd (.inr h) h1
    rw [bck_out h2 h3, hid_out h2, bck_out h2 (by rwa [hid_len] at h3)]
theorem EOk.sem {β : BP} {P : Program} {o : Oper} {H : AH} {σ : List Nat} {T : Nat → AV} {res : AV} {X : AH} {L : Nat} (hE : EOk P o H σ T res X) (hL : H.length ≤ L) : Sem1 P σ L o T H res X := fun F w m a hS hH hT hs hC hl =>
  hE.run hH hT hs (by omega)
def AOk (P : Program) (o : Oper) (H : AH) (r0 L : Nat) (T : Nat → AV) (res : AV) (X : AH) : Prop :=
  ∃ (c : Call) (ts : Tmp) (x : Operand) (new : AB), o.op = .call c ∧ c.args.toList = [.tmp ts, x] ∧ T ts = .t (.c (.own r0)) ∧ r0 < H.length ∧ plainE new.es = true ∧ res = .t (.c (.own L)) ∧ X = [.gone, .live new] ∧ apA P T H c (fun _ h' => h' = H.set r0 .gone ++ [.live new])
theorem srcA_move {F : Nat → Prop} {w : World} {m : AM} {H hS : AH} {z : AC} {v : Value} {ys : List (List AC)} (hC : Cp H hS) (hv : RC F w m hS z v) (hs : srcA H z = some ys) : srcA hS z = some ys := by
  cases z with
  | own r =>
    simp only [srcA] at hs ⊢
    split at hs
    · rename_i ab hr
      rcases hv with hg | ⟨ab', h1, _⟩
      · exact (hC.gone hr hg).elim
      · rw [h1, hC.live hr h1]; exact hs
    · cases hs
  | sub r lo n =>
    simp only [srcA] at hs ⊢
    split at hs
    · rename_i ab hr
      rcases hv with hg | ⟨ab', c, p, h1, _⟩
      · exact (hC.gone hr hg).elim
      · rw [h1, hC.live hr h1]; exact hs
    · cases hs
  | imm u =>
    unfold srcA at hs ⊢
    split at hs <;> first | (rename_i heq; cases heq; exact hs) | (rename_i heq; cases heq; done) | cases hs
  | view xs => exact hs
  | ptr r i off => exact hs
  | eptr cs off => exact hs
  | clo f rs => exact hs
  | fv bs xs => exact hs
  | old p xs => exact hs
  | dead => exact hs
theorem bck_app {hS : AH} {r0 : Nat} {new : AB} (hr0 : r0 < hS.length) (hp : plainE new.es = true) : bck [r0] hS [.gone, .live new] = hS.set r0 .gone ++ [.live new] := by
  have hlt : ∀ r ∈ [r0], r < hS.length := fun r hr => by simp only [List.mem_singleton] at hr; subst hr; exact hr0
  have hr0l := hlt r0 (by simp)
  apply List.ext_getElem?
  intro r
  by_cases h1 : r = r0
  · subst h1
    have := bck_at (H := hS) (X := [.gone, .live new]) (σ := [r]) (by simp) hlt (by simp) (i := 0) (by simp)
    rw [plc_eq] at this
    simp only [List.getElem?_cons_zero] at this
    rw [this, List.getElem?_append_left (by simpa using hr0l), List.getElem?_set_self hr0l]; rfl
  · by_cases h2 : r < hS.length
    · rw [bck_out (by simpa using h1) h2, List.getElem?_append_left (by simpa using h2), List.getElem?_set_ne (fun h => h1 h.symm)]
    · by_cases h3 : r = hS.length
      · subst h3
        have := bck_at (H := hS) (X := [.gone, .live new]) (σ := [r0]) (by simp) hlt (by simp) (i := 1) (by simp)
        rw [plc_eq] at this
        simp only [List.getElem?_cons_succ, List.getElem?_nil, List.length_singleton, Nat.sub_self, Nat.add_zero, List.getElem?_cons_zero, Option.map_some] at this
        rw [this, List.getElem?_append_right (by simp)]
        simp only [List.length_set, Nat.sub_self, List.getElem?_cons_zero, AE.mv]
        congr 2
        obtain ⟨t, k, es⟩ := new
        simp only [AB.mv]
        congr 1
        have hp' : ∀ x ∈ es, x.all plain = true := fun x hx => List.all_eq_true.1 hp x hx
        exact (List.map_congr_left (fun x hx => plainL_mv (hp' x hx) _)).trans (List.map_id' es)
      · rw [List.getElem?_eq_none (by rw [bck_len]; simp; omega), List.getElem?_eq_none (by simp; omega)]
theorem AOk.sem {β : BP} {P : Program} {o : Oper} {H : AH} {r0 L : Nat} {T : Nat → AV} {res : AV} {X : AH} (hE : AOk P o H r0 L T res X) : Sem1 P [r0] L o T H res X := fun F w m a hS hH hT hs hC hl => by
  obtain ⟨c, ts, x, new, hop, harg, ht, hr0, hp, rfl, rfl, hap⟩ := hE
  have hC' := hC.of_hid hs
  have hs0 := hs r0 (by simp)
  have hap2 : apA P T hS c (fun res h' => res = .t (.c (.own L)) ∧ h' = hS.set r0 .gone ++ [.live new]) := by
    unfold apA at hap ⊢
    split at hap
    · rename_i s x' t t' hcal hargs hty
      rw [harg] at hargs
      cases hargs
      refine ⟨hap.1, ?_⟩
      obtain ⟨_, hap⟩ := hap
      have e1 : ev T (.tmp ts) = .t (.c (.own r0)) := ht
      rw [e1] at hap ⊢
      split at hap
      · rename_i y z e k by_ hy hz hE
        cases hy
        obtain ⟨old, hb, ys, z0, h1, h2, h3, h4, h5, h6, h7, h8, h9⟩ := hap
        simp only [dstA] at h1
        split at h1
        · rename_i ab hr
          split at h1
          · rename_i hte
            cases h1
            rw [hr] at hs0
            refine ⟨ab.es, hS.set r0 .gone, ys, z0, ?_, srcA_move hC' (ev_t hT hz) h2, h3, h4, h5, h6, h7, h8, by rw [hl], ?_⟩
            · simp only [dstA, hs0, hte, and_self, if_true]
            · have := List.append_cancel_left h9
              rw [this]
          · cases h1
        · cases h1
      · exact hap.elim
    · exact hap.elim
  obtain ⟨res, h', v, w', m', ⟨rfl, rfl⟩, hr, hst, hv⟩ := do_append hT hH hop hap2
  have hb : bck [r0] hS [.gone, .live new] = hS.set r0 .gone ++ [.live new] := bck_app (by
    have := List.getElem?_eq_getElem hr0
    rw [this] at hs0
    exact (List.getElem?_eq_some_iff.1 hs0).1) hp
  exact Yl.value hr ⟨m', F, Grow.refl _ _ _ _, by rw [hb]; exact hst, by rw [hb]; exact hv⟩
section
variable {P : Program} {n0 N : Nat} {tab : List (TypeId × TI)}
theorem apA_own {T : Nat → AV} {H : AH} {c : Call} {r0 : Nat} {ts : Tmp} {x : Operand} {K : AV → AH → Prop} (harg : c.args.toList = [.tmp ts, x]) (ht : T ts = .t (.c (.own r0))) (hp : apA P T H c K) :
    ∃ new : AB, r0 < H.length ∧ apA P T H c (fun _ h' => h' = H.set r0 .gone ++ [.live new]) ∧ K (.t (.c (.own H.length))) (H.set r0 .gone ++ [.live new]) := by
  unfold apA at hp ⊢
  split at hp
  · rename_i s x' t t' hcal hargs hty
    rw [harg] at hargs
    cases hargs
    obtain ⟨h0, hp⟩ := hp
    have e1 : ev T (.tmp ts) = .t (.c (.own r0)) := ht
    rw [e1] at hp ⊢
    split at hp
    · rename_i y z e k by_ hy hz hE
      cases hy
      obtain ⟨old, hb, ys, z0, h1, h2, h3, h4, h5, h6, h7, h8, h9⟩ := hp
      have h1' := h1
      simp only [dstA] at h1
      split at h1
      · rename_i ab hr
        split at h1
        · cases h1
          exact ⟨_, (List.getElem?_eq_some_iff.1 hr).1, ⟨h0, _, _, ys, z0, h1', h2, h3, h4, h5, h6, h7, h8, rfl⟩, h9⟩
        · cases h1
      · cases h1
    · exact hp.elim
  · exact hp.elim
end
def runC4 (ets : ET) (lts : LT) (eff : EF) (hd : HF) (g : Gd) (tab : List (TypeId × TI)) : Code → (Exit → List (Nat × AV) → EH → Prop) → List (Nat × AV) → EH → Prop
  | .skip, Q, l, h => Q .normal l h
  | .ret, Q, l, h => Q .ret l h
  | .exit id, Q, l, h => Q (.exit id) l h
  | .seq x y, Q, l, h => runC4 ets lts eff hd g tab x (fun e l h => match e with | .normal => runC4 ets lts eff hd g tab y Q l h | e => Q e l h) l h
  | .cond c x y, Q, l, h => match ev (lkT l) c with
    | .t (.c (.imm (.bool b))) => (match b with | true => runC4 ets lts eff hd g tab x Q l h | false => runC4 ets lts eff hd g tab y Q l h)
    | _ => False
  | .block id c, Q, l, h => runC4 ets lts eff hd g tab c (fun e l h => match e with | .exit i => (match Nat.beq i id with | true => Q .normal l h | false => Q (.exit i) l h) | e => Q e l h) l h
  | .region id ops draw, Q, l, h => match lkE ets id with
    | some .hand => hd (.region id ops draw) Q l h
    | none => match draw with
     | false => runS g tab ops.toList (fun l h => Q .normal l h) ops.toList 0 l h
     | true => runS g tab ops.toList (fun l h => Q .normal l h) ops.toList (headN ops.toList ops.toList) l h
  | .loop c, Q, l, h => g .L c Q l h
  | _, _, _, _ => False
def codeOk4 (ets : ET) (lts : LT) (N : Nat) : Code → Bool
  | .seq x y => codeOk4 ets lts N x && codeOk4 ets lts N y
  | .cond _ x y => codeOk4 ets lts N x && codeOk4 ets lts N y
  | .block _ c => codeOk4 ets lts N c
  | .region id ops draw => match lkE ets id with | some .hand => true | none => textOk N ops && (!draw || (drawB ops (headN ops.toList ops.toList)))
  | .loop c => codeOk4 ets lts N c
  | _ => true
section
variable {P : Program} {n0 N : Nat} {tab : List (TypeId × TI)}
theorem runC4_sound {β : BP} (hf : Fits P tab) {ets : ET} {lts : LT} : ∀ (c : Code) (Q : Exit → List (Nat × AV) → EH → Prop) (l : List (Nat × AV)) (h : EH), codeOk4 ets lts N c = true → runC4 ets lts (eff0 P) (hd0 P n0 N) (G0 P n0 N) tab c Q l h → VC P n0 N c (QE Q) (lkT l) (toH h)
  | .skip, Q, l, h, _, hp => vc_skip ⟨l, h, rfl, rfl, hp⟩
  | .ret, Q, l, h, _, hp => vc_ret ⟨l, h, rfl, rfl, hp⟩
  | .exit id, Q, l, h, _, hp => vc_exit ⟨l, h, rfl, rfl, hp⟩
  | .seq x y, Q, l, h, ho, hp => by
    simp only [codeOk4, Bool.and_eq_true] at ho
    refine vc_seq (vc_mono (fun e T h hq => ?_) (runC4_sound hf x _ l h ho.1 hp))
    obtain ⟨l, eh, rfl, rfl, hq⟩ := hq
    cases e <;> first
      | exact ⟨l, eh, rfl, rfl, hq⟩
      | exact runC4_sound hf y Q l eh ho.2 hq
  | .cond c x y, Q, l, h, ho, hp => by
    simp only [codeOk4, Bool.and_eq_true] at ho
    simp only [runC4] at hp
    split at hp
    · rename_i b hb
      refine vc_cond hb (fun hb => ?_) (fun hb => ?_)
      · subst hb; exact runC4_sound hf x Q l h ho.1 hp
      · subst hb; exact runC4_sound hf y Q l h ho.2 hp
    · exact hp.elim
  | .block id c, Q, l, h, ho, hp => by
    refine vc_block (vc_mono (fun e T h hq => ?_) (runC4_sound hf c _ l h ho hp))
    obtain ⟨l, eh, rfl, rfl, hq⟩ := hq
    cases e <;> first
      | exact ⟨l, eh, rfl, rfl, hq⟩
      | skip
    rename_i i
    simp only [blockQ]
    simp only at hq
    split at hq
    · rename_i hb
      rw [if_pos (bt hb)]
      exact ⟨l, eh, rfl, rfl, hq⟩
    · rename_i hb
      rw [if_neg (fun he => by subst he; simp at hb)]
      exact ⟨l, eh, rfl, rfl, hq⟩
  | .region id ops draw, Q, l, h, ho, hp => by
    obtain ⟨os⟩ := ops
    simp only [codeOk4] at ho
    simp only [runC4] at hp
    have hle : ∀ {mm : Nat}, drawB os.toArray mm = true → mm ≤ os.length := fun {mm} this => by
      unfold drawB at this
      simp only [Bool.and_eq_true, decide_eq_true_eq] at this
      simpa using this.1.1.1
    cases hk : lkE ets id with
    | some t =>
      rw [hk] at ho hp
      cases t with
      | hand => exact hp
    | none =>
      rw [hk] at ho hp
      simp only [Bool.and_eq_true, Bool.or_eq_true, Bool.not_eq_true'] at ho
      cases draw with
      | false => exact vc_region ho.1 (runS_sound hf os 0 l h hp)
      | true =>
        obtain ⟨h1, h2⟩ := ho
        rcases h2 with h2 | h2
        · cases h2
        · simp only at hp
          exact vc_draw _ hf.mix h1 h2 (runS_sound hf os _ l h hp)
  | .loop c, Q, l, h, _, hp => hp
  | .rangeFunc _ _ _ _, _, _, _, _, hp => hp.elim
  | .scope _, _, _, _, _, hp => hp.elim
  | .label _, _, _, _, _, hp => hp.elim
  | .goto _, _, _, _, _, hp => hp.elim
  | .refuse _, _, _, _, _, hp => hp.elim
theorem con_run4 {β : BP} (ets : ET) (lts : LT) {f : FuncId} {fn : Func} {c : Code} {args : List AT} {Post : AV → AH → Prop} {h : EH} (hfit : Fits P tab) (hf : P.funcs[f]? = some fn) (hb : fn.body = some c) (hnm : (fn.name == "runtime.NumGoroutine") = false) (hn : args.length ≤ fn.ntmps)
    (hok : codeOk4 ets lts fn.ntmps c = true) (hv : ∀ (g : Gd) (eff : EF) (hd : HF) (F : List AT → EH → Prop), eff = eff0 P → hd = hd0 P (toH h).length fn.ntmps → g = G0 P (toH h).length fn.ntmps → F = FinP (toH h).length Post → runC4 ets lts eff hd g tab c (finG tab fn.results.toList F) (argL args 0) h) (hex : ∀ b, ¬ BP.ex b := by exact fun _ h => h) : Con P f (toH h) args Post := by
  refine con_of_vc hex hf hb hnm hn (vc_forget (T' := lkT (argL args 0)) (fun d => ?_) (vc_mono (fun e T h hq => ?_) (runC4_sound hfit c _ _ h hok (hv _ _ _ _ rfl rfl rfl rfl))))
  · rcases lk_argL args 0 d with h1 | ⟨x, h1, h2, h3⟩
    · exact .inl h1
    · refine .inr ?_
      rw [h3]
      simp only [Nat.sub_zero] at h1
      simp only [T0, h1]
  · obtain ⟨l, eh, rfl, rfl, hq⟩ := hq
    cases e <;> first
      | exact hq.elim
      | exact resG_sound hfit _ _ hq
theorem pcon_run4 (ets : ET) (lts : LT) {f : FuncId} {fn : Func} {c : Code} {args : List AT} {Post : AV → List AB → Prop} (hfit : Fits P tab) (hf : P.funcs[f]? = some fn) (hb : fn.body = some c) (hnm : (fn.name == "runtime.NumGoroutine") = false) (hn : Nat.ble args.length fn.ntmps = true)
    (hok : codeOk4 ets lts fn.ntmps c = true) (hv : ∀ (g : Gd) (eff : EF) (hd : HF) (F : List AT → EH → Prop), eff = eff0 P → hd = hd0 P 0 fn.ntmps → g = G0 P 0 fn.ntmps → F = FinP 0 (fun res h' => ∃ rows, h' = rows.map .live ∧ Post res rows) → runC4 ets lts eff hd g tab c (finG tab fn.results.toList F) (argL args 0) []) : PCon P f args Post :=
  con_run4 ets lts (h := []) hfit hf hb hnm (bl hn) hok hv
end
section
variable {P : Program} {tab : List (TypeId × TI)} {n0 N : Nat} {g : Gd} {h : EH} {c : Code} {Q : Exit → List (Nat × AV) → EH → Prop} {l : List (Nat × AV)}
theorem loop_runW4 {β : BP} (ets : ET) (lts : LT) {eff : EF} {hd : HF} (he : eff = eff0 P) (hh : hd = hd0 P n0 N) (hg : g = G0 P n0 N) (hfit : Fits P tab) {S : Type} (hok : codeOk4 ets lts N c = true) (Tf : S → List (Nat × AV)) (hf : S → EH) (ok : S → Prop) (μ : S → Nat) (s0 : S) (h0 : ok s0)
    (hw : Weak n0 N (lkT l) (toH h) (Tf s0) (toH (hf s0)))
    (hb : ∀ (s : S) (B : List (Nat × AV) → EH → Prop), ok s → B = (fun l' h' => ∃ s', ok s' ∧ μ s' < μ s ∧ Weak n0 N (lkT l') (toH h') (Tf s') (toH (hf s'))) → runC4 ets lts eff hd g tab c (fun e l h => match e with | .normal => B l h | e => Q e l h) (Tf s) (hf s)) : g .L c Q l h := by
  subst hg he hh
  refine vc_loopW Tf (fun s => toH (hf s)) ok μ s0 h0 hw (fun s hs => vc_mono (fun e T h hq => ?_) (runC4_sound hfit c _ _ _ hok (hb s _ hs rfl)))
  obtain ⟨l', eh, rfl, rfl, hq⟩ := hq
  cases e <;> first
    | exact ⟨l', eh, rfl, rfl, hq⟩
    | exact hq
end
end Go.Proofs.YtenbloaopcfdlaaGreat.Am
