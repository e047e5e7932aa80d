/- A part of AM, a framework of the prover own: functions of any program as maps of data. -/
import Derived.Test.YtgcofllgbdcicaaGreatAmT
namespace Go.Proofs.YtgcofllgbdcicaaGreat.Am
open Go.RowKit
set_option linter.unusedVariables false
set_option linter.unusedSimpArgs false

/-- A result, as the function leaves it. -/
def rsA (P : Program) (T : Nat → AV) (h : AH) (r : ResultVar) (K : AT → Prop) : Prop :=
  match r with
  | .tmp t => match T t with | .t x => K x | _ => False
  | .cell a t => match T a, aggOf P t with
    | .t (.c (.ptr r i off)), some q => match h[r]? with
      | some (.live ab) => ∃ x, ab.es[i]? = some x ∧ ldA q x off (fun v => match v with | .t y => K y | _ => False)
      | _ => False
    | _, _ => False
def rsL (P : Program) (T : Nat → AV) (h : AH) : List ResultVar → (List AT → Prop) → Prop
  | [], K => K []
  | r :: rs, K => rsA P T h r fun x => rsL P T h rs fun xs => K (x :: xs)
def mkV : List AT → AV
  | [x] => .t x
  | xs => .tup xs
/-- Values read as data, cell by cell: own rows as what stands in them. -/
inductive ResL (h : AH) : List AC → List AC → Prop
  | nil : ResL h [] []
  | cons {c d : AC} {xs ys : List AC} : ResC h c d → ResL h xs ys → ResL h (c :: xs) (d :: ys)
inductive ResB (h : AH) : List AT → List AT → Prop
  | nil : ResB h [] []
  | c {c d : AC} {xs ys : List AT} : ResC h c d → ResB h xs ys → ResB h (.c c :: xs) (.c d :: ys)
  | agg {a b : List AC} {xs ys : List AT} : ResL h a b → ResB h xs ys → ResB h (.agg a :: xs) (.agg b :: ys)
theorem ResL.at_ {h : AH} {a b : List AC} (hr : ResL h a b) : a.length = b.length ∧ ∀ (i : Nat) (c d : AC), a[i]? = some c → b[i]? = some d → ResC h c d := by
  induction hr with
  | nil => exact ⟨rfl, fun i c d h => by simp at h⟩
  | cons h1 _ ih =>
    refine ⟨by simp [ih.1], fun i c d hc hd => ?_⟩
    cases i with
    | zero => simp at hc hd; subst hc hd; exact h1
    | succ i => exact ih.2 i c d (by simpa using hc) (by simpa using hd)
theorem ResB.at_ {h : AH} {a b : List AT} (hr : ResB h a b) : b.length = a.length ∧ ∀ (j : Nat) (x y : AT), a[j]? = some x → b[j]? = some y → (∃ c d, x = .c c ∧ y = .c d ∧ ResC h c d) ∨ ∃ xs ys, x = .agg xs ∧ y = .agg ys ∧ xs.length = ys.length ∧ ∀ (i : Nat) (c d : AC), xs[i]? = some c → ys[i]? = some d → ResC h c d := by
  induction hr with
  | nil => exact ⟨rfl, fun i c d h => by simp at h⟩
  | c h1 _ ih =>
    refine ⟨by simp [ih.1], fun i x y hx hy => ?_⟩
    cases i with
    | zero => simp at hx hy; subst hx hy; exact .inl ⟨_, _, rfl, rfl, h1⟩
    | succ i => exact ih.2 i x y (by simpa using hx) (by simpa using hy)
  | agg h1 _ ih =>
    refine ⟨by simp [ih.1], fun i x y hx hy => ?_⟩
    cases i with
    | zero => simp at hx hy; subst hx hy; exact .inr ⟨_, _, rfl, rfl, h1.at_.1, h1.at_.2⟩
    | succ i => exact ih.2 i x y (by simpa using hx) (by simpa using hy)
theorem ResB.rt {F : Nat → Prop} {w : World} {m : AM} {h : AH} (hH : RH F w m h) {x y : AT} (hr : (∃ c d, x = .c c ∧ y = .c d ∧ ResC h c d) ∨ ∃ xs ys, x = .agg xs ∧ y = .agg ys ∧ xs.length = ys.length ∧ ∀ (i : Nat) (c d : AC), xs[i]? = some c → ys[i]? = some d → ResC h c d) {v : Value} (hv : RT F w m h x v) : RT (OwnF F m h) w [] [] y v := by
  rcases hr with ⟨c, d, rfl, rfl, h1⟩ | ⟨xs, ys, rfl, rfl, h1, h2⟩
  · exact h1.rc (Cp.refl h) hH hv
  · obtain ⟨vs, g1, g2, g3⟩ := hv
    refine ⟨vs, g1, by rw [g2, h1], fun i d hi => ?_⟩
    have hil : i < xs.length := by rw [h1]; exact (List.getElem?_eq_some_iff.1 hi).1
    have hxi := List.getElem?_eq_getElem hil
    obtain ⟨u, hu, ho', hru⟩ := g3 i _ hxi
    exact ⟨u, hu, ho', (h2 i _ d hxi hi).rc (Cp.refl h) hH hru⟩
theorem ResB.rv {F : Nat → Prop} {w : World} {m : AM} {h : AH} (hH : RH F w m h) {xs ys : List AT} (hr : ResB h xs ys) {v : Value} (hv : RV F w m h (mkV xs) v) : RV (OwnF F m h) w [] [] (mkV ys) v := by
  obtain ⟨hl, hat⟩ := hr.at_
  have many : (∀ x, xs ≠ [x]) → RV F w m h (.tup xs) v → RV (OwnF F m h) w [] [] (.tup ys) v := fun _ hv => by
    obtain ⟨vs, g1, g2, g3⟩ := hv
    refine ⟨vs, g1, by rw [g2, hl], fun j y hj => ?_⟩
    have hjl : j < xs.length := by rw [← hl]; exact (List.getElem?_eq_some_iff.1 hj).1
    have hxj := List.getElem?_eq_getElem hjl
    obtain ⟨u, hu, hru⟩ := g3 j _ hxj
    exact ⟨u, hu, ResB.rt hH (hat j _ y hxj hj) hru⟩
  match xs, ys, hl, hr, hat with
  | [], [], _, _, _ => exact many (fun x hx => by cases hx) hv
  | [x], [y], _, _, hat => exact ResB.rt hH (hat 0 x y rfl rfl) hv
  | x :: x' :: xs, y :: y' :: ys, _, _, _ => exact many (fun x hx => by cases hx) hv
/-- What is to be shown where the function ends: its results, the heap named anew, fit the post. -/
def retQ (P : Program) (n0 : Nat) (rs : List ResultVar) (Post : AV → AH → Prop) : Exit → (Nat → AV) → AH → Prop
  | .normal, T, h => rsL P T h rs fun xs => (∃ res' h' ρ, Wk n0 (fun _ => mkV xs) h [(0, res')] h' ρ ∧ Post res' h') ∨ (n0 = 0 ∧ ∃ ys, ResB h xs ys ∧ Post (mkV ys) [])
  | .ret, T, h => rsL P T h rs fun xs => (∃ res' h' ρ, Wk n0 (fun _ => mkV xs) h [(0, res')] h' ρ ∧ Post res' h') ∨ (n0 = 0 ∧ ∃ ys, ResB h xs ys ∧ Post (mkV ys) [])
  | _, _, _ => False
def T0 (args : List AT) : Nat → AV := fun d => match args[d]? with | some x => .t x | none => .t (.c (.imm undef))
section
variable {P : Program} {F : Nat → Prop} {w : World} {m : AM} {h : AH} {T : Nat → AV} {a : Act}
def resF (tmps : Array Value) (r : ResultVar) : Sem Value := match r with
  | .tmp t => pure (tmps.getD t undef)
  | .cell a t => do loadVar t (← asAddr (tmps.getD a undef))
theorem rsA_sound (hT : RTm F w m h T a) (hH : RH F w m h) {r : ResultVar} {K : AT → Prop} (hr : rsA P T h r K) : ∃ x v, K x ∧ (resF a.tmps r).run P w = .ok v w ∧ RT F w m h x v := by
  unfold rsA at hr
  split at hr
  · rename_i t
    split at hr
    · rename_i x hx
      have := hT t
      rw [hx] at this
      exact ⟨x, _, hr, rfl, this⟩
    · exact hr.elim
  · rename_i p t
    split at hr
    · rename_i r i off q hp hq
      split at hr
      · rename_i ab hh
        obtain ⟨y, hy, hl⟩ := hr
        have hv := hT p
        rw [hp] at hv
        rcases hv with hg | ⟨ab', b, cap, h1, h2, h3⟩
        · rw [hh] at hg; cases hg
        · obtain ⟨rfl, _, hB⟩ := hH.get hh h1 h2
          obtain ⟨res, v, hK, hrun, hv⟩ := load_part (P := P) (m := m) (h := h) hq (b := b) (o := i * ab'.k) (hB.cell hy) hl
          cases res with
          | t x => exact ⟨x, v, hK, by simp only [resF, h3, asAddr, Sem.run_bind, Sem.run_pure, Result.andThen_ok]; exact hrun, hv⟩
          | tup xs => exact hK.elim
      · exact hr.elim
    · exact hr.elim
theorem rsL_sound (hT : RTm F w m h T a) (hH : RH F w m h) : ∀ (rs : List ResultVar) (K : List AT → Prop), rsL P T h rs K → ∃ xs vs, K xs ∧ (rs.mapM (resF a.tmps)).run P w = .ok vs w ∧ vs.length = xs.length ∧ ∀ (j : Nat) (x : AT), xs[j]? = some x → ∃ u, vs[j]? = some u ∧ RT F w m h x u
  | [], K, hr => ⟨[], [], hr, rfl, rfl, fun j x hj => by simp at hj⟩
  | r :: rs, K, hr => by
    unfold rsL at hr
    obtain ⟨x, v, hK, h1, h2⟩ := rsA_sound hT hH hr
    obtain ⟨xs, vs, hK2, h3, h4, h5⟩ := rsL_sound hT hH rs _ hK
    refine ⟨x :: xs, v :: vs, hK2, by simp [List.mapM_cons, h1, h3], by simp [h4], fun j y hj => ?_⟩
    cases j with
    | zero => simp at hj; subst hj; exact ⟨v, rfl, h2⟩
    | succ j => exact h5 j y (by simpa using hj)
theorem results_sound (hT : RTm F w m h T a) (hH : RH F w m h) {fn : Func} {K : List AT → Prop} (hr : rsL P T h fn.results.toList K) : ∃ xs v, K xs ∧ (results fn a.tmps).run P w = .ok v w ∧ RV F w m h (mkV xs) v := by
  obtain ⟨xs, vs, hK, h1, h2, h3⟩ := rsL_sound hT hH _ _ hr
  have e : results fn a.tmps = (do let vs ← fn.results.mapM (resF a.tmps); pure (if h : vs.size = 1 then vs[0] else .tuple vs)) := rfl
  rw [e, Array.mapM_eq_mapM_toList]
  simp only [Sem.run_bind, Sem.run_map, h1, Result.andThen_ok, Sem.run_pure]
  refine ⟨xs, _, hK, rfl, ?_⟩
  clear h1 hK hr
  match xs, vs, h2, h3 with
  | [x], [v], _, h3 =>
    obtain ⟨u, hu, hr⟩ := h3 0 x rfl
    simp at hu
    subst hu
    exact hr
  | [], [], _, _ => exact ⟨[], rfl, rfl, fun j x hj => by simp at hj⟩
  | x :: y :: xs, u :: v :: vs, hl, h3 =>
    have : ¬ (u :: v :: vs).toArray.size = 1 := by simp
    rw [dif_neg this]
    exact ⟨_, rfl, hl, h3⟩
end
/-- A contract, from what is shown of the function's code. -/
theorem con_of_vc {P : Program} {f : FuncId} {fn : Func} {c : Code} {h : AH} {args : List AT} {Post : AV → AH → Prop} (hf : P.funcs[f]? = some fn) (hb : fn.body = some c) (hnm : (fn.name == "runtime.NumGoroutine") = false) (hn : args.length ≤ fn.ntmps)
    (hv : VC P h.length fn.ntmps c (retQ P h.length fn.results.toList Post) (T0 args) h) : Con P f h args Post := by
  refine ⟨by unfold callOk; rw [hf]; simp [hnm, hb], fun F w m vs hH hl ha => ?_⟩
  refine calls_of_wp hf hb ?_
  have hsz : vs.toArray.size = args.length := by simpa using hl
  have hrel : Rel F w m h fn.ntmps (T0 args) h { tmps := vs.toArray ++ Array.replicate (fn.ntmps - vs.toArray.size) undef, defers := [] } w m := by
    refine ⟨fun d => ?_, Step.refl hH, rfl, by simp [hl]; omega⟩
    unfold T0
    cases hd : args[d]? with
    | some x =>
      obtain ⟨v, hv, hr⟩ := ha d x hd
      have hdl : d < vs.length := (List.getElem?_eq_some_iff.1 hv).1
      have : (vs.toArray ++ Array.replicate (fn.ntmps - vs.toArray.size) undef).getD d undef = v := by
        rw [Array.getD_eq_getD_getElem?, Array.getElem?_append_left (by simpa using hdl)]
        simp [hv]
      rw [this]
      exact hr
    | none =>
      have hge : vs.length ≤ d := by rw [hl]; exact List.getElem?_eq_none_iff.1 hd
      have : (vs.toArray ++ Array.replicate (fn.ntmps - vs.toArray.size) undef).getD d undef = undef := by
        rw [Array.getD_eq_getD_getElem?, Array.getElem?_append_right (by simpa using hge), Array.getElem?_replicate]
        split <;> rfl
      rw [this]
      rfl
  refine Code.wp_mono (fun e a' w' ⟨T', h', m', F1, hq, hG, r⟩ => ?_) (hv F w m h _ w m rfl hrel)
  have key : rsL P T' h' fn.results.toList (fun xs => (∃ res' h'' ρ, Wk h.length (fun _ => mkV xs) h' [(0, res')] h'' ρ ∧ Post res' h'') ∨ (h.length = 0 ∧ ∃ ys, ResB h' xs ys ∧ Post (mkV ys) [])) → a'.defers = [] ∧ ∃ v, (results fn a'.tmps).run P w' = .ok v w' ∧ ∃ v_1 res h' m' F', Ending.returned v = .returned v_1 ∧ Post res h' ∧ Grow F F' w m h ∧ Step F' w m h w' m' h' ∧ RV F' w' m' h' res v_1 := by
    intro hq
    obtain ⟨xs, v, hend, hr, hvv⟩ := results_sound r.tm r.st.hp hq
    rcases hend with ⟨res', h'', ρ, hw, hp⟩ | ⟨h0, ys, hres, hp⟩
    · obtain ⟨h1, h2, h3, h4, h5⟩ := hw
      refine ⟨r.df, v, hr, v, res', h'', _, F1, rfl, hp, hG, r.st.rn rfl h1 h2 h3 h4, RV.rn r.st.hp h4 hvv ?_⟩
      unfold rnK at h5
      exact h5.1
    · have hh : h = [] := List.eq_nil_of_length_eq_zero h0
      subst hh
      have hold : ∀ b, OwnF F1 m' h' b → b < w'.heap.size := fun b hb => by
        rcases hb with hb | ⟨r0, ab, c, g1, g2⟩
        · exact r.st.hp.old b hb
        · exact (r.st.hp.lt g1 g2).2
      refine ⟨r.df, v, hr, v, mkV ys, [], [], OwnF F1 m' h', rfl, hp, ⟨fun b hb => .inl (hG.1 b hb), fun b hb => ?_⟩, ⟨RH.empty hold, fun r0 => ⟨fun hx => by simp at hx, fun ab hx => by simp at hx⟩, r.st.os, r.st.tape, r.st.output, r.st.size, r.st.blk, fun r0 ab b c hx => by simp at hx⟩, ResB.rv r.st.hp hres hvv⟩
      rcases hb with hb | ⟨r0, ab, c, g1, g2⟩
      · exact hG.2 b hb
      · rcases r.st.own r0 ab b c g1 g2 with ⟨r1, ab1, c1, g3, _⟩ | g3
        · simp at g3
        · exact .inr (.inl g3)
  cases e with
  | normal => exact key hq
  | ret => exact key hq
  | exit id => exact hq.elim
  | goto l => exact hq.elim
  | panic c => exact hq.elim
  | outgrown => exact hq.elim
end Go.Proofs.YtgcofllgbdcicaaGreat.Am
