/- A part of AM, a framework of the prover own: functions of any program as maps of data. -/
import Derived.Test.YtgcofllgbdcicaaGreatAmZ
namespace Go.Proofs.YtgcofllgbdcicaaGreat.Am
open Go.RowKit
set_option linter.unusedVariables false
set_option linter.unusedSimpArgs false

/-! ### Contracts by the evaluator -/
def resG (tab : List (TypeId × TI)) (T : Nat → AV) (h : EH) : List ResultVar → (List AT → Prop) → Prop
  | [], K => K []
  | .tmp t :: rs, K => match T t with | .t x => resG tab T h rs (fun xs => K (x :: xs)) | _ => False
  | .cell a t :: rs, K => match ti tab t with
    | some i => match T a with
      | .t (.c (.ptr r e off)) => match nth h r with
        | some (.bx _ _ x) => (match e with | 0 => ldG i.agg x off (fun v => match v with | .t y => resG tab T h rs (fun xs => K (y :: xs)) | _ => False) | _ => False)
        | _ => False
      | _ => False
    | none => False
def finG (tab : List (TypeId × TI)) (rs : List ResultVar) (F : List AT → EH → Prop) : Exit → List (Nat × AV) → EH → Prop
  | .normal, l, h => resG tab (lkT l) h rs (fun xs => F xs h)
  | .ret, l, h => resG tab (lkT l) h rs (fun xs => F xs h)
  | _, _, _ => False
def FinP (n0 : Nat) (Post : AV → AH → Prop) (xs : List AT) (eh : EH) : Prop := (∃ res' h' ρ, Wk n0 (fun _ => mkV xs) (toH eh) [(0, res')] h' ρ ∧ Post res' h') ∨ (n0 = 0 ∧ ∃ ys, ResB (toH eh) xs ys ∧ Post (mkV ys) [])
def argL : List AT → Nat → List (Nat × AV)
  | [], _ => []
  | x :: xs, i => (i, .t x) :: argL xs i.succ
def body (f : Func) : Code := f.body.getD .skip
def plainT : AT → Bool
  | .c c => plain c
  | .agg xs => xs.all plain
def plainV : AV → Bool
  | .t x => plainT x
  | .tup xs => xs.all plainT
/-- No mark of the own heap in it: data. -/
def dat : AC → Bool
  | .imm _ => true
  | .view _ => true
  | _ => false
def datA : List AT → Bool
  | [] => true
  | x :: xs => x.cells.all dat && datA xs
section
variable {P : Program} {tab : List (TypeId × TI)} {n0 N : Nat} {T : Nat → AV} {h : EH} {n : Nat}
theorem resG_sound (hf : Fits P tab) : ∀ (rs : List ResultVar) (K : List AT → Prop), resG tab T h rs K → rsL P T (toH h) rs K
  | [], K, hp => hp
  | .tmp t :: rs, K, hp => by
    simp only [resG] at hp
    simp only [rsL, rsA]
    split at hp
    · rename_i x hx; rw [hx]; exact resG_sound hf rs _ hp
    · exact hp.elim
  | .cell a t :: rs, K, hp => by
    simp only [resG] at hp
    simp only [rsL, rsA]
    split at hp
    · rename_i i hi
      rw [(info_inv (hf.info hi)).1]
      split at hp
      · rename_i r e off hx
        rw [hx]
        simp only
        split at hp
        · rename_i t' k x hr
          rw [nth_bx hr]
          split at hp
          · exact ⟨x, rfl, ldG_sound hp fun v hv => by
              split at hv
              · exact resG_sound hf rs _ hv
              · exact hv.elim⟩
          · exact hp.elim
        · exact hp.elim
      · exact hp.elim
    · exact hp.elim
theorem lk_argL : ∀ (args : List AT) (i d : Nat), lkT (argL args i) d = .t (.c .dead) ∨ ∃ x, args[d - i]? = some x ∧ i ≤ d ∧ lkT (argL args i) d = .t x
  | [], i, d => .inl rfl
  | x :: xs, i, d => by
    simp only [argL, lkT]
    by_cases hd : d = i
    · subst hd; rw [if_pos rfl]; exact .inr ⟨x, by simp, Nat.le_refl _, rfl⟩
    · rw [if_neg hd]
      rcases lk_argL xs i.succ d with h1 | ⟨y, h1, h2, h3⟩
      · exact .inl h1
      · refine .inr ⟨y, ?_, by omega, h3⟩
        rw [show d - i = (d - i.succ) + 1 by omega]
        simpa using h1
theorem vc_forget {c : Code} {Q : Exit → (Nat → AV) → AH → Prop} {T T' : Nat → AV} {h : AH} (hT : ∀ d, T' d = .t (.c .dead) ∨ T' d = T d) (hv : VC P n0 N c Q T' h) : VC P n0 N c Q T h := fun F w0 m0 h0 a w m hn r =>
  hv F w0 m0 h0 a w m hn ⟨fun d => by
    rcases hT d with h1 | h1
    · rw [h1]; trivial
    · rw [h1]; exact r.tm d, r.st, r.df, r.sz⟩
theorem con_run {f : FuncId} {fn : Func} {c : Code} {args : List AT} {Post : AV → AH → Prop} (hfit : Fits P tab) (hf : P.funcs[f]? = some fn) (hb : fn.body = some c) (hnm : (fn.name == "runtime.NumGoroutine") = false) (hn : args.length ≤ fn.ntmps)
    (hok : codeOk fn.ntmps c = true) (hv : ∀ (g : Gd) (F : List AT → EH → Prop), g = G0 P (toH h).length fn.ntmps → F = FinP (toH h).length Post → runC g tab c (finG tab fn.results.toList F) (argL args 0) h) : Con P f (toH h) args Post := by
  refine con_of_vc hf hb hnm hn (vc_forget (T' := lkT (argL args 0)) (fun d => ?_) (vc_mono (fun e T h hq => ?_) (runC_sound hfit c _ _ h hok (hv _ _ rfl rfl))))
  · rcases lk_argL args 0 d with h1 | ⟨x, h1, h2, h3⟩
    · exact .inl h1
    · refine .inr ?_
      rw [h3]
      simp only [Nat.sub_zero] at h1
      simp only [T0, h1]
  · obtain ⟨l, eh, rfl, rfl, hq⟩ := hq
    cases e <;> first
      | exact hq.elim
      | exact resG_sound hfit _ _ hq
theorem pcon_run {f : FuncId} {fn : Func} {c : Code} {args : List AT} {Post : AV → List AB → Prop} (hfit : Fits P tab) (hf : P.funcs[f]? = some fn) (hb : fn.body = some c) (hnm : (fn.name == "runtime.NumGoroutine") = false) (hn : Nat.ble args.length fn.ntmps = true)
    (hok : codeOk fn.ntmps c = true) (hv : ∀ (g : Gd) (F : List AT → EH → Prop), g = G0 P 0 fn.ntmps → F = FinP 0 (fun res h' => ∃ rows, h' = rows.map .live ∧ Post res rows) → runC g tab c (finG tab fn.results.toList F) (argL args 0) []) : PCon P f args Post :=
  con_run (h := []) hfit hf hb hnm (bl hn) hok hv
theorem rnC_plain {ρ : List (Option Nat)} {h' : AH} {c : AC} (hp : plain c = true) : rnC ρ h' c c := by
  cases c <;> first | rfl | trivial | cases hp
theorem rnT_plain {ρ : List (Option Nat)} {h' : AH} {x : AT} (hp : plainT x = true) : rnT ρ h' x x := by
  cases x with
  | c c => unfold rnT; exact rnC_plain hp
  | agg xs => exact .inl ⟨rfl, hp⟩
theorem rnTs_plain {ρ : List (Option Nat)} {h' : AH} : ∀ {xs : List AT}, xs.all plainT = true → rnTs ρ h' xs xs
  | [], _ => trivial
  | x :: xs, hp => by
    simp only [List.all_cons, Bool.and_eq_true] at hp
    exact ⟨rnT_plain hp.1, rnTs_plain hp.2⟩
theorem rnV_plain {ρ : List (Option Nat)} {h' : AH} {x : AV} (hp : plainV x = true) : rnV ρ h' x x := by
  cases x with
  | t x =>
    cases x with
    | c c => cases c <;> first | trivial | exact rnT_plain hp
    | agg xs => exact rnT_plain (x := .agg xs) hp
  | tup xs => exact rnTs_plain hp
/-- The end of a function that returns plain values and leaves no memory. -/
theorem fin0 {F : List AT → EH → Prop} {Post : AV → List AB → Prop} {xs : List AT} {eh : EH} (hF : F = FinP 0 (fun res h' => ∃ rows, h' = rows.map .live ∧ Post res rows)) (hp : plainV (mkV xs) = true) (hpost : Post (mkV xs) []) : F xs eh := by
  subst hF
  exact .inl ⟨mkV xs, [], [], ⟨Nat.le_refl _, fun i hi => absurd hi (Nat.not_lt_zero _), List.nodup_nil, trivial, rnV_plain hp, trivial⟩, [], rfl, hpost⟩
/-- The end of a function whose own rows nobody writes any more: its value read as data. -/
theorem finFrz {F : List AT → EH → Prop} {Post : AV → List AB → Prop} {xs : List AT} {eh : EH} (ys : List AT) (hF : F = FinP 0 (fun res h' => ∃ rows, h' = rows.map .live ∧ Post res rows)) (hr : ResB (toH eh) xs ys) (hpost : Post (mkV ys) []) : F xs eh := by
  subst hF
  exact .inr ⟨rfl, ys, hr, [], rfl, hpost⟩
/-- The end of a function that returns one new row. -/
theorem fin1 {F : List AT → EH → Prop} {Post : AV → List AB → Prop} {r : Nat} {eh : EH} (ab : AB) (hF : F = FinP 0 (fun res h' => ∃ rows, h' = rows.map .live ∧ Post res rows)) (hr : nth eh r = some (.rw ab)) (hp : (ab.es.all fun x => x.all plain) = true)
    (hpost : Post (.t (.c (.own 0))) [ab]) : F [.c (.own r)] eh := by
  subst hF
  refine .inl ⟨.t (.c (.own 0)), [.live ab], [some r], ⟨Nat.zero_le _, fun i hi => absurd hi (Nat.not_lt_zero _), by simp, ?_, ?_⟩, [ab], rfl, hpost⟩
  · simp only [rnH, List.getElem?_cons_zero, nth_rw hr]
    exact ⟨fun h => absurd h (Nat.not_lt_zero _), ⟨by first | trivial | rfl, by first | trivial | rfl, .inl ⟨by first | trivial | rfl, hp⟩⟩, trivial⟩
  · refine ⟨?_, trivial⟩
    show rnC [some r] [.live ab] (.own 0) (.own r)
    rfl
theorem plain_shift {c : AC} (hp : plain c = true) (n : Nat) : c.shift n = c := by cases c <;> first | rfl | cases hp
theorem plain_shiftL {n : Nat} : ∀ {xs : List AC}, xs.all plain = true → xs.map (AC.shift n) = xs
  | [], _ => rfl
  | x :: xs, hp => by
    simp only [List.all_cons, Bool.and_eq_true] at hp
    simp [plain_shift hp.1, plain_shiftL hp.2]
theorem plain_shiftE {n : Nat} : ∀ {es : List (List AC)}, (es.all fun x => x.all plain) = true → es.map (fun x => x.map (AC.shift n)) = es
  | [], _ => rfl
  | x :: xs, hp => by
    simp only [List.all_cons, Bool.and_eq_true] at hp
    simp only [List.map_cons, plain_shiftL hp.1, plain_shiftE hp.2]
theorem plain_shiftT {x : AT} (hp : plainT x = true) (n : Nat) : x.shift n = x := by
  cases x with
  | c c => exact congrArg AT.c (plain_shift hp n)
  | agg xs => exact congrArg AT.agg (plain_shiftL hp)
theorem plain_shiftV {x : AV} (hp : plainV x = true) (n : Nat) : x.shift n = x := by
  cases x with
  | t x => exact congrArg AV.t (plain_shiftT hp n)
  | tup xs =>
    refine congrArg AV.tup ?_
    have : ∀ (xs : List AT), xs.all plainT = true → xs.map (AT.shift n) = xs := fun xs => by
      induction xs with
      | nil => intro _; rfl
      | cons x xs ih =>
        intro hp
        simp only [List.all_cons, Bool.and_eq_true] at hp
        simp only [List.map_cons, plain_shiftT hp.1, ih hp.2]
    exact this xs hp
theorem datA_all : ∀ {args : List AT}, datA args = true → (args.all fun x => x.cells.all fun c => match c with | .imm _ | .view _ => true | _ => false) = true
  | [], _ => rfl
  | x :: xs, hp => by
    simp only [datA, Bool.and_eq_true] at hp
    simp only [List.all_cons, Bool.and_eq_true]
    refine ⟨?_, datA_all hp.2⟩
    rw [List.all_eq_true]
    intro c hc
    have := List.all_eq_true.1 hp.1 c hc
    cases c <;> first | rfl | cases this
theorem con_of_pcall {f : FuncId} {h : AH} {args : List AT} {K : AV → AH → Prop} (hp : pcall P f h h.length args (fun res rows => K res (h ++ rows.map .live))) : Con P f h args K := by
  obtain ⟨args', Post, hcon, hp⟩ := hp
  refine ⟨hcon.1, fun F w m vs hH hl hx => ?_⟩
  rcases hp with ⟨rfl, hpure, hK⟩ | ⟨hlen, hres, hK⟩
  · have := hcon.2 F w [] vs (RH.empty hH.old) hl (fun j x hj => by
      obtain ⟨v, hv, hr⟩ := hx j x hj
      exact ⟨v, hv, RT.pure (List.all_eq_true.1 hpure x (List.mem_of_getElem? hj)) hr⟩)
    refine this.mono fun e w'' ⟨v, res, h', m', F1, he, ⟨rows, hh, hpost⟩, hG, hs, hv⟩ => ?_
    subst hh
    obtain ⟨m'', F2, hG2, h1, h2⟩ := Step.of_outG hH (out_of_callG (n := h.length) hG hs hv)
    exact ⟨v, _, _, m'', F2, he, hK res rows hpost, hG2, h1, h2⟩
  · have hF : ∀ b, OwnF F m h b → b < w.heap.size := fun b hb => by
      rcases hb with hb | ⟨r, ab, c, h1, h2⟩
      · exact hH.old b hb
      · exact (hH.lt h1 h2).2
    have := hcon.2 (OwnF F m h) w [] vs (RH.empty hF) (by rw [hl, hlen]) (fun j y hj => by
      have hjl : j < args.length := by rw [← hlen]; exact (List.getElem?_eq_some_iff.1 hj).1
      have hxx := List.getElem?_eq_getElem hjl
      obtain ⟨v, hv, hr⟩ := hx j _ hxx
      refine ⟨v, hv, ?_⟩
      rcases hres j _ y hxx hj with ⟨c0, d0, h1, rfl, h2⟩ | ⟨xs, ys, h1, rfl, h2, h3⟩
      · rw [h1] at hr; exact h2.rc (Cp.refl h) hH hr
      · rw [h1] at hr
        obtain ⟨vs, g1, g2, g3⟩ := hr
        refine ⟨vs, g1, by rw [g2, h2], fun i d hi => ?_⟩
        have hil : i < xs.length := by rw [h2]; exact (List.getElem?_eq_some_iff.1 hi).1
        have hxi := List.getElem?_eq_getElem hil
        obtain ⟨u, hu, ho', hru⟩ := g3 i _ hxi
        exact ⟨u, hu, ho', (h3 i _ d hxi hi).rc (Cp.refl h) hH hru⟩)
    refine this.mono fun e w'' ⟨v, res, h', m', F1, he, ⟨rows, hh, hpost⟩, hG, hs, hv⟩ => ?_
    subst hh
    obtain ⟨hf1, hf2, hK⟩ := hK res rows hpost
    obtain ⟨m'', F2, hG2, h1, h2⟩ := Step.of_outG hH (outG_of (out_of_call (n := h.length) hs hv (.inr ⟨hf1, hf2⟩)) hH)
    exact ⟨v, _, _, m'', F2, he, hK, hG2, h1, h2⟩
theorem pcall_pure {f : FuncId} {h : AH} {args : List AT} {Post : AV → List AB → Prop} {K : AV → List AB → Prop} (hc : PCon P f args Post) (hp : datA args = true) (hK : ∀ res rows, Post res rows → K (res.shift n) (rows.map (AB.shift n))) : pcall P f h n args K :=
  ⟨args, Post, hc, .inl ⟨rfl, datA_all hp, hK⟩⟩
/-- Calls in the evaluator. -/
theorem callC {g : Gd} (hg : g = G0 P n0 N) {f : FuncId} {args : List AT} {K : AV → EH → Prop} (hp : pcall P f (toH h) (toH h).length args (fun res rows => ∃ es : EH, toH es = rows.map .live ∧ K res (h ++ es))) : g .C f h args K := by
  subst hg
  refine con_of_pcall ?_
  obtain ⟨args', Post, hcon, hp⟩ := hp
  refine ⟨args', Post, hcon, ?_⟩
  have key : ∀ (res : AV) (rows : List AB), (∃ es : EH, toH es = rows.map .live ∧ K res (h ++ es)) → ∃ eh, toH eh = toH h ++ rows.map .live ∧ K res eh := fun res rows ⟨es, h1, h2⟩ => ⟨h ++ es, by rw [toH_app, h1], h2⟩
  rcases hp with ⟨h1, h2, h3⟩ | ⟨h1, h2, h3⟩
  · exact .inl ⟨h1, h2, fun res rows hp => key _ _ (h3 res rows hp)⟩
  · exact .inr ⟨h1, h2, fun res rows hp => let ⟨a, b, c⟩ := h3 res rows hp; ⟨a, b, key _ _ c⟩⟩
/-- A call whose value is plain. -/
theorem call0 {g : Gd} (hg : g = G0 P n0 N) {f : FuncId} {args : List AT} {K : AV → EH → Prop} {r : AV} (hc : PCon P f args fun res rows => res = r ∧ rows = []) (hp : datA args = true) (hr : plainV r = true) (hK : K r (h ++ [])) : g .C f h args K :=
  callC hg (pcall_pure hc hp fun res rows hpost => by
    obtain ⟨rfl, rfl⟩ := hpost
    exact ⟨[], rfl, by rw [plain_shiftV hr]; exact hK⟩)
theorem call0P {g : Gd} (hg : g = G0 P n0 N) {f : FuncId} {args : List AT} {K : AV → EH → Prop} {r : AV} (hc : PCon P f args fun res rows => res = r ∧ rows = []) (hp : datA args = true) (hr : plainV r = true) (hK : K r []) : g .PC f h n args K := by
  subst hg
  refine ⟨r, [], pcall_pure hc hp fun res rows hpost => ?_, [], rfl, hK⟩
  obtain ⟨rfl, rfl⟩ := hpost
  exact ⟨plain_shiftV hr _, rfl⟩
/-- A call that returns one new row. -/
theorem call1 {g : Gd} (hg : g = G0 P n0 N) {f : FuncId} {args : List AT} {K : AV → EH → Prop} {R : AB → Prop} (hc : PCon P f args fun res rows => ∃ ab, res = .t (.c (.own 0)) ∧ rows = [ab] ∧ (ab.es.all fun x => x.all plain) = true ∧ R ab) (hp : datA args = true)
    (hK : ∀ ab, R ab → K (.t (.c (.own (toH h).length))) (h ++ [.rw ab])) : g .C f h args K :=
  callC hg (pcall_pure hc hp fun res rows hpost => by
    obtain ⟨ab, rfl, rfl, h1, h2⟩ := hpost
    refine ⟨[.rw ab], ?_, hK ab h2⟩
    have : AB.shift (toH h).length ab = ab := by
      obtain ⟨t, k, es⟩ := ab
      exact congrArg (AB.mk t k) (plain_shiftE h1)
    simp only [List.map_cons, List.map_nil, this]
    rfl)
theorem call1P {g : Gd} (hg : g = G0 P n0 N) {f : FuncId} {args : List AT} {K : AV → EH → Prop} {ab : AB} (hc : PCon P f args fun res rows => res = .t (.c (.own 0)) ∧ rows = [ab]) (h1 : (ab.es.all fun x => x.all plain) = true) (hp : datA args = true)
    (hK : K (.t (.c (.own n))) [.rw ab]) : g .PC f h n args K := by
  subst hg
  have hs : AB.shift n ab = ab := by
    obtain ⟨t, k, es⟩ := ab
    exact congrArg (AB.mk t k) (plain_shiftE h1)
  refine ⟨.t (.c (.own n)), [ab], pcall_pure hc hp fun res rows hpost => ?_, [.rw ab], rfl, hK⟩
  obtain ⟨rfl, rfl⟩ := hpost
  exact ⟨rfl, by simp [hs]⟩
/-- A loop: its state by a datum s of one's own choosing. -/
theorem loop_run {g : Gd} (hg : g = G0 P n0 N) (hfit : Fits P tab) {S : Type} {c : Code} {Q : Exit → List (Nat × AV) → EH → Prop} {l : List (Nat × AV)} (hok : codeOk N c = true) (Tf : S → List (Nat × AV)) (hf : S → EH) (ok : S → Prop) (μ : S → Nat) (s0 : S) (ρ0 : List (Option Nat)) (h0 : ok s0)
    (hw : Wk n0 (lkT l) (toH h) (Tf s0) (toH (hf s0)) ρ0)
    (hb : ∀ (s : S) (B : List (Nat × AV) → EH → Prop), ok s → B = (fun l' h' => ∃ s' ρ, ok s' ∧ μ s' < μ s ∧ Wk n0 (lkT l') (toH h') (Tf s') (toH (hf s')) ρ) → runC g tab c (fun e l h => match e with | .normal => B l h | e => Q e l h) (Tf s) (hf s)) : g .L c Q l h := by
  subst hg
  refine vc_loop Tf (fun s => toH (hf s)) ok μ s0 ρ0 h0 hw (fun s hs => vc_mono (fun e T h hq => ?_) (runC_sound hfit c _ _ _ hok (hb s _ hs rfl)))
  obtain ⟨l', eh, rfl, rfl, hq⟩ := hq
  cases e <;> first
    | exact ⟨l', eh, rfl, rfl, hq⟩
    | exact hq
end
end Go.Proofs.YtgcofllgbdcicaaGreat.Am
