/- A part of AM, a framework of the prover own: functions of any program as maps of data. -/
import Derived.Test.YtenbloaopcfdlaaGreatIad
namespace Go.Proofs.YtenbloaopcfdlaaGreat.Am
open Go.RowKit
set_option linter.unusedVariables false
set_option linter.unusedSimpArgs false
instance : BP := bp0
def resG (tab : List (TypeId × TI)) (T : Nat → AV) (h : EH) : List ResultVar → (List AT → Prop) → Prop
  | [], K => K []
  | .tmp t :: rs, K => match T t with | .t x => resG tab T h rs (fun xs => K (x :: xs)) | _ => False
  | .cell a t :: rs, K => match ti tab t with
    | some i => match T a with
      | .t (.c (.ptr r e off)) => match nth h r with
        | some (.bx _ _ x) => (match e with | 0 => ldG i.agg x off (fun v => match v with | .t y => resG tab T h rs (fun xs => K (y :: xs)) | _ => False) | _ => False)
        | _ => False
      | _ => False
    | none => False
def finG (tab : List (TypeId × TI)) (rs : List ResultVar) (F : List AT → EH → Prop) : Exit → List (Nat × AV) → EH → Prop
  | .normal, l, h => resG tab (lkT l) h rs (fun xs => F xs h)
  | .ret, l, h => resG tab (lkT l) h rs (fun xs => F xs h)
  | _, _, _ => False
def FinP (n0 : Nat) (Post : AV → AH → Prop) (xs : List AT) (eh : EH) : Prop := (∃ res' h' ρ, Wk n0 (fun _ => mkV xs) (toH eh) [(0, res')] h' ρ ∧ Post res' h') ∨ (n0 = 0 ∧ ∃ ys, ResB (toH eh) xs ys ∧ Post (mkV ys) [])
def argL : List AT → Nat → List (Nat × AV)
  | [], _ => []
  | x :: xs, i => (i, .t x) :: argL xs i.succ
def body (f : Func) : Code := f.body.getD .skip
def plainT : AT → Bool
  | .c c => plain c
  | .agg xs => xs.all plain
def plainV : AV → Bool
  | .t x => plainT x
  | .tup xs => xs.all plainT
def dat : AC → Bool
  | .imm _ => true
  | .view _ => true
  | _ => false
def datA : List AT → Bool
  | [] => true
  | x :: xs => x.cells.all dat && datA xs
def datP : AC → Bool
  | .imm _ => true
  | .view _ => true
  | .eptr _ _ => true
  | _ => false
def datPA : List AT → Bool
  | [] => true
  | x :: xs => x.cells.all datP && datPA xs
section
variable {P : Program} {tab : List (TypeId × TI)} {n0 N : Nat} {T : Nat → AV} {h : EH} {n : Nat}
theorem resG_sound (hf : Fits P tab) : ∀ (rs : List ResultVar) (K : List AT → Prop), resG tab T h rs K → rsL P T (toH h) rs K
  | [], K, hp => hp
  | .tmp t :: rs, K, hp => by
    simp only [resG] at hp
    simp only [rsL, rsA]
    split at hp
    · rename_i x hx; rw [hx]; exact resG_sound hf rs _ hp
    · exact hp.elim
  | .cell a t :: rs, K, hp => by
    simp only [resG] at hp
    simp only [rsL, rsA]
    split at hp
    · rename_i i hi
      rw [(info_inv (hf.info hi)).1]
      split at hp
      · rename_i r e off hx
        rw [hx]
        simp only
        split at hp
        · rename_i t' k x hr
          rw [nth_bx hr]
          split at hp
          · exact ⟨x, rfl, ldG_sound hp fun v hv => by
              split at hv
              · exact resG_sound hf rs _ hv
              · exact hv.elim⟩
          · exact hp.elim
        · exact hp.elim
      · exact hp.elim
    · exact hp.elim
theorem lk_argL : ∀ (args : List AT) (i d : Nat), lkT (argL args i) d = .t (.c .dead) ∨ ∃ x, args[d - i]? = some x ∧ i ≤ d ∧ lkT (argL args i) d = .t x
  | [], i, d => .inl rfl
  | x :: xs, i, d => by
    simp only [argL, lkT]
    by_cases hd : d = i
    · subst hd; rw [if_pos rfl]; exact .inr ⟨x, by simp, Nat.le_refl _, rfl⟩
    · rw [if_neg hd]
      rcases lk_argL xs i.succ d with h1 | ⟨y, h1, h2, h3⟩
      · exact .inl h1
      · refine .inr ⟨y, ?_, by omega, h3⟩
        rw [show d - i = (d - i.succ) + 1 by omega]
        simpa using h1
theorem vc_forget {β : BP} {c : Code} {Q : Exit → (Nat → AV) → AH → Prop} {T T' : Nat → AV} {h : AH} (hT : ∀ d, T' d = .t (.c .dead) ∨ T' d = T d) (hv : VC P n0 N c Q T' h) : VC P n0 N c Q T h := fun F w0 m0 h0 a w m hn r =>
  hv F w0 m0 h0 a w m hn ⟨fun d => by
    rcases hT d with h1 | h1
    · rw [h1]; trivial
    · rw [h1]; exact r.tm d, r.st, r.df, r.sz⟩
theorem con_run {β : BP} {f : FuncId} {fn : Func} {c : Code} {args : List AT} {Post : AV → AH → Prop} (hfit : Fits P tab) (hf : P.funcs[f]? = some fn) (hb : fn.body = some c) (hnm : (fn.name == "runtime.NumGoroutine") = false) (hn : args.length ≤ fn.ntmps)
    (hok : codeOk fn.ntmps c = true) (hv : ∀ (g : Gd) (F : List AT → EH → Prop), g = G0 P (toH h).length fn.ntmps → F = FinP (toH h).length Post → runC g tab c (finG tab fn.results.toList F) (argL args 0) h) (hex : ∀ b, ¬ BP.ex b := by exact fun _ h => h) : Con P f (toH h) args Post := by
  refine con_of_vc hex hf hb hnm hn (vc_forget (T' := lkT (argL args 0)) (fun d => ?_) (vc_mono (fun e T h hq => ?_) (runC_sound hfit c _ _ h hok (hv _ _ rfl rfl))))
  · rcases lk_argL args 0 d with h1 | ⟨x, h1, h2, h3⟩
    · exact .inl h1
    · refine .inr ?_
      rw [h3]
      simp only [Nat.sub_zero] at h1
      simp only [T0, h1]
  · obtain ⟨l, eh, rfl, rfl, hq⟩ := hq
    cases e <;> first
      | exact hq.elim
      | exact resG_sound hfit _ _ hq
theorem pcon_run {f : FuncId} {fn : Func} {c : Code} {args : List AT} {Post : AV → List AB → Prop} (hfit : Fits P tab) (hf : P.funcs[f]? = some fn) (hb : fn.body = some c) (hnm : (fn.name == "runtime.NumGoroutine") = false) (hn : Nat.ble args.length fn.ntmps = true)
    (hok : codeOk fn.ntmps c = true) (hv : ∀ (g : Gd) (F : List AT → EH → Prop), g = G0 P 0 fn.ntmps → F = FinP 0 (fun res h' => ∃ rows, h' = rows.map .live ∧ Post res rows) → runC g tab c (finG tab fn.results.toList F) (argL args 0) []) : PCon P f args Post :=
  con_run (h := []) hfit hf hb hnm (bl hn) hok hv
theorem rnC_plain {ρ : List (Option Nat)} {h' : AH} {c : AC} (hp : plain c = true) : rnC ρ h' c c := by
  cases c <;> first | rfl | trivial | cases hp
theorem rnT_plain {ρ : List (Option Nat)} {h' : AH} {x : AT} (hp : plainT x = true) : rnT ρ h' x x := by
  cases x with
  | c c => unfold rnT; exact rnC_plain hp
  | agg xs => exact .inl ⟨rfl, hp⟩
theorem rnTs_plain {ρ : List (Option Nat)} {h' : AH} : ∀ {xs : List AT}, xs.all plainT = true → rnTs ρ h' xs xs
  | [], _ => trivial
  | x :: xs, hp => by
    simp only [List.all_cons, Bool.and_eq_true] at hp
    exact ⟨rnT_plain hp.1, rnTs_plain hp.2⟩
theorem rnV_plain {ρ : List (Option Nat)} {h' : AH} {x : AV} (hp : plainV x = true) : rnV ρ h' x x := by
  cases x with
  | t x =>
    cases x with
    | c c => cases c <;> first | trivial | exact rnT_plain hp
    | agg xs => exact rnT_plain (x := .agg xs) hp
  | tup xs => exact rnTs_plain hp
theorem fin0 {F : List AT → EH → Prop} {Post : AV → List AB → Prop} {xs : List AT} {eh : EH} (hF : F = FinP 0 (fun res h' => ∃ rows, h' = rows.map .live ∧ Post res rows)) (hp : plainV (mkV xs) = true) (hpost : Post (mkV xs) []) : F xs eh := by
  subst hF
  exact .inl ⟨mkV xs, [], [], ⟨Nat.le_refl _, fun i hi => absurd hi (Nat.not_lt_zero _), List.nodup_nil, trivial, rnV_plain hp, trivial⟩, [], rfl, hpost⟩
theorem finFrz {F : List AT → EH → Prop} {Post : AV → List AB → Prop} {xs : List AT} {eh : EH} (ys : List AT) (hF : F = FinP 0 (fun res h' => ∃ rows, h' = rows.map .live ∧ Post res rows)) (hr : ResB (toH eh) xs ys) (hpost : Post (mkV ys) []) : F xs eh := by
  subst hF
  exact .inr ⟨rfl, ys, hr, [], rfl, hpost⟩
theorem fin1 {F : List AT → EH → Prop} {Post : AV → List AB → Prop} {r : Nat} {eh : EH} (ab : AB) (hF : F = FinP 0 (fun res h' => ∃ rows, h' = rows.map .live ∧ Post res rows)) (hr : nth eh r = some (.rw ab)) (hp : (ab.es.all fun x => x.all plain) = true)
    (hpost : Post (.t (.c (.own 0))) [ab]) : F [.c (.own r)] eh := by
  subst hF
  refine .inl ⟨.t (.c (.own 0)), [.live ab], [some r], ⟨Nat.zero_le _, fun i hi => absurd hi (Nat.not_lt_zero _), by simp, ?_, ?_⟩, [ab], rfl, hpost⟩
  · simp only [rnH, List.getElem?_cons_zero, nth_rw hr]
    exact ⟨fun h => absurd h (Nat.not_lt_zero _), ⟨by first | trivial | rfl, by first | trivial | rfl, .inl ⟨by first | trivial | rfl, hp⟩⟩, trivial⟩
  · refine ⟨?_, trivial⟩
    show rnC [some r] [.live ab] (.own 0) (.own r)
    rfl
theorem plain_shift {c : AC} (hp : plain c = true) (n : Nat) : c.shift n = c := by cases c <;> first | rfl | cases hp
theorem plain_shiftL {n : Nat} : ∀ {xs : List AC}, xs.all plain = true → xs.map (AC.shift n) = xs
  | [], _ => rfl
  | x :: xs, hp => by
    simp only [List.all_cons, Bool.and_eq_true] at hp
    simp [plain_shift hp.1, plain_shiftL hp.2]
theorem plain_shiftE {n : Nat} : ∀ {es : List (List AC)}, (es.all fun x => x.all plain) = true → es.map (fun x => x.map (AC.shift n)) = es
  | [], _ => rfl
  | x :: xs, hp => by
    simp only [List.all_cons, Bool.and_eq_true] at hp
    simp only [List.map_cons, plain_shiftL hp.1, plain_shiftE hp.2]
theorem plain_shiftT {x : AT} (hp : plainT x = true) (n : Nat) : x.shift n = x := by
  cases x with
  | c c => exact congrArg AT.c (plain_shift hp n)
  | agg xs => exact congrArg AT.agg (plain_shiftL hp)
theorem plain_shiftV {x : AV} (hp : plainV x = true) (n : Nat) : x.shift n = x := by
  cases x with
  | t x => exact congrArg AV.t (plain_shiftT hp n)
  | tup xs =>
    refine congrArg AV.tup ?_
    have : ∀ (xs : List AT), xs.all plainT = true → xs.map (AT.shift n) = xs := fun xs => by
      induction xs with
      | nil => intro _; rfl
      | cons x xs ih =>
        intro hp
        simp only [List.all_cons, Bool.and_eq_true] at hp
        simp only [List.map_cons, plain_shiftT hp.1, ih hp.2]
    exact this xs hp
theorem dwA_pure : ∀ {args : List AT}, datPA args = true → dwA args args
  | [], _ => trivial
  | .c c :: xs, hp => by
    simp only [datPA, AT.cells, List.all_cons, List.all_nil, Bool.and_true, Bool.and_eq_true] at hp
    exact ⟨dw_same (by cases c <;> first | rfl | cases hp.1), dwA_pure hp.2⟩
  | .agg a :: xs, hp => by
    simp only [datPA, Bool.and_eq_true] at hp
    exact ⟨dwL_same (List.all_eq_true.2 fun c hc => by have := List.all_eq_true.1 hp.1 c hc; cases c <;> first | rfl | cases this), dwA_pure hp.2⟩
theorem con_of_pcall {β : BP} {f : FuncId} {h : AH} {args : List AT} {K : AV → AH → Prop} (hp : pcall P f h h.length args (fun res rows => K res (h ++ rows.map .live))) : Con P f h args K := by
  obtain ⟨args', Post, hcon, hp⟩ := hp
  refine ⟨hcon.1, fun F w m vs hH hl hx => ?_⟩
  rcases hp with ⟨hdw, hK⟩ | ⟨hlen, hres, hK⟩
  · obtain ⟨d1, d2⟩ := hdw.at_
    have := hcon.2 F w [] vs (RH.empty hH.old (Nat.zero_le _)) (by rw [hl, d1]) (fun j y hj => by
      have hjl : j < args.length := by rw [d1]; exact (List.getElem?_eq_some_iff.1 hj).1
      obtain ⟨v, hv, hr⟩ := hx j _ (List.getElem?_eq_getElem hjl)
      exact ⟨v, hv, (d2 j _ y (List.getElem?_eq_getElem hjl) hj).rt hr⟩)
    refine this.mono fun e w'' ⟨v, res, h', m', F1, he, ⟨rows, hh, hpost⟩, hG, hs, hv⟩ => ?_
    subst hh
    obtain ⟨m'', F2, hG2, h1, h2⟩ := Step.of_outG hH (out_of_callG (n := h.length) hG hs hv)
    exact ⟨v, _, _, m'', F2, he, hK res rows hpost, hG2, h1, h2⟩
  · have hF : ∀ b, OwnF F m h b → b < w.heap.size := fun b hb => by
      rcases hb with hb | ⟨r, ab, c, h1, h2⟩
      · exact hH.old b hb
      · exact (hH.lt h1 h2).2
    have := hcon.2 (OwnF F m h) w [] vs (RH.empty hF (Nat.zero_le _)) (by rw [hl, hlen]) (fun j y hj => by
      have hjl : j < args.length := by rw [← hlen]; exact (List.getElem?_eq_some_iff.1 hj).1
      have hxx := List.getElem?_eq_getElem hjl
      obtain ⟨v, hv, hr⟩ := hx j _ hxx
      refine ⟨v, hv, ?_⟩
      rcases hres j _ y hxx hj with ⟨c0, d0, h1, rfl, h2⟩ | ⟨xs, ys, h1, rfl, h2, h3⟩
      · rw [h1] at hr; exact h2.rc (Cp.refl h) hH hr
      · rw [h1] at hr
        obtain ⟨vs, g1, g2, g3⟩ := hr
        refine ⟨vs, g1, by rw [g2, h2], fun i d hi => ?_⟩
        have hil : i < xs.length := by rw [h2]; exact (List.getElem?_eq_some_iff.1 hi).1
        have hxi := List.getElem?_eq_getElem hil
        obtain ⟨u, hu, ho', hru⟩ := g3 i _ hxi
        exact ⟨u, hu, ho', (h3 i _ d hxi hi).rc (Cp.refl h) hH hru⟩)
    refine this.mono fun e w'' ⟨v, res, h', m', F1, he, ⟨rows, hh, hpost⟩, hG, hs, hv⟩ => ?_
    subst hh
    obtain ⟨hf1, hf2, hK⟩ := hK res rows hpost
    obtain ⟨m'', F2, hG2, h1, h2⟩ := Step.of_outG hH (outG_of (out_of_call (n := h.length) hs hv (.inr ⟨hf1, hf2⟩)) hH)
    exact ⟨v, _, _, m'', F2, he, hK, hG2, h1, h2⟩
theorem pcall_pure {f : FuncId} {h : AH} {args : List AT} {Post : AV → List AB → Prop} {K : AV → List AB → Prop} (hc : PCon P f args Post) (hp : datPA args = true) (hK : ∀ res rows, Post res rows → K (res.shift n) (rows.map (AB.shift n))) : pcall P f h n args K :=
  ⟨args, Post, hc, .inl ⟨dwA_pure hp, hK⟩⟩
theorem callC {β : BP} {g : Gd} (hg : g = G0 P n0 N) {f : FuncId} {args : List AT} {K : AV → EH → Prop} (hp : pcall P f (toH h) (toH h).length args (fun res rows => ∃ es : EH, toH es = rows.map .live ∧ K res (h ++ es))) : g .C f h args K := by
  subst hg
  refine con_of_pcall ?_
  obtain ⟨args', Post, hcon, hp⟩ := hp
  refine ⟨args', Post, hcon, ?_⟩
  have key : ∀ (res : AV) (rows : List AB), (∃ es : EH, toH es = rows.map .live ∧ K res (h ++ es)) → ∃ eh, toH eh = toH h ++ rows.map .live ∧ K res eh := fun res rows ⟨es, h1, h2⟩ => ⟨h ++ es, by rw [toH_app, h1], h2⟩
  rcases hp with ⟨h1, h3⟩ | ⟨h1, h2, h3⟩
  · exact .inl ⟨h1, fun res rows hp => key _ _ (h3 res rows hp)⟩
  · exact .inr ⟨h1, h2, fun res rows hp => let ⟨a, b, c⟩ := h3 res rows hp; ⟨a, b, key _ _ c⟩⟩
theorem call0 {β : BP} {g : Gd} (hg : g = G0 P n0 N) {f : FuncId} {args : List AT} {K : AV → EH → Prop} {r : AV} (hc : PCon P f args fun res rows => res = r ∧ rows = []) (hp : datPA args = true) (hr : plainV r = true) (hK : K r (h ++ [])) : g .C f h args K :=
  callC hg (pcall_pure hc hp fun res rows hpost => by
    obtain ⟨rfl, rfl⟩ := hpost
    exact ⟨[], rfl, by rw [plain_shiftV hr]; exact hK⟩)
theorem call0P {β : BP} {g : Gd} (hg : g = G0 P n0 N) {f : FuncId} {args : List AT} {K : AV → EH → Prop} {r : AV} (hc : PCon P f args fun res rows => res = r ∧ rows = []) (hp : datPA args = true) (hr : plainV r = true) (hK : K r []) : g .PC f h n args K := by
  subst hg
  refine ⟨r, [], pcall_pure hc hp fun res rows hpost => ?_, [], rfl, hK⟩
  obtain ⟨rfl, rfl⟩ := hpost
  exact ⟨plain_shiftV hr _, rfl⟩
theorem callDw {β : BP} {g : Gd} (hg : g = G0 P n0 N) {f : FuncId} {args args' : List AT} {K : AV → EH → Prop} {Post : AV → List AB → Prop} (hc : PCon P f args' Post) (ha : dwA args args')
    (hK : ∀ res rows, Post res rows → ∃ es : EH, toH es = (rows.map (AB.shift (toH h).length)).map .live ∧ K (res.shift (toH h).length) (h ++ es)) : g .C f h args K :=
  callC hg ⟨args', Post, hc, .inl ⟨ha, hK⟩⟩
theorem call0Dw {β : BP} {g : Gd} (hg : g = G0 P n0 N) {f : FuncId} {args args' : List AT} {K : AV → EH → Prop} {r : AV} (hc : PCon P f args' fun res rows => res = r ∧ rows = []) (ha : dwA args args') (hr : plainV r = true) (hK : K r (h ++ [])) : g .C f h args K :=
  callDw hg hc ha fun res rows hpost => by
    obtain ⟨rfl, rfl⟩ := hpost
    exact ⟨[], rfl, by rw [plain_shiftV hr]; exact hK⟩
theorem call0DwP {β : BP} {g : Gd} (hg : g = G0 P n0 N) {f : FuncId} {args args' : List AT} {K : AV → EH → Prop} {r : AV} (hc : PCon P f args' fun res rows => res = r ∧ rows = []) (ha : dwA args args') (hr : plainV r = true) (hK : K r []) : g .PC f h n args K := by
  subst hg
  refine ⟨r, [], ⟨args', _, hc, .inl ⟨ha, fun res rows hpost => ?_⟩⟩, [], rfl, hK⟩
  obtain ⟨rfl, rfl⟩ := hpost
  exact ⟨plain_shiftV hr _, rfl⟩
theorem loop_run {β : BP} {g : Gd} (hg : g = G0 P n0 N) (hfit : Fits P tab) {S : Type} {c : Code} {Q : Exit → List (Nat × AV) → EH → Prop} {l : List (Nat × AV)} (hok : codeOk N c = true) (Tf : S → List (Nat × AV)) (hf : S → EH) (ok : S → Prop) (μ : S → Nat) (s0 : S) (ρ0 : List (Option Nat)) (h0 : ok s0)
    (hw : Wk n0 (lkT l) (toH h) (Tf s0) (toH (hf s0)) ρ0)
    (hb : ∀ (s : S) (B : List (Nat × AV) → EH → Prop), ok s → B = (fun l' h' => ∃ s' ρ, ok s' ∧ μ s' < μ s ∧ Wk n0 (lkT l') (toH h') (Tf s') (toH (hf s')) ρ) → runC g tab c (fun e l h => match e with | .normal => B l h | e => Q e l h) (Tf s) (hf s)) : g .L c Q l h := by
  subst hg
  refine vc_loop Tf (fun s => toH (hf s)) ok μ s0 ρ0 h0 hw (fun s hs => vc_mono (fun e T h hq => ?_) (runC_sound hfit c _ _ _ hok (hb s _ hs rfl)))
  obtain ⟨l', eh, rfl, rfl, hq⟩ := hq
  cases e <;> first
    | exact ⟨l', eh, rfl, rfl, hq⟩
    | exact hq
end
end Go.Proofs.YtenbloaopcfdlaaGreat.Am
namespace Go.Proofs.YtenbloaopcfdlaaGreat.Am
open Go.RowKit
set_option linter.unusedVariables false
def lenI (xs : List (List AC)) : Int := (xs.length : Int)
theorem lenI_eq (xs : List (List AC)) : lenI xs = (xs.length : Int) := rfl
section
variable {P : Program} {n0 N : Nat} {g : Gd}
theorem goN {β : BP} (hg : g = G0 P n0 N) {p q : Prop} (hp : p) (hq : q) : g .N p q := by subst hg; exact ⟨hp, hq⟩
theorem goX {β : BP} (hg : g = G0 P n0 N) {xs : List (List AC)} {z : Int} {k : Nat} {K : List AC → Prop} (y : List AC) (hz : 0 ≤ z) (hy : xs[z.toNat]? = some y) (hk : y.length = k) (hK : K y) : g .X xs z k K := by subst hg; exact ⟨hz, y, hy, hk, hK⟩
theorem goY {β : BP} (hg : g = G0 P n0 N) {xs : List (List AC)} {z : Int} {k : Nat} {K : Nat → Prop} (hz : 0 ≤ z) (hy : z < lenI xs) (hK : ∀ j : Nat, j = z.toNat → j < xs.length → K j) : g .Y k xs z K := by subst hg; have := lenI_eq xs; exact ⟨hz, by omega, hK _ rfl (by omega)⟩
theorem goSt {β : BP} (hg : g = G0 P n0 N) (xs : List (List AC)) (i : Nat) (x : List AC) : g .st xs i x = xs.set i x := by subst hg; rfl
theorem goAp {β : BP} (hg : g = G0 P n0 N) (xs ys : List (List AC)) : g .ap xs ys = xs ++ ys := by subst hg; rfl
theorem goRp {β : BP} (hg : g = G0 P n0 N) (n : Int) (x : List AC) : g .rp n x = List.replicate n.toNat x := by subst hg; rfl
theorem goLn {β : BP} (hg : g = G0 P n0 N) (xs : List (List AC)) : g .ln xs = lenI xs := by subst hg; rfl
theorem goMk {β : BP} (hg : g = G0 P n0 N) {xs : List (List AC)} {by_ : Nat} {q : Prop} (hb : by_ ≤ 65536) (hl : xs.length ≤ 1048576) (hq : q) : g .N (g .ln xs = g .ln xs ∧ 0 ≤ g .ln xs ∧ (by_ : Int) * g .ln xs ≤ 140737488355328 ∧ g .ln xs ≤ 4611686018427387904) q := by
  subst hg
  have h1 : by_ * xs.length ≤ 68719476736 := Nat.le_trans (Nat.mul_le_mul hb hl) (by decide)
  have h2 : ((by_ * xs.length : Nat) : Int) ≤ 68719476736 := by omega
  rw [Int.natCast_mul] at h2
  refine ⟨⟨rfl, ?_, ?_, ?_⟩, hq⟩
  · exact Int.natCast_nonneg _
  · show (by_ : Int) * (xs.length : Int) ≤ 140737488355328; omega
  · show (xs.length : Int) ≤ 4611686018427387904; omega
theorem goAdd {β : BP} (hg : g = G0 P n0 N) (a b : Int) : g .w .add .i64 a b = wrap64 (a + b) := by subst hg; exact IntWalk.i64_left _
theorem goSub {β : BP} (hg : g = G0 P n0 N) (a b : Int) : g .w .sub .i64 a b = wrap64 (a - b) := by subst hg; exact IntWalk.i64_left _
theorem goMul {β : BP} (hg : g = G0 P n0 N) (a b : Int) : g .w .mul .i64 a b = wrap64 (a * b) := by subst hg; exact IntWalk.i64_left _
theorem goLss {β : BP} (hg : g = G0 P n0 N) (a b : Int) : g .q .lss a b = decide (a < b) := by subst hg; rfl
theorem goLeq {β : BP} (hg : g = G0 P n0 N) (a b : Int) : g .q .leq a b = decide (a ≤ b) := by subst hg; rfl
theorem goGtr {β : BP} (hg : g = G0 P n0 N) (a b : Int) : g .q .gtr a b = decide (a > b) := by subst hg; rfl
theorem goGeq {β : BP} (hg : g = G0 P n0 N) (a b : Int) : g .q .geq a b = decide (a ≥ b) := by subst hg; rfl
theorem goEql {β : BP} (hg : g = G0 P n0 N) (a b : Int) : g .q .eql a b = (a == b) := by subst hg; rfl
theorem goNeq {β : BP} (hg : g = G0 P n0 N) (a b : Int) : g .q .neq a b = (a != b) := by subst hg; rfl
theorem wk0 {T : Nat → AV} {l' : List (Nat × AV)} (hk : rnK [] [] T l') : Wk 0 T [] l' [] [] := ⟨Nat.le_refl _, fun i hi => absurd hi (Nat.not_lt_zero _), List.nodup_nil, trivial, hk⟩
theorem goNeqB {β : BP} (hg : g = G0 P n0 N) (a b : Bool) : g .qb .neq a b = (a != b) := by subst hg; rfl
theorem goEqlB {β : BP} (hg : g = G0 P n0 N) (a b : Bool) : g .qb .eql a b = (a == b) := by subst hg; rfl
def plainE (es : List (List AC)) : Bool := es.all fun x => x.all plain
def selOk (h : AH) : List Nat → AH → Prop
  | [], [] => True
  | j :: ρ, e :: es => (∃ ab, h[j]? = some (.live ab) ∧ e = .live ab ∧ plainE ab.es = true) ∧ selOk h ρ es
  | _, _ => False
theorem selOk_rnH {h h' : AH} : ∀ (ρ : List Nat) (es : AH) (pre : List Nat), selOk h ρ es → rnH 0 ((pre ++ ρ).map some) h' h pre.length es
  | [], [], pre, _ => trivial
  | [], _ :: _, _, h => h.elim
  | _ :: _, [], _, h => h.elim
  | j :: ρ, e :: es, pre, hs => by
    obtain ⟨⟨ab, h1, rfl, h3⟩, h4⟩ := hs
    have := selOk_rnH (h' := h') ρ es (pre ++ [j]) h4
    rw [List.append_assoc, List.singleton_append, List.length_append, List.length_singleton] at this
    unfold rnH
    refine ⟨fun hi => absurd hi (Nat.not_lt_zero _), ?_, this⟩
    have e1 : (List.map some (pre ++ j :: ρ))[pre.length]? = some (some j) := by simp
    simp only [e1, h1]
    exact ⟨by first | trivial | rfl, by first | trivial | rfl, .inl ⟨by first | trivial | rfl, h3⟩⟩
theorem nodup_ids : ∀ (ρ : List Nat), (ρ.map some).filterMap id = ρ
  | [] => rfl
  | j :: ρ => by simp
theorem wkS {T : Nat → AV} {h h' : AH} {l' : List (Nat × AV)} (ρ : List Nat) (hn : ρ.Nodup) (hs : selOk h ρ h') (hk : rnK (ρ.map some) h' T l') : Wk 0 T h l' h' (ρ.map some) :=
  ⟨Nat.zero_le _, fun i hi => absurd hi (Nat.not_lt_zero _), by rw [nodup_ids]; exact hn, selOk_rnH ρ h' [] hs, hk⟩
theorem back {S : Type} {ok : S → Prop} {μ : S → Nat} {s : S} {Tf : S → List (Nat × AV)} {hf : S → EH} {B : List (Nat × AV) → EH → Prop} {l : List (Nat × AV)} {h : EH}
    (hB : B = fun l' h' => ∃ s' ρ, ok s' ∧ μ s' < μ s ∧ Wk n0 (lkT l') (toH h') (Tf s') (toH (hf s')) ρ) (s' : S) (ρ : List (Option Nat)) (hw : Wk n0 (lkT l) (toH h) (Tf s') (toH (hf s')) ρ) (h1 : ok s') (h2 : μ s' < μ s) : B l h := by
  subst hB; exact ⟨s', ρ, h1, h2, hw⟩
theorem goMn {β : BP} (hg : g = G0 P n0 N) (a b : Int) : g .mn a b = if b < a then b else a := by subst hg; rfl
theorem goMx {β : BP} (hg : g = G0 P n0 N) (a b : Int) : g .mx a b = if a < b then b else a := by subst hg; rfl
theorem fin0i {F : List AT → EH → Prop} {eh : EH} {m z : Int} (hF : F = FinP 0 (fun res h' => ∃ rows, h' = rows.map .live ∧ (res = .t (.c (.imm (.int .i64 m))) ∧ rows = []))) (h : z = m) : F [.c (.imm (.int .i64 z))] eh := by
  subst h; exact fin0 hF rfl ⟨rfl, rfl⟩
theorem fin0b {F : List AT → EH → Prop} {eh : EH} {m z : Bool} (hF : F = FinP 0 (fun res h' => ∃ rows, h' = rows.map .live ∧ (res = .t (.c (.imm (.bool m))) ∧ rows = []))) (h : z = m) : F [.c (.imm (.bool z))] eh := by
  subst h; exact fin0 hF rfl ⟨rfl, rfl⟩
def ResA (h : AH) : List AT → List AT → Prop
  | [], [] => True
  | .c c :: xs, .c d :: ys => ResT h c d ∧ ResA h xs ys
  | .agg a :: xs, .agg b :: ys => (a = b ∧ a.all dat = true) ∧ ResA h xs ys
  | _, _ => False
theorem resDat {h : AH} {c : AC} (hc : dat c = true) : ResC h c c := by
  cases c <;> first | exact .imm _ | exact .view _ | cases hc
theorem resRow {h : AH} {r : Nat} {ab : AB} (hn : h[r]? = some (.live ab)) (hk : ∀ x ∈ ab.es, x.length = ab.k) (hd : ∀ x ∈ ab.es, x.all dat = true) : ResC h (.own r) (.view ab.es) :=
  .row (.own r) ab.es ab.es ab.k (.inl ⟨r, ab, rfl, hn, rfl, rfl⟩) rfl (fun i x hx => hk x (List.mem_of_getElem? hx)) (fun i x hx => hk x (List.mem_of_getElem? hx)) fun i x y hx hy j c d hc hd' => by
    rw [hx] at hy
    cases hy
    rw [hc] at hd'
    cases hd'
    exact resDat (List.all_eq_true.1 (hd x (List.mem_of_getElem? hx)) c (List.mem_of_getElem? hc))
theorem resA_len {h : AH} : ∀ (xs ys : List AT), ResA h xs ys → ys.length = xs.length
  | [], [], _ => rfl
  | [], _ :: _, h => by simp [ResA] at h
  | .c _ :: _, [], h => h.elim
  | .agg _ :: _, [], h => h.elim
  | .c _ :: xs, .c _ :: ys, h => by simp [resA_len xs ys h.2]
  | .agg _ :: xs, .agg _ :: ys, h => by simp [resA_len xs ys h.2]
  | .c _ :: _, .agg _ :: _, h => h.elim
  | .agg _ :: _, .c _ :: _, h => h.elim
theorem resA_at {h : AH} : ∀ (xs ys : List AT), ResA h xs ys → ∀ (j : Nat) (x y : AT), xs[j]? = some x → ys[j]? = some y → (∃ c d, x = .c c ∧ y = .c d ∧ ResT h c d) ∨ ∃ xs ys, x = .agg xs ∧ y = .agg ys ∧ xs.length = ys.length ∧ ∀ (i : Nat) (c d : AC), xs[i]? = some c → ys[i]? = some d → ResC h c d
  | [], _, _, j, x, y, hx, _ => by simp at hx
  | .c c :: xs, .c d :: ys, h, j, x, y, hx, hy => by
    cases j with
    | zero => simp at hx hy; subst hx hy; exact .inl ⟨c, d, rfl, rfl, h.1⟩
    | succ j => exact resA_at xs ys h.2 j x y (by simpa using hx) (by simpa using hy)
  | .agg a :: xs, .agg b :: ys, h, j, x, y, hx, hy => by
    cases j with
    | zero =>
      simp at hx hy
      subst hx hy
      obtain ⟨⟨rfl, hd⟩, _⟩ := h
      refine .inr ⟨a, a, rfl, rfl, rfl, fun i c d hc hd' => ?_⟩
      rw [hc] at hd'
      cases hd'
      exact resDat (List.all_eq_true.1 hd c (List.mem_of_getElem? hc))
    | succ j => exact resA_at xs ys h.2 j x y (by simpa using hx) (by simpa using hy)
  | .c _ :: _, [], h, _, _, _, _, _ => h.elim
  | .agg _ :: _, [], h, _, _, _, _, _ => h.elim
  | .c _ :: _, .agg _ :: _, h, _, _, _, _, _ => h.elim
  | .agg _ :: _, .c _ :: _, h, _, _, _, _, _ => h.elim
def bareV : AV → Bool
  | .t (.c (.imm _)) => true
  | .t (.agg xs) => xs.all fun c => match c with | .imm _ => true | _ => false
  | _ => false
theorem bare_plain {r : AV} (hr : bareV r = true) : plainV r = true := by
  match r, hr with
  | .t (.c (.imm _)), _ => rfl
  | .t (.agg xs), h =>
    simp only [bareV, List.all_eq_true] at h
    show xs.all plain = true
    rw [List.all_eq_true]
    intro c hc
    have := h c hc
    cases c <;> first | rfl | cases this
theorem bare_fresh {r : AV} (hr : bareV r = true) : r.fresh = true := by
  match r, hr with
  | .t (.c (.imm _)), _ => rfl
  | .t (.agg xs), h =>
    simp only [bareV, List.all_eq_true] at h
    show xs.all AC.fresh = true
    rw [List.all_eq_true]
    intro c hc
    have := h c hc
    cases c <;> first | rfl | cases this
end
end Go.Proofs.YtenbloaopcfdlaaGreat.Am
namespace Go.Proofs.YtenbloaopcfdlaaGreat.Am
open Go.RowKit
set_option linter.unusedVariables false
set_option linter.unusedSimpArgs false
section
variable {P : Program} {n0 N n : Nat} {g : Gd}
theorem finRow {F : List AT → EH → Prop} {r : Nat} {eh : EH} {ab : AB} (hF : F = FinP 0 (fun res h' => ∃ rows, h' = rows.map .live ∧ (res = .t (.c (.own 0)) ∧ rows = [ab]))) (hr : nth eh r = some (.rw ab)) (hp : plainE ab.es = true) : F [.c (.own r)] eh :=
  fin1 ab hF hr hp ⟨rfl, rfl⟩
theorem dat_data : ∀ {args : List AT}, datA args = true → ∀ {h : AH}, ResA h args args
  | [], _, _ => trivial
  | .c c :: xs, hp, h => by
    simp only [datA, Bool.and_eq_true] at hp
    exact ⟨.c (resDat (by simpa [AT.cells] using hp.1)), dat_data hp.2⟩
  | .agg a :: xs, hp, h => by
    simp only [datA, Bool.and_eq_true] at hp
    exact ⟨⟨rfl, by simpa [AT.cells] using hp.1⟩, dat_data hp.2⟩
theorem plain_fresh {es : List (List AC)} (h : es.all (fun x => x.all fun c => match c with | .imm _ => true | _ => false) = true) (t k : Nat) : AB.fresh ⟨t, k, es⟩ = true := by
  simp only [AB.fresh, List.all_eq_true] at h ⊢
  intro x hx c hc
  have := h x hx c hc
  cases c <;> first | rfl | cases this
def immE (es : List (List AC)) : Bool := es.all fun x => x.all fun c => match c with | .imm _ => true | _ => false
theorem imm_plainE {es : List (List AC)} (h : immE es = true) : plainE es = true := by
  simp only [immE, plainE, List.all_eq_true] at h ⊢
  intro x hx c hc
  have := h x hx c hc
  cases c <;> first | rfl | cases this
theorem shift_row {ab : AB} (h : plainE ab.es = true) (n : Nat) : AB.shift n ab = ab := by
  obtain ⟨t, k, es⟩ := ab
  exact congrArg (AB.mk t k) (plain_shiftE h)
theorem callRow {β : BP} (hg : g = G0 P n0 N) {h : EH} {f : FuncId} {args args' : List AT} {K : AV → EH → Prop} {ab : AB} (hc : PCon P f args' fun res rows => res = .t (.c (.own 0)) ∧ rows = [ab]) (ha : ResA (toH h) args args') (hp : immE ab.es = true)
    (hK : K (.t (.c (.own (lenL h)))) (h ++ [.rw ab])) : g .C f h args K := by
  refine callC hg ⟨args', _, hc, .inr ⟨resA_len _ _ ha, resA_at _ _ ha, fun res rows hpost => ?_⟩⟩
  obtain ⟨rfl, rfl⟩ := hpost
  refine ⟨rfl, fun ab' hab => ?_, [.rw ab], ?_, ?_⟩
  · obtain rfl := List.mem_singleton.1 hab
    exact plain_fresh hp _ _
  · simp only [List.map_cons, List.map_nil, shift_row (imm_plainE hp)]; rfl
  · rw [lenL_eq] at hK; rw [toH_len]; exact hK
theorem callRowP {β : BP} (hg : g = G0 P n0 N) {h : EH} {n : Nat} {f : FuncId} {args args' : List AT} {K : AV → EH → Prop} {ab : AB} (hc : PCon P f args' fun res rows => res = .t (.c (.own 0)) ∧ rows = [ab]) (ha : ResA (toH h) args args') (hp : immE ab.es = true)
    (hK : K (.t (.c (.own n))) [.rw ab]) : g .PC f h n args K := by
  subst hg
  refine ⟨.t (.c (.own n)), [ab], ⟨args', _, hc, .inr ⟨resA_len _ _ ha, resA_at _ _ ha, fun res rows hpost => ?_⟩⟩, [.rw ab], rfl, hK⟩
  obtain ⟨rfl, rfl⟩ := hpost
  refine ⟨rfl, fun ab' hab => ?_, rfl, ?_⟩
  · obtain rfl := List.mem_singleton.1 hab
    exact plain_fresh hp _ _
  · simp only [List.map_cons, List.map_nil, shift_row (imm_plainE hp)]
theorem callB {β : BP} (hg : g = G0 P n0 N) {h : EH} {f : FuncId} {args : List AT} {K : AV → EH → Prop} {r : Bool} (hc : PCon P f args fun res rows => res = .t (.c (.imm (.bool r))) ∧ rows = []) (hp : datPA args = true)
    (hK : ∀ R, R = r → K (.t (.c (.imm (.bool R)))) (h ++ [])) : g .C f h args K := call0 hg hc hp rfl (hK r rfl)
theorem callBP {β : BP} (hg : g = G0 P n0 N) {h : EH} {n : Nat} {f : FuncId} {args : List AT} {K : AV → EH → Prop} {r : Bool} (hc : PCon P f args fun res rows => res = .t (.c (.imm (.bool r))) ∧ rows = []) (hp : datPA args = true)
    (hK : ∀ R, R = r → K (.t (.c (.imm (.bool R)))) []) : g .PC f h n args K := call0P hg hc hp rfl (hK r rfl)
theorem goQuo {β : BP} (hg : g = G0 P n0 N) (a b : Int) : g .w .quo .i64 a b = wrap64 (a.tdiv b) := by subst hg; exact IntWalk.i64_left _
theorem goRem {β : BP} (hg : g = G0 P n0 N) (a b : Int) : g .w .rem .i64 a b = a.tmod b := by subst hg; rfl
theorem goNg {β : BP} (hg : g = G0 P n0 N) (a : Int) : g .ng .i64 a = wrap64 (0 - a) := by subst hg; exact IntWalk.i64_left _
theorem goNZ {β : BP} (hg : g = G0 P n0 N) {b : Int} {q : Prop} (hb : b ≠ 0) (hq : q) : g .N (b ≠ 0) q := by subst hg; exact ⟨hb, hq⟩
end
end Go.Proofs.YtenbloaopcfdlaaGreat.Am
namespace Go.Proofs.YtenbloaopcfdlaaGreat.Am
open Go.RowKit
set_option linter.unusedVariables false
set_option linter.unusedSimpArgs false
def AC.mv (s : Nat → Nat) : AC → AC
  | .own r => .own (s r)
  | .sub r lo k => .sub (s r) lo k
  | .ptr r i o => .ptr (s r) i o
  | .clo g rs => .clo g (rs.map s)
  | c => c
def AT.mv (s : Nat → Nat) : AT → AT
  | .c x => .c (x.mv s)
  | .agg xs => .agg (xs.map (AC.mv s))
def AV.mv (s : Nat → Nat) : AV → AV
  | .t x => .t (x.mv s)
  | .tup xs => .tup (xs.map (AT.mv s))
def AB.mv (s : Nat → Nat) (ab : AB) : AB := ⟨ab.ty, ab.k, ab.es.map (·.map (AC.mv s))⟩
def AE.mv (s : Nat → Nat) : AE → AE
  | .live ab => .live (ab.mv s)
  | .gone => .gone
  | .hole => .gone
def plc (σ : List Nat) (n : Nat) (i : Nat) : Nat := match nth σ i with | some r => r | none => n + (i - lenL σ)
section
variable {F : Nat → Prop} {w : World} {m m' : AM} {h h' : AH} {s : Nat → Nat}
theorem RC.mv (hp : ∀ (j : Nat), (h[j]? = some .gone → h'[s j]? = some .gone) ∧ ∀ (ab : AB), h[j]? = some (.live ab) → ∃ ab', h'[s j]? = some (.live ab') ∧ ab'.k = ab.k ∧ ab'.es.length = ab.es.length ∧ m'[s j]? = m[j]?) {c : AC} {v : Value}
    (hc : RC F w m h c v) : RC F w m' h' (c.mv s) v := by
  cases c with
  | imm u => exact hc
  | view xs => exact hc
  | own r =>
    rcases hc with hg | ⟨ab, h1, h2⟩
    · exact .inl ((hp r).1 hg)
    · obtain ⟨ab', h3, h4, h5, h6⟩ := (hp r).2 ab h1
      exact .inr ⟨ab', h3, by rw [h6, h5]; exact h2⟩
  | sub r lo k =>
    rcases hc with hg | ⟨ab, c, p, h1, h2, h7, h8, h9, h10⟩
    · exact .inl ((hp r).1 hg)
    · obtain ⟨ab', h3, h4, h5, h6⟩ := (hp r).2 ab h1
      exact .inr ⟨ab', c, p, h3, by rw [h5]; exact h2, h7, h8, h9, by rw [h6, h4]; exact h10⟩
  | ptr r i o =>
    rcases hc with hg | ⟨ab, b, cap, h1, h2, h7⟩
    · exact .inl ((hp r).1 hg)
    · obtain ⟨ab', h3, h4, h5, h6⟩ := (hp r).2 ab h1
      exact .inr ⟨ab', b, cap, h3, by rw [h6]; exact h2, by rw [h4]; exact h7⟩
  | eptr cs o => exact hc
  | fv bs xs => exact hc
  | old p xs => exact hc
  | clo g rs =>
    exact RCl.map (fun r u hr => by
      rcases hr with hg | ⟨ab, b, cap, h1, h2, h7⟩
      · exact .inl ((hp r).1 hg)
      · obtain ⟨ab', h3, h4, h5, h6⟩ := (hp r).2 ab h1
        exact .inr ⟨ab', b, cap, h3, by rw [h6]; exact h2, h7⟩) hc
  | dead => trivial
theorem RT.mv (hp : ∀ (j : Nat), (h[j]? = some .gone → h'[s j]? = some .gone) ∧ ∀ (ab : AB), h[j]? = some (.live ab) → ∃ ab', h'[s j]? = some (.live ab') ∧ ab'.k = ab.k ∧ ab'.es.length = ab.es.length ∧ m'[s j]? = m[j]?) {c : AT} {v : Value}
    (hc : RT F w m h c v) : RT F w m' h' (c.mv s) v := by
  cases c with
  | c x => exact RC.mv hp hc
  | agg xs =>
    obtain ⟨vs, h1, h2, h3⟩ := hc
    refine ⟨vs, h1, by simpa using h2, fun j x hj => ?_⟩
    simp only [List.getElem?_map, Option.map_eq_some_iff] at hj
    obtain ⟨y, hy, rfl⟩ := hj
    obtain ⟨u, hu, ho, hr⟩ := h3 j y hy
    exact ⟨u, hu, ho, RC.mv hp hr⟩
theorem RV.mv (hp : ∀ (j : Nat), (h[j]? = some .gone → h'[s j]? = some .gone) ∧ ∀ (ab : AB), h[j]? = some (.live ab) → ∃ ab', h'[s j]? = some (.live ab') ∧ ab'.k = ab.k ∧ ab'.es.length = ab.es.length ∧ m'[s j]? = m[j]?) {c : AV} {v : Value}
    (hc : RV F w m h c v) : RV F w m' h' (c.mv s) v := by
  cases c with
  | t x => exact RT.mv hp hc
  | tup xs =>
    obtain ⟨vs, h1, h2, h3⟩ := hc
    refine ⟨vs, h1, by simpa using h2, fun j x hj => ?_⟩
    simp only [List.getElem?_map, Option.map_eq_some_iff] at hj
    obtain ⟨y, hy, rfl⟩ := hj
    obtain ⟨u, hu, hr⟩ := h3 j y hy
    exact ⟨u, hu, RT.mv hp hr⟩
end
section
variable {F : Nat → Prop} {w w' : World} {M : AM} {H : AH}
theorem frame {β : BP} {F1 : Nat → Prop} {m : AM} {h : AH} {m' : AM} {h' H' : AH} {M' : AM} {s : Nat → Nat} (hH : RH F w M H) (hG : Grow F F1 w m h) (hst : Step F1 w m h w' m' h')
    (hsm : ∀ i e, h[i]? = some e → ∃ ab AB, e = .live ab ∧ H[s i]? = some (.live AB) ∧ AB.k = ab.k ∧ AB.es.length = ab.es.length ∧ m[i]? = M[s i]?)
    (hinj : ∀ i j, s i = s j → i = j)
    (hin : ∀ i, i < h.length → s i < H.length) (hnew : ∀ i, h.length ≤ i → s i = H.length + (i - h.length))
    (hl : H'.length = H.length + (h'.length - h.length)) (hlM : M'.length = H'.length) (hle : h.length ≤ h'.length)
    (hat : ∀ i, i < h'.length → H'[s i]? = (h'[i]?).map (AE.mv s)) (hatM : ∀ i, i < h'.length → h'[i]? ≠ some .gone → M'[s i]? = m'[i]?)
    (hout : ∀ r, r < H.length → (∀ i, i < h.length → s i ≠ r) → H'[r]? = H[r]? ∧ M'[r]? = M[r]?)
    (hnh : ∀ i : Nat, h'[i]? ≠ some AE.hole) : Grow F F1 w M H ∧ Step F1 w M H w' M' H' ∧ (∀ res v, RV F1 w' m' h' res v → RV F1 w' M' H' (res.mv s) v) := by
  have hmv : ∀ (j : Nat), (h'[j]? = some .gone → H'[s j]? = some .gone) ∧ ∀ (ab : AB), h'[j]? = some (.live ab) → ∃ ab', H'[s j]? = some (.live ab') ∧ ab'.k = ab.k ∧ ab'.es.length = ab.es.length ∧ M'[s j]? = m'[j]? := fun j => by
    refine ⟨fun hg => ?_, fun ab hab => ?_⟩
    · have hj := (List.getElem?_eq_some_iff.1 hg).1
      rw [hat j hj, hg]; rfl
    · have hj := (List.getElem?_eq_some_iff.1 hab).1
      exact ⟨ab.mv s, by rw [hat j hj, hab]; rfl, rfl, by simp [AB.mv], hatM j hj (by rw [hab]; simp)⟩
  have hcase : ∀ r ab, H'[r]? = some (.live ab) → (∃ i ab0, r = s i ∧ i < h'.length ∧ h'[i]? = some (.live ab0) ∧ ab = ab0.mv s ∧ M'[r]? = m'[i]?) ∨ (r < H.length ∧ (∀ i, i < h.length → s i ≠ r) ∧ H[r]? = some (.live ab) ∧ M'[r]? = M[r]?) := fun r ab hr => by
    have hrl := (List.getElem?_eq_some_iff.1 hr).1
    have fromS : ∀ i, i < h'.length → r = s i → ∃ i ab0, r = s i ∧ i < h'.length ∧ h'[i]? = some (.live ab0) ∧ ab = ab0.mv s ∧ M'[r]? = m'[i]? := fun i hi hri => by
      have h1 := hat i hi
      rw [← hri, hr, List.getElem?_eq_getElem hi] at h1
      simp only [Option.map_some, Option.some.injEq] at h1
      have h2 := List.getElem?_eq_getElem hi
      cases he : h'[i] with
      | live ab0 =>
        rw [he] at h1 h2
        simp only [AE.mv, AE.live.injEq] at h1
        exact ⟨i, ab0, hri, hi, h2, h1, by rw [hri]; exact hatM i hi (by rw [h2]; simp)⟩
      | gone => rw [he] at h1; cases h1
      | hole => rw [he] at h2; exact absurd h2 (hnh i)
    by_cases hlt : r < H.length
    · by_cases hex : ∃ i, i < h.length ∧ s i = r
      · obtain ⟨i, hi, hri⟩ := hex
        exact .inl (fromS i (by omega) hri.symm)
      · right
        have hne : ∀ i, i < h.length → s i ≠ r := fun i hi he => hex ⟨i, hi, he⟩
        obtain ⟨h1, h2⟩ := hout r hlt hne
        exact ⟨hlt, hne, by rw [← h1]; exact hr, h2⟩
    · left
      have : s (h.length + (r - H.length)) = r := by rw [hnew _ (by omega)]; omega
      exact fromS _ (by omega) this.symm
  have hnF : ∀ b, F b → w'.heap[b]? = w.heap[b]? := fun b hb => hst.blk b (hH.old b hb) fun r ab c h1 h2 => by
    obtain ⟨ab0, AB, h3, h4, _, _, h5⟩ := hsm r _ h1
    rw [h5] at h2
    exact (hH.lt h4 h2).1 hb
  have hnS : ∀ r ab b c, r < H.length → (∀ i, i < h.length → s i ≠ r) → H[r]? = some (.live ab) → M[r]? = some (some (b, c)) → w'.heap[b]? = w.heap[b]? := fun r ab b c _ hne h1 h2 => hst.blk b (hH.lt h1 h2).2 fun i ab1 c1 h3 h4 => by
    obtain ⟨ab0, AB, h5, h6, _, _, h7⟩ := hsm i _ h3
    rw [h7] at h4
    exact hne i (List.getElem?_eq_some_iff.1 h3).1 (hH.inj _ _ _ _ _ _ _ h6 h1 h4 h2)
  have hkeep : Keeps M H M' H' := fun r => by
    refine ⟨fun hg => ?_, fun ab hab => ?_⟩
    · have hrl := (List.getElem?_eq_some_iff.1 hg).1
      have hne : ∀ i, i < h.length → s i ≠ r := fun i hi he => by
        obtain ⟨ab0, AB, _, h4, _⟩ := hsm i _ (List.getElem?_eq_getElem hi)
        rw [he, hg] at h4; cases h4
      rw [(hout r hrl hne).1]; exact hg
    · have hrl := (List.getElem?_eq_some_iff.1 hab).1
      by_cases hex : ∃ i, i < h.length ∧ s i = r
      · obtain ⟨i, hi, hri⟩ := hex
        obtain ⟨ab0, AB, h3, h4, h5, h6, h7⟩ := hsm i _ (List.getElem?_eq_getElem hi)
        rw [hri, hab] at h4
        cases h4
        have h8 : h[i]? = some (.live ab0) := by rw [List.getElem?_eq_getElem hi, h3]
        rcases (hst.keeps i).2 ab0 h8 with hg | ⟨ab', g1, g2, g3, g4⟩
        · left; have := (hmv i).1 hg; rwa [hri] at this
        · obtain ⟨ab'', k1, k2, k3, k4⟩ := (hmv i).2 ab' g1
          right
          rw [hri] at k1 k4 h7
          exact ⟨ab'', k1, by rw [k2, g2, h5], by rw [k3, g3, h6], by rw [k4, g4, h7]⟩
      · have hne : ∀ i, i < h.length → s i ≠ r := fun i hi he => hex ⟨i, hi, he⟩
        obtain ⟨h1, h2⟩ := hout r hrl hne
        exact .inr ⟨ab, by rw [h1]; exact hab, rfl, rfl, h2⟩
  have hGM : Grow F F1 w M H := ⟨hG.1, fun b hb => by
    rcases hG.2 b hb with h1 | h1 | ⟨r, ab, c, h1, h2⟩
    · exact .inl h1
    · exact .inr (.inl h1)
    · obtain ⟨ab0, AB, _, k4, _, _, k7⟩ := hsm r _ h1
      rw [k7] at h2
      exact .inr (.inr ⟨_, _, _, k4, h2⟩)⟩
  refine ⟨hGM, ⟨⟨fun r ab hr => ?_, fun r r' ab ab' b c c' h1 h2 h3 h4 => ?_, hlM, hst.hp.old, hst.hp.lo⟩, hkeep, hst.os, hst.tape, hst.output, hst.size, fun b hb hne => hst.blk b hb fun i ab c h1 h2 => ?_, fun r ab b c h1 h2 => ?_⟩, fun res v hv => RV.mv hmv hv⟩
  · rcases hcase r ab hr with ⟨i, ab0, rfl, hi, h1, rfl, h2⟩ | ⟨hlt, hne, h1, h2⟩
    · rw [h2]
      rcases hst.hp.at_ i ab0 h1 with ⟨h3, h4⟩ | ⟨b, c, h3, h4, cur, g1, g2, g3, g4, g5⟩
      · exact .inl ⟨h3, by simpa [AB.mv] using h4⟩
      · refine .inr ⟨b, c, h3, h4, cur, g1, g2, by simpa [AB.mv] using g3, g4, fun p x hx => ?_⟩
        simp only [AB.mv, List.getElem?_map, Option.map_eq_some_iff] at hx
        obtain ⟨y, hy, rfl⟩ := hx
        refine ⟨by simpa [AB.mv] using (g5 p y hy).1, fun q d hd => ?_⟩
        simp only [List.getElem?_map, Option.map_eq_some_iff] at hd
        obtain ⟨d0, hd0, rfl⟩ := hd
        obtain ⟨u, hu, ho, hr⟩ := (g5 p y hy).2 q d0 hd0
        exact ⟨u, hu, ho, RC.mv hmv hr⟩
    · rw [h2]
      rcases hH.at_ r ab h1 with h3 | ⟨b, c, h3, h4, h5⟩
      · exact .inl h3
      · refine .inr ⟨b, c, h3, fun hf => ?_, RB.ext hG.1 hnF hkeep (hnS r ab b c hlt hne h1 h3) h5⟩
        rcases hG.2 b hf with g1 | g1 | ⟨r0, ab0, c0, g1, g2⟩
        · exact h4 g1
        · have := (hH.lt h1 h3).2; omega
        · obtain ⟨ab1, AB, _, k4, _, _, k7⟩ := hsm r0 _ g1
          rw [k7] at g2
          exact hne r0 (List.getElem?_eq_some_iff.1 g1).1 (hH.inj _ _ _ _ _ _ _ k4 h1 g2 h3)
  · have hx : ∀ r ab b c, H'[r]? = some (.live ab) → M'[r]? = some (some (b, c)) → (∃ i ab0, r = s i ∧ h'[i]? = some (.live ab0) ∧ m'[i]? = some (some (b, c))) ∨ (r < H.length ∧ (∀ i, i < h.length → s i ≠ r) ∧ H[r]? = some (.live ab) ∧ M[r]? = some (some (b, c))) := fun r ab b c h1 h2 => by
      rcases hcase r ab h1 with ⟨i, ab0, h3, hi, h4, _, h5⟩ | ⟨h3, h4, h5, h6⟩
      · exact .inl ⟨i, ab0, h3, h4, by rw [← h5]; exact h2⟩
      · exact .inr ⟨h3, h4, h5, by rw [← h6]; exact h2⟩
    have mix : ∀ (i : Nat) (ab0 : AB) (r' : Nat) (ab' : AB) (b c c' : Nat), h'[i]? = some (AE.live ab0) → m'[i]? = some (some (b, c)) → r' < H.length → (∀ i, i < h.length → s i ≠ r') → H[r']? = some (.live ab') → M[r']? = some (some (b, c')) → False := fun i ab0 r' ab' b c c' g1 g2 g3 g4 g5 g6 => by
      rcases hst.own i ab0 b c g1 g2 with ⟨r0, ab1, c0, k1, k2⟩ | k1
      · obtain ⟨ab2, AB, _, k4, _, _, k7⟩ := hsm r0 _ k1
        rw [k7] at k2
        exact g4 r0 (List.getElem?_eq_some_iff.1 k1).1 (hH.inj _ _ _ _ _ _ _ k4 g5 k2 g6)
      · have := (hH.lt g5 g6).2; omega
    rcases hx r ab b c h1 h3 with ⟨i, a0, rfl, g1, g2⟩ | ⟨g1, g2, g3, g4⟩ <;> rcases hx r' ab' b c' h2 h4 with ⟨i', a0', rfl, g1', g2'⟩ | ⟨g1', g2', g3', g4'⟩
    · rw [hst.hp.inj i i' a0 a0' b c c' g1 g1' g2 g2']
    · exact (mix i a0 r' ab' b c c' g1 g2 g1' g2' g3' g4').elim
    · exact (mix i' a0' r ab b c' c g1' g2' g1 g2 g3 g4).elim
    · exact hH.inj r r' ab ab' b c c' g3 g3' g4 g4'
  · obtain ⟨ab0, AB, _, k4, _, _, k7⟩ := hsm i _ h1
    rw [k7] at h2
    exact hne _ _ _ k4 h2
  · rcases hcase r ab h1 with ⟨i, ab0, rfl, hi, h3, _, h4⟩ | ⟨h3, h4, h5, h6⟩
    · rw [h4] at h2
      rcases hst.own i ab0 b c h3 h2 with ⟨r0, ab1, c0, k1, k2⟩ | k1
      · obtain ⟨ab2, AB, _, k4, _, _, k7⟩ := hsm r0 _ k1
        rw [k7] at k2
        exact .inl ⟨_, _, _, k4, k2⟩
      · exact .inr k1
    · rw [h6] at h2; exact .inl ⟨r, ab, c, h5, h2⟩
end
def EE.mv (s : Nat → Nat) : EE → EE
  | .bx t k x => .bx t k (x.map (AC.mv s))
  | .rw ab => .rw (ab.mv s)
  | .gn => .gn
theorem plc_eq (σ : List Nat) (n i : Nat) : plc σ n i = match σ[i]? with | some r => r | none => n + (i - σ.length) := by
  unfold plc; rw [nth_eq, lenL_eq]
def SubE (ρ : List (Option Nat)) (h : EH) (H : EH) : List Nat → EH → Prop
  | [], [] => True
  | r :: σ, e :: es => (∃ ab AB, e.e = .live ab ∧ (nth H r).map EE.e = some (.live AB) ∧ ab.ty = AB.ty ∧ ab.k = AB.k ∧ ((ab.es = AB.es ∧ (AB.es.all fun x => x.all plain) = true) ∨ rnE ρ (toH h) ab.es AB.es)) ∧ SubE ρ h H σ es
  | _, _ => False
section
variable {P : Program} {n0 N : Nat} {g : Gd}
theorem RH.rn0 {β : BP} {F : Nat → Prop} {w : World} {M : AM} {H h : AH} {ρ : List (Option Nat)} (hH : RH F w M H) (hnd : (ρ.filterMap id).Nodup) (hr : rnH 0 ρ h H 0 h) : RH F w (rnM M ρ h.length) h :=
  (StepX.rn (n0 := 0) (h0 := []) (w0 := { w with heap := #[] }) (m0 := []) (h := H) (m := M) (h' := h) (ρ := ρ) (F := F) (w := w) ⟨hH, fun r => ⟨fun h => by simp at h, fun ab h => by simp at h⟩, rfl, rfl, rfl, Nat.zero_le _, fun b hb => absurd hb (Nat.not_lt_zero _), fun r ab b c h1 h2 => .inr (Nat.zero_le _), fun b cur ty _ hc => by simp at hc⟩ rfl (Nat.zero_le _) (fun i hi => absurd hi (Nat.not_lt_zero _)) hnd hr).hp
theorem plc_inj {σ : List Nat} {n : Nat} (hnd : σ.Nodup) (hlt : ∀ r ∈ σ, r < n) : ∀ i j, plc σ n i = plc σ n j → i = j := fun i j h => by
  rw [plc_eq, plc_eq] at h
  cases hi : σ[i]? with
  | some r =>
    cases hj : σ[j]? with
    | some q =>
      rw [hi, hj] at h
      simp only at h
      subst h
      have h1 := (List.getElem?_eq_some_iff.1 hi)
      have h2 := (List.getElem?_eq_some_iff.1 hj)
      obtain ⟨a1, a2⟩ := h1
      obtain ⟨b1, b2⟩ := h2
      exact (List.getElem_inj hnd).1 (a2.trans b2.symm)
    | none =>
      rw [hi, hj] at h
      have := hlt r (List.mem_of_getElem? hi)
      simp only at h
      omega
  | none =>
    cases hj : σ[j]? with
    | some q =>
      rw [hi, hj] at h
      have := hlt q (List.mem_of_getElem? hj)
      simp only at h
      omega
    | none =>
      rw [hi, hj] at h
      have h1 := List.getElem?_eq_none_iff.1 hi
      have h2 := List.getElem?_eq_none_iff.1 hj
      simp only at h
      omega
end
end Go.Proofs.YtenbloaopcfdlaaGreat.Am
namespace Go.Proofs.YtenbloaopcfdlaaGreat.Am
open Go.RowKit
set_option linter.unusedVariables false
set_option linter.unusedSimpArgs false
inductive OT
  | done
  | none
  | op (i : Nat) (t r : OT)
section
variable {P : Program} {F : Nat → Prop} {w0 : World} {m0 : AM} {h0 : AH} {N : Nat} {ops : Array Oper} {T : Nat → AV} {h : AH}
end
section
variable {P : Program} {n0 N : Nat} {tab : List (TypeId × TI)}
end
end Go.Proofs.YtenbloaopcfdlaaGreat.Am
