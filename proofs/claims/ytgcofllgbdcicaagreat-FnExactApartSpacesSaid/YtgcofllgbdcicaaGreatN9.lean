/- Some texts in one: small regions in every order; insets; boxes apart. -/
import Derived.Test.YtgcofllgbdcicaaGreatAmAD
import Derived.Test.YtgcofllgbdcicaaGreatC5
import Derived.Test.YtgcofllgbdcicaaGreatO3
import Derived.Test.YtgcofllgbdcicaaGreatN4
/- A part of AM, a framework of the prover own: functions of any program as maps of data. -/
namespace Go.Proofs.YtgcofllgbdcicaaGreat.Am
open Go.RowKit
set_option linter.unusedVariables false
set_option linter.unusedSimpArgs false

/-! ### Small regions that draw their order: every order, one after another -/
/-- The orders of a region: an operation and what follows it, or another one. -/
inductive OT
  | done
  | none
  | op (i : Nat) (t r : OT)
def otB (ops : Array Oper) : OT → Nat → Array Bool → List Nat → Bool → Bool
  | .done, _, _, al, top => top && al.isEmpty
  | .none, _, _, al, top => !top && al.isEmpty
  | .op i t r, f, L, al, _ => match f, al with
    | f' + 1, j :: al' => Nat.beq i j && (otB ops t f' (L.setIfInBounds i true) (Region.ready .any ops (L.setIfInBounds i true)) true && otB ops r f L al' false)
    | _, _ => false
def otOk (ops : Array Oper) (t : OT) : Bool := otB ops t ops.size (Array.replicate ops.size false) (Region.ready .any ops (Array.replicate ops.size false)) true
section
variable {P : Program} {F : Nat → Prop} {w0 : World} {m0 : AM} {h0 : AH} {N : Nat} {ops : Array Oper} {T : Nat → AV} {h : AH}
def anyO (P : Program) (ops : Array Oper) (Q : (Nat → AV) → AH → Prop) : OT → (Nat → AV) → AH → Prop
  | .done, T, h => Q T h
  | .none, _, _ => True
  | .op i t r, T, h => (∃ (o : Oper) (K : (Nat → AV) → AH → Prop), ops[i]? = some o ∧ seqA P ops K [o] T h ∧ ∀ T h, K T h → anyO P ops Q t T h) ∧ anyO P ops Q r T h
theorem anyO_sound {F0 : Nat → Prop} {Q : Exit → (Nat → AV) → AH → Prop} (hg : guardOk N ops = true) (hd : ops.toList.all (dstOk N) = true) :
    ∀ (t : OT) (f : Nat) (L : Array Bool) (al : List Nat) (top : Bool) (F : Nat → Prop) (T : Nat → AV) (h : AH) (a : Act) (w : World) (m : AM), otB ops t f L al top = true → Grow F0 F w0 m0 h0 → Rel F w0 m0 h0 N T h a w m → anyO P ops (Q .normal) t T h →
      (∀ i ∈ al, ∃ f', f = f' + 1 ∧ wpOp P ops (Meets F0 w0 m0 h0 N Q) i (wpAny P .any ops (Meets F0 w0 m0 h0 N Q) f' (L.setIfInBounds i true)) a w) ∧ (top = true → al = [] → Meets F0 w0 m0 h0 N Q .normal a w)
  | .done, f, L, al, top, F, T, h, a, w, m, hB, hG, r, hq => by
    simp only [otB, Bool.and_eq_true, List.isEmpty_iff] at hB
    obtain ⟨h1, rfl⟩ := hB
    exact ⟨fun i hi => by simp at hi, fun _ _ => ⟨T, h, m, F, hq, hG, r⟩⟩
  | .none, f, L, al, top, F, T, h, a, w, m, hB, hG, r, hq => by
    simp only [otB, Bool.and_eq_true, List.isEmpty_iff, Bool.not_eq_true'] at hB
    obtain ⟨h1, rfl⟩ := hB
    exact ⟨fun i hi => by simp at hi, fun ht => by rw [h1] at ht; cases ht⟩
  | .op i t rs, f, L, al, top, F, T, h, a, w, m, hB, hG, r, hq => by
    unfold otB at hB
    split at hB
    · rename_i f' j al'
      simp only [Bool.and_eq_true] at hB
      obtain ⟨hij, hB1, hB2⟩ := hB
      have hij : i = j := Nat.eq_of_beq_eq_true hij
      subst hij
      obtain ⟨⟨o, K, ho, hs, hK⟩, hr⟩ := hq
      refine ⟨fun k hk => ?_, fun _ h1 => by cases h1⟩
      rcases List.mem_cons.1 hk with rfl | hk
      · refine ⟨f', rfl, ?_⟩
        have hmem : o ∈ ops.toList := List.mem_of_getElem? (by simpa using ho : ops.toList[k]? = some o)
        have hdo : dstOk N o = true := List.all_eq_true.1 hd o hmem
        have fin : ∀ (F1 : Nat → Prop) (T1 : Nat → AV) (h1 : AH) (a1 : Act) (w1 : World) (m1 : AM), Grow F0 F1 w0 m0 h0 → Rel F1 w0 m0 h0 N T1 h1 a1 w1 m1 → anyO P ops (Q .normal) t T1 h1 →
            wpAny P .any ops (Meets F0 w0 m0 h0 N Q) f' (L.setIfInBounds k true) a1 w1 := fun F1 T1 h1 a1 w1 m1 hG1 r1 hq1 => by
          obtain ⟨hA, hE⟩ := anyO_sound hg hd t f' _ _ true F1 T1 h1 a1 w1 m1 hB1 hG1 r1 hq1
          cases f' with
          | zero =>
            have hn : Region.ready .any ops (L.setIfInBounds k true) = [] := by
              cases hc : Region.ready .any ops (L.setIfInBounds k true) with
              | nil => rfl
              | cons x xs =>
                obtain ⟨f2, h2, _⟩ := hA x (by rw [hc]; simp)
                cases h2
            exact ⟨hn, hE rfl hn⟩
          | succ f2 =>
            refine ⟨fun hn => hE rfl hn, fun i hi => ?_⟩
            obtain ⟨f3, h3, h4⟩ := hA i hi
            cases h3
            exact h4
        unfold wpOp
        rw [ho]
        simp only
        unfold seqA at hs
        rcases grd_sound (a := a) (fun g t h1 h2 => by rw [r.sz]; exact guardOk_spec hg hmem g t h1 h2) (fun g t _ _ => r.tm t) hs with ⟨hw, hA⟩ | ⟨hw, hA⟩
        · rw [if_pos hw]
          left
          refine (opA_sound r.st.hp r.tm hA).wp (fun v w' ⟨res, h', m', F1, hk, hG1, hs, hv⟩ => ?_)
          exact fin F1 _ _ _ _ _ (r.grow hG hG1) (r.nextG hdo hG1.1 hs hv) (hK _ _ hk)
        · rw [if_neg (by rw [hw]; simp)]
          exact fin F _ _ _ _ _ hG (r.skip hdo) (hK _ _ hA)
      · exact (anyO_sound hg hd rs _ L al' false F T h a w m hB2 hG r hr).1 k hk
    · cases hB
theorem vc_any {n0 : Nat} {Q : Exit → (Nat → AV) → AH → Prop} {id : Nat} {l : List Oper} (t : OT) (hm : P.follows .mixedOrders = true) (hok : textOk N l.toArray = true) (hB : otOk l.toArray t = true) (hs : anyO P l.toArray (Q .normal) t T h) :
    VC P n0 N (.region id l.toArray true) Q T h := fun F w0 m0 h0 a w m hn r => by
  unfold textOk at hok
  simp only [Bool.and_eq_true] at hok
  refine wp_region_any hm ?_
  have hst := Step.drew r.st.hp
  have r' : Rel F w0 m0 h0 N T h a { w with drawn := w.drawn + 1 } m := ⟨fun d => RV.step hst r.st.hp (r.tm d), r.st.trans hst, r.df, r.sz⟩
  obtain ⟨hA, hE⟩ := anyO_sound (F0 := F) hok.1 hok.2 t _ _ _ true F T h a _ m hB (Grow.refl _ _ _ _) r' hs
  generalize hf : l.toArray.size = f at *
  cases f with
  | zero =>
    have hn : Region.ready .any l.toArray (Array.replicate 0 false) = [] := by
      cases hc : Region.ready .any l.toArray (Array.replicate 0 false) with
      | nil => rfl
      | cons x xs =>
        obtain ⟨f2, h2, _⟩ := hA x (by rw [hc]; simp)
        cases h2
    exact ⟨hn, hE rfl hn⟩
  | succ f2 =>
    refine ⟨fun hn => hE rfl hn, fun i hi => ?_⟩
    obtain ⟨f3, h3, h4⟩ := hA i hi
    cases h3
    exact h4
end
def runO (g : Gd) (tab : List (TypeId × TI)) (ops : List Oper) (Q : List (Nat × AV) → EH → Prop) : OT → List (Nat × AV) → EH → Prop
  | .done, l, h => Q l h
  | .none, _, _ => True
  | .op i t r, l, h => (match nth ops i with
    | some o => runS g tab ops (fun l h => runO g tab ops Q t l h) [o] 0 l h
    | none => False) ∧ runO g tab ops Q r l h
def lkO : List (Nat × OT) → Nat → Option OT
  | [], _ => none
  | (k, t) :: l, d => match Nat.beq k d with | true => some t | false => lkO l d
def runC2 (ots : List (Nat × OT)) (g : Gd) (tab : List (TypeId × TI)) : Code → (Exit → List (Nat × AV) → EH → Prop) → List (Nat × AV) → EH → Prop
  | .skip, Q, l, h => Q .normal l h
  | .ret, Q, l, h => Q .ret l h
  | .exit id, Q, l, h => Q (.exit id) l h
  | .seq x y, Q, l, h => runC2 ots g tab x (fun e l h => match e with | .normal => runC2 ots g tab y Q l h | e => Q e l h) l h
  | .cond c x y, Q, l, h => match ev (lkT l) c with
    | .t (.c (.imm (.bool b))) => (match b with | true => runC2 ots g tab x Q l h | false => runC2 ots g tab y Q l h)
    | _ => False
  | .block id c, Q, l, h => runC2 ots g tab c (fun e l h => match e with | .exit i => (match Nat.beq i id with | true => Q .normal l h | false => Q (.exit i) l h) | e => Q e l h) l h
  | .region id ops draw, Q, l, h => match draw with
    | false => runS g tab ops.toList (fun l h => Q .normal l h) ops.toList 0 l h
    | true => match lkO ots id with
      | some t => runO g tab ops.toList (fun l h => Q .normal l h) t l h
      | none => runS g tab ops.toList (fun l h => Q .normal l h) ops.toList (headN ops.toList ops.toList) l h
  | .loop c, Q, l, h => g .L c Q l h
  | _, _, _, _ => False
def codeOk2 (ots : List (Nat × OT)) (N : Nat) : Code → Bool
  | .seq x y => codeOk2 ots N x && codeOk2 ots N y
  | .cond _ x y => codeOk2 ots N x && codeOk2 ots N y
  | .block _ c => codeOk2 ots N c
  | .region id ops draw => textOk N ops && (!draw || (match lkO ots id with | some t => otOk ops t | none => drawB ops (headN ops.toList ops.toList)))
  | .loop c => codeOk2 ots N c
  | _ => true
section
variable {P : Program} {n0 N : Nat} {tab : List (TypeId × TI)}
theorem runO_sound (hf : Fits P tab) {ops : Array Oper} {Q : List (Nat × AV) → EH → Prop} : ∀ (t : OT) (l : List (Nat × AV)) (h : EH), runO (G0 P n0 N) tab ops.toList Q t l h → anyO P ops (QH Q) t (lkT l) (toH h)
  | .done, l, h, hp => ⟨l, h, rfl, rfl, hp⟩
  | .none, _, _, _ => trivial
  | .op i t r, l, h, hp => by
    obtain ⟨h1, h2⟩ := hp
    refine ⟨?_, runO_sound hf r l h h2⟩
    split at h1
    · rename_i o ho
      rw [nth_eq, Array.getElem?_toList] at ho
      have h3 := runS_sound hf [o] 0 l h h1
      refine ⟨o, _, ho, h3, fun T h hk => ?_⟩
      obtain ⟨l', eh, rfl, rfl, hq⟩ := hk
      exact runO_sound hf t l' eh hq
    · exact h1.elim
theorem runC2_sound (hf : Fits P tab) {ots : List (Nat × OT)} : ∀ (c : Code) (Q : Exit → List (Nat × AV) → EH → Prop) (l : List (Nat × AV)) (h : EH), codeOk2 ots N c = true → runC2 ots (G0 P n0 N) tab c Q l h → VC P n0 N c (QE Q) (lkT l) (toH h)
  | .skip, Q, l, h, _, hp => vc_skip ⟨l, h, rfl, rfl, hp⟩
  | .ret, Q, l, h, _, hp => vc_ret ⟨l, h, rfl, rfl, hp⟩
  | .exit id, Q, l, h, _, hp => vc_exit ⟨l, h, rfl, rfl, hp⟩
  | .seq x y, Q, l, h, ho, hp => by
    simp only [codeOk2, Bool.and_eq_true] at ho
    refine vc_seq (vc_mono (fun e T h hq => ?_) (runC2_sound hf x _ l h ho.1 hp))
    obtain ⟨l, eh, rfl, rfl, hq⟩ := hq
    cases e <;> first
      | exact ⟨l, eh, rfl, rfl, hq⟩
      | exact runC2_sound hf y Q l eh ho.2 hq
  | .cond c x y, Q, l, h, ho, hp => by
    simp only [codeOk2, Bool.and_eq_true] at ho
    simp only [runC2] at hp
    split at hp
    · rename_i b hb
      refine vc_cond hb (fun hb => ?_) (fun hb => ?_)
      · subst hb; exact runC2_sound hf x Q l h ho.1 hp
      · subst hb; exact runC2_sound hf y Q l h ho.2 hp
    · exact hp.elim
  | .block id c, Q, l, h, ho, hp => by
    refine vc_block (vc_mono (fun e T h hq => ?_) (runC2_sound hf c _ l h ho hp))
    obtain ⟨l, eh, rfl, rfl, hq⟩ := hq
    cases e <;> first
      | exact ⟨l, eh, rfl, rfl, hq⟩
      | skip
    rename_i i
    simp only [blockQ]
    simp only at hq
    split at hq
    · rename_i hb
      rw [if_pos (bt hb)]
      exact ⟨l, eh, rfl, rfl, hq⟩
    · rename_i hb
      rw [if_neg (fun he => by subst he; simp at hb)]
      exact ⟨l, eh, rfl, rfl, hq⟩
  | .region id ops draw, Q, l, h, ho, hp => by
    obtain ⟨os⟩ := ops
    simp only [codeOk2, Bool.and_eq_true, Bool.or_eq_true, Bool.not_eq_true'] at ho
    cases draw with
    | false => exact vc_region ho.1 (runS_sound hf os 0 l h hp)
    | true =>
      obtain ⟨h1, h2⟩ := ho
      rcases h2 with h2 | h2
      · cases h2
      · simp only [runC2] at hp
        cases hl : lkO ots id with
        | some t =>
          rw [hl] at h2 hp
          exact vc_any t hf.mix h1 h2 (runO_sound hf (ops := os.toArray) t l h hp)
        | none =>
          rw [hl] at h2 hp
          exact vc_draw _ hf.mix h1 h2 (runS_sound hf os _ l h hp)
  | .loop c, Q, l, h, _, hp => hp
  | .rangeFunc _ _ _ _, _, _, _, _, hp => hp.elim
  | .scope _, _, _, _, _, hp => hp.elim
  | .label _, _, _, _, _, hp => hp.elim
  | .goto _, _, _, _, _, hp => hp.elim
  | .refuse _, _, _, _, _, hp => hp.elim
theorem con_run2 {ots : List (Nat × OT)} {f : FuncId} {fn : Func} {c : Code} {args : List AT} {Post : AV → AH → Prop} {h : EH} (hfit : Fits P tab) (hf : P.funcs[f]? = some fn) (hb : fn.body = some c) (hnm : (fn.name == "runtime.NumGoroutine") = false) (hn : args.length ≤ fn.ntmps)
    (hok : codeOk2 ots fn.ntmps c = true) (hv : ∀ (g : Gd) (F : List AT → EH → Prop), g = G0 P (toH h).length fn.ntmps → F = FinP (toH h).length Post → runC2 ots g tab c (finG tab fn.results.toList F) (argL args 0) h) : Con P f (toH h) args Post := by
  refine con_of_vc hf hb hnm hn (vc_forget (T' := lkT (argL args 0)) (fun d => ?_) (vc_mono (fun e T h hq => ?_) (runC2_sound hfit c _ _ h hok (hv _ _ rfl rfl))))
  · rcases lk_argL args 0 d with h1 | ⟨x, h1, h2, h3⟩
    · exact .inl h1
    · refine .inr ?_
      rw [h3]
      simp only [Nat.sub_zero] at h1
      simp only [T0, h1]
  · obtain ⟨l, eh, rfl, rfl, hq⟩ := hq
    cases e <;> first
      | exact hq.elim
      | exact resG_sound hfit _ _ hq
theorem pcon_run2 (ots : List (Nat × OT)) {f : FuncId} {fn : Func} {c : Code} {args : List AT} {Post : AV → List AB → Prop} (hfit : Fits P tab) (hf : P.funcs[f]? = some fn) (hb : fn.body = some c) (hnm : (fn.name == "runtime.NumGoroutine") = false) (hn : Nat.ble args.length fn.ntmps = true)
    (hok : codeOk2 ots fn.ntmps c = true) (hv : ∀ (g : Gd) (F : List AT → EH → Prop), g = G0 P 0 fn.ntmps → F = FinP 0 (fun res h' => ∃ rows, h' = rows.map .live ∧ Post res rows) → runC2 ots g tab c (finG tab fn.results.toList F) (argL args 0) []) : PCon P f args Post :=
  con_run2 (h := []) hfit hf hb hnm (bl hn) hok hv
end
theorem goNA1 {P : Program} {n0 N : Nat} {g : Gd} (hg : g = G0 P n0 N) {t k by_ : Nat} {es : List (List AC)} {y : List AC} {q : Prop} (hk : y.length = k) (hb : by_ ≤ 65536) (hl : es.length ≤ 1048576) (hq : q) :
    g .N ((∀ x, x ∈ [y] → x.length = k) ∧ ((AB.mk t k es).es.length + [y].length) * by_ ≤ 140737488355328 ∧ (AB.mk t k es).es.length + [y].length ≤ 4611686018427387904) q :=
  goN hg ⟨fun x hx => by rw [List.mem_singleton.1 hx]; exact hk, Nat.le_trans (Nat.mul_le_mul (show es.length + 1 ≤ 1048577 by omega) hb) (by decide), by show es.length + 1 ≤ _; omega⟩ hq
end Go.Proofs.YtgcofllgbdcicaaGreat.Am

/- Insets. -/
namespace Go.Proofs.YtgcofllgbdcicaaGreat
open Go.ChangeShapes Go.WideShapes Go.ChangeAt Go.RowKit Am
set_option linter.unusedVariables false
set_option linter.unusedSimpArgs false
set_option maxRecDepth 100000

theorem rt_agg_inv {F : Nat → Prop} {w : World} {a : Array Value} {u : Value} (h : RT F w [] [] (.agg (lc a)) u) : u = .agg a := by
  obtain ⟨vs, rfl, hl, hc⟩ := h
  have hl' : vs.length = a.toList.length := by rw [hl]; simp [lc]
  have : vs = a.toList := by
    refine List.ext_getElem? fun i => ?_
    by_cases hi : i < a.toList.length
    · have h1 := List.getElem?_eq_getElem hi
      obtain ⟨u, hu, _, hr⟩ := hc i (.imm a.toList[i]) (by simp [lc, h1])
      rw [hu, h1]
      exact congrArg some hr
    · rw [List.getElem?_eq_none (by omega), List.getElem?_eq_none (by omega)]
  rw [this]
theorem argsV_nil {F : Nat → Prop} {w : World} : ∀ (j : Nat) (x : AT) (u : Value), ([] : List AT)[j]? = some x → RT F w [] [] x u → ([] : List Value)[j]? = some u := fun j x u h => by simp at h
theorem argsV_cons {F : Nat → Prop} {w : World} {x : AT} {v : Value} {xs : List AT} {vs : List Value} (h1 : ∀ u, RT F w [] [] x u → u = v) (h2 : ∀ (j : Nat) (x : AT) (u : Value), xs[j]? = some x → RT F w [] [] x u → vs[j]? = some u) :
    ∀ (j : Nat) (y : AT) (u : Value), (x :: xs)[j]? = some y → RT F w [] [] y u → (v :: vs)[j]? = some u := fun j y u h hr => by
  cases j with
  | zero => simp only [List.getElem?_cons_zero, Option.some.injEq] at h; subst h; rw [h1 u hr]; rfl
  | succ j => exact h2 j y u (by simpa using h) hr
theorem impl_SideOf_a (s : GSides) (sd : Int) (rtl : Bool) : PCon Tryz.prog 131 [.agg (lc (GSides.c s)), ai sd, abl rtl] fun res rows => res = .t (agV (sideV s sd rtl)) ∧ rows = [] :=
  pcon_of_calls (us := [.agg (GSides.c s), .int .i64 sd, .bool rtl]) (v := .agg #[.int .i64 (sideV s sd rtl).kind, .int .i64 (sideV s sd rtl).n]) (by kernel_rfl) rfl
    (fun F w => argsV_cons (fun u h => rt_agg_inv h) (argsV_cons (fun u h => h) (argsV_cons (fun u h => h) argsV_nil)))
    (fun F w => ⟨[.int .i64 (sideV s sd rtl).kind, .int .i64 (sideV s sd rtl).n], rfl, rfl, fun j c hj => by
      match j, hj with
      | 0, hj => cases hj; exact ⟨_, rfl, rfl, rfl⟩
      | 1, hj => cases hj; exact ⟨_, rfl, rfl, rfl⟩⟩)
    (fun w => impl_SideOf_c s sd rtl w)
def insN (s : GStyle) (sd : Int) (rtl : Bool) (base : Int) : Int := if kn (sideV s.inset sd rtl) base = false then 0 else sg (lenV (sideV s.inset sd rtl) base)
def insB (s : GStyle) (sd : Int) (rtl : Bool) (base : Int) : Bool := kn (sideV s.inset sd rtl) base
set_option maxHeartbeats 4000000 in
theorem spec_InsetOf_a (s : GStyle) (sd : Int) (rtl : Bool) (base : Int) : PCon Tryz.prog 95 [.agg (lc (GStyle.c s)), ai sd, abl rtl, ai base] fun res rows => res = .tup [ai (insN s sd rtl base), abl (insB s sd rtl base)] ∧ rows = [] := by
  obtain ⟨a0, a1, a2, a3, a4, a5, a6, a7, a8, a9, a10, ⟨a11, a12⟩, ⟨a13, a14⟩, ⟨a15, a16⟩, ⟨a17, a18⟩, ⟨a19, a20⟩, ⟨a21, a22⟩, ⟨a23, a24⟩, a25, ⟨⟨a26, a27⟩, ⟨a28, a29⟩, ⟨a30, a31⟩, ⟨a32, a33⟩, ⟨a34, a35⟩, ⟨a36, a37⟩⟩, ⟨⟨a38, a39⟩, ⟨a40, a41⟩, ⟨a42, a43⟩, ⟨a44, a45⟩, ⟨a46, a47⟩, ⟨a48, a49⟩⟩, ⟨a50, a51, a52, a53⟩, ⟨a54, a55, a56, a57⟩, a58, a59⟩ := s
  refine pcon_run (c := body Tryz.f95) fits Tryz.func95 (by kernel_rfl) (by kernel_rfl) (by rfl) (by kernel_rfl) fun g F hg hF => ?_
  cbv
  (first | refine callV hg (spec_SideOf_a ⟨⟨a38, a39⟩, ⟨a40, a41⟩, ⟨a42, a43⟩, ⟨a44, a45⟩, ⟨a46, a47⟩, ⟨a48, a49⟩⟩ _ _) rfl (fun R S hR hS => ?_) | refine callVP hg (spec_SideOf_a ⟨⟨a38, a39⟩, ⟨a40, a41⟩, ⟨a42, a43⟩, ⟨a44, a45⟩, ⟨a46, a47⟩, ⟨a48, a49⟩⟩ _ _) rfl (fun R S hR hS => ?_))
  cbv
  repeat' (first | (refine callB hg (spec_Known_a _ _ _) rfl (fun R0 hR0 => ?_); cases R0 <;> cbv) | (refine callBP hg (spec_Known_a _ _ _) rfl (fun R0 hR0 => ?_); cases R0 <;> cbv) | (refine callI hg (spec_LengthOf_a _ _ _) rfl (fun R0 hR0 => ?_); cbv) | (refine callIP hg (spec_LengthOf_a _ _ _) rfl (fun R0 hR0 => ?_); cbv) | (refine callI hg (spec_l02Len_a _) rfl (fun R0 hR0 => ?_); cbv) | (refine callIP hg (spec_l02Len_a _) rfl (fun R0 hR0 => ?_); cbv) | (split <;> rename_i hh <;> (try rw [hh]) <;> (try simp only [goLss hg, goLeq hg, goGtr hg, goGeq hg, goEql hg, goNeq hg, goEqlB hg, goNeqB hg, goAdd hg, goSub hg, goMul hg, goQuo hg, goRem hg, goNg hg, goMn hg, goMx hg, beq_iff_eq, bne_iff_ne, beq_eq_false_iff_ne, bne_eq_false_iff_eq, decide_eq_true_eq, decide_eq_false_iff_not, ne_eq, Decidable.not_not] at hh) <;> cbv))
  all_goals exact fin0q hF (by simp only [insN, insB]; subst_vars; simp_all)
set_option maxHeartbeats 4000000 in
theorem impl_InsetOf_a (s : GStyle) (sd : Int) (rtl : Bool) (base : Int) : PCon Tryz.prog 151 [.agg (lc (GStyle.c s)), ai sd, abl rtl, ai base] fun res rows => res = .tup [ai (insN s sd rtl base), abl (insB s sd rtl base)] ∧ rows = [] := by
  obtain ⟨a0, a1, a2, a3, a4, a5, a6, a7, a8, a9, a10, ⟨a11, a12⟩, ⟨a13, a14⟩, ⟨a15, a16⟩, ⟨a17, a18⟩, ⟨a19, a20⟩, ⟨a21, a22⟩, ⟨a23, a24⟩, a25, ⟨⟨a26, a27⟩, ⟨a28, a29⟩, ⟨a30, a31⟩, ⟨a32, a33⟩, ⟨a34, a35⟩, ⟨a36, a37⟩⟩, ⟨⟨a38, a39⟩, ⟨a40, a41⟩, ⟨a42, a43⟩, ⟨a44, a45⟩, ⟨a46, a47⟩, ⟨a48, a49⟩⟩, ⟨a50, a51, a52, a53⟩, ⟨a54, a55, a56, a57⟩, a58, a59⟩ := s
  refine pcon_run (c := body Tryz.f151) fits Tryz.func151 (by kernel_rfl) (by kernel_rfl) (by rfl) (by kernel_rfl) fun g F hg hF => ?_
  cbv
  (first | refine callV hg (impl_SideOf_a ⟨⟨a38, a39⟩, ⟨a40, a41⟩, ⟨a42, a43⟩, ⟨a44, a45⟩, ⟨a46, a47⟩, ⟨a48, a49⟩⟩ _ _) rfl (fun R S hR hS => ?_) | refine callVP hg (impl_SideOf_a ⟨⟨a38, a39⟩, ⟨a40, a41⟩, ⟨a42, a43⟩, ⟨a44, a45⟩, ⟨a46, a47⟩, ⟨a48, a49⟩⟩ _ _) rfl (fun R S hR hS => ?_))
  cbv
  repeat' (first | (refine callB hg (impl_Known_a _ _ _) rfl (fun R0 hR0 => ?_); cases R0 <;> cbv) | (refine callBP hg (impl_Known_a _ _ _) rfl (fun R0 hR0 => ?_); cases R0 <;> cbv) | (refine callI hg (impl_LengthOf_a _ _ _) rfl (fun R0 hR0 => ?_); cbv) | (refine callIP hg (impl_LengthOf_a _ _ _) rfl (fun R0 hR0 => ?_); cbv) | (refine callI hg (impl_signed_a _) rfl (fun R0 hR0 => ?_); cbv) | (refine callIP hg (impl_signed_a _) rfl (fun R0 hR0 => ?_); cbv) | (split <;> rename_i hh <;> (try rw [hh]) <;> (try simp only [goLss hg, goLeq hg, goGtr hg, goGeq hg, goEql hg, goNeq hg, goEqlB hg, goNeqB hg, goAdd hg, goSub hg, goMul hg, goQuo hg, goRem hg, goNg hg, goMn hg, goMx hg, beq_iff_eq, bne_iff_ne, beq_eq_false_iff_ne, bne_eq_false_iff_eq, decide_eq_true_eq, decide_eq_false_iff_not, ne_eq, Decidable.not_not] at hh) <;> cbv))
  all_goals exact fin0q hF (by simp only [insN, insB]; subst_vars; simp_all)

end Go.Proofs.YtgcofllgbdcicaaGreat

/- Boxes that are placed apart: their margins, insets, spaces. -/
namespace Go.Proofs.YtgcofllgbdcicaaGreat
open Go.ChangeShapes Go.WideShapes Go.ChangeAt Go.RowKit Am
set_option linter.unusedVariables false
set_option linter.unusedSimpArgs false
set_option maxRecDepth 100000

def marN (s : GSides) (sd : Int) (rtl : Bool) (base : Int) : Int := if kn (sideV s sd rtl) base = false then 0 else sg (lenV (sideV s sd rtl) base)
def innS (s : GSpace) (less : Int) : GSpace := if s.mode = 1 then s else ⟨s.mode, cl (wrap64 (cl s.n - cl less))⟩
def ratS (s : GStyle) (w : Bool) (o : Int) : Int := if s.ratio ≤ 0 ∨ o < 0 then -1 else if w then cl (fdv (wrap64 (cl o * cl s.ratio)) 64) else cl (fdv (wrap64 (cl o * 64)) (cl s.ratio))
def marS (s : GStyle) (w rtl : Bool) (base : Int) : Int := if w then wrap64 (marN s.margin 0 rtl base + marN s.margin 2 rtl base) else wrap64 (marN s.margin 1 rtl base + marN s.margin 3 rtl base)
def betN (s : GStyle) (a b : Int) (rtl : Bool) (base mb : Int) : Int := if insB s a rtl base = false ∨ insB s b rtl base = false then -1 else cl (wrap64 (base - insN s a rtl base - insN s b rtl base - marN s.margin a rtl mb - marN s.margin b rtl mb))
def knoN (s : GStyle) (w rtl : Bool) (base mb : Int) : Int := if fixO s w base = -1 then (if w then betN s 0 2 rtl base mb else betN s 1 3 rtl base mb) else fixO s w base
def rooS (s : GStyle) (w : Bool) (base n m : Int) : GSpace := if n = -1 then innS ⟨2, base⟩ m else ⟨3, bndO s w base n⟩
def apW (s : GStyle) (rtl : Bool) (wide high : Int) : Int := if knoN s true rtl wide wide = -1 then ratS s true (knoN s false rtl high wide) else knoN s true rtl wide wide
def apH (s : GStyle) (rtl : Bool) (wide high : Int) : Int := if knoN s false rtl high wide = -1 then ratS s false (apW s rtl wide high) else knoN s false rtl high wide
def apX (s : GStyle) (rtl : Bool) (wide high : Int) : GSpace := rooS s true wide (apW s rtl wide high) (marS s true rtl wide)
def apY (s : GStyle) (rtl : Bool) (wide high : Int) : GSpace := rooS s false high (apH s rtl wide high) (marS s false rtl wide)
/-- A box apart: its parent's style, its own, and what else it holds. -/
def apC (p s : GStyle) (rtl : Bool) (wide high : Int) : List AC := lc (GStyle.c p) ++ (lc (GStyle.c s) ++ [.imm (.bool rtl), .imm (.int .i64 wide), .imm (.int .i64 high)])
theorem wrap_bet (a b c d e : Int) : wrap64 (wrap64 (wrap64 (wrap64 (a - b) - c) - d) - e) = wrap64 (a - b - c - d - e) := by unfold wrap64; omega
theorem wrap_bet2 (a b c d e : Int) : wrap64 (wrap64 (wrap64 (a - b) - c) - wrap64 (d + e)) = wrap64 (a - b - c - d - e) := by
  unfold wrap64; omega
set_option maxHeartbeats 4000000 in
theorem spec_MarginOf_a (s : GSides) (sd : Int) (rtl : Bool) (base : Int) : PCon Tryz.prog 94 [.agg (lc (GSides.c s)), ai sd, abl rtl, ai base] fun res rows => res = .t (ai (marN s sd rtl base)) ∧ rows = [] := by
  obtain ⟨⟨a0, a1⟩, ⟨a2, a3⟩, ⟨a4, a5⟩, ⟨a6, a7⟩, ⟨a8, a9⟩, ⟨a10, a11⟩⟩ := s
  refine pcon_run (c := body Tryz.f94) fits Tryz.func94 (by kernel_rfl) (by kernel_rfl) (by rfl) (by kernel_rfl) fun g F hg hF => ?_
  cbv
  repeat' (first | (refine callV hg (spec_SideOf_a (⟨⟨a0, a1⟩, ⟨a2, a3⟩, ⟨a4, a5⟩, ⟨a6, a7⟩, ⟨a8, a9⟩, ⟨a10, a11⟩⟩ : GSides) _ _) rfl (fun R0 R1 hR0 hR1 => ?_); cbv) | (refine callVP hg (spec_SideOf_a (⟨⟨a0, a1⟩, ⟨a2, a3⟩, ⟨a4, a5⟩, ⟨a6, a7⟩, ⟨a8, a9⟩, ⟨a10, a11⟩⟩ : GSides) _ _) rfl (fun R0 R1 hR0 hR1 => ?_); cbv) | (refine callB hg (spec_Known_a _ _ _) rfl (fun R0 hR0 => ?_); cases R0 <;> cbv) | (refine callBP hg (spec_Known_a _ _ _) rfl (fun R0 hR0 => ?_); cases R0 <;> cbv) | (refine callI hg (spec_LengthOf_a _ _ _) rfl (fun R0 hR0 => ?_); cbv) | (refine callIP hg (spec_LengthOf_a _ _ _) rfl (fun R0 hR0 => ?_); cbv) | (refine callI hg (spec_l02Len_a _) rfl (fun R0 hR0 => ?_); cbv) | (refine callIP hg (spec_l02Len_a _) rfl (fun R0 hR0 => ?_); cbv) | (split <;> rename_i hh <;> (try rw [hh]) <;> (try simp only [goLss hg, goLeq hg, goGtr hg, goGeq hg, goEql hg, goNeq hg, goEqlB hg, goNeqB hg, goAdd hg, goSub hg, goMul hg, goQuo hg, goRem hg, goNg hg, goMn hg, goMx hg, beq_iff_eq, bne_iff_ne, beq_eq_false_iff_ne, bne_eq_false_iff_eq, decide_eq_true_eq, decide_eq_false_iff_not, ne_eq, Decidable.not_not] at hh) <;> cbv))
  all_goals exact fin0i hF (by simp only [marN]; subst_vars; simp_all)
set_option maxHeartbeats 4000000 in
theorem impl_MarginOf_a (s : GSides) (sd : Int) (rtl : Bool) (base : Int) : PCon Tryz.prog 108 [.agg (lc (GSides.c s)), ai sd, abl rtl, ai base] fun res rows => res = .t (ai (marN s sd rtl base)) ∧ rows = [] := by
  obtain ⟨⟨a0, a1⟩, ⟨a2, a3⟩, ⟨a4, a5⟩, ⟨a6, a7⟩, ⟨a8, a9⟩, ⟨a10, a11⟩⟩ := s
  refine pcon_run (c := body Tryz.f108) fits Tryz.func108 (by kernel_rfl) (by kernel_rfl) (by rfl) (by kernel_rfl) fun g F hg hF => ?_
  cbv
  repeat' (first | (refine callV hg (impl_SideOf_a (⟨⟨a0, a1⟩, ⟨a2, a3⟩, ⟨a4, a5⟩, ⟨a6, a7⟩, ⟨a8, a9⟩, ⟨a10, a11⟩⟩ : GSides) _ _) rfl (fun R0 R1 hR0 hR1 => ?_); cbv) | (refine callVP hg (impl_SideOf_a (⟨⟨a0, a1⟩, ⟨a2, a3⟩, ⟨a4, a5⟩, ⟨a6, a7⟩, ⟨a8, a9⟩, ⟨a10, a11⟩⟩ : GSides) _ _) rfl (fun R0 R1 hR0 hR1 => ?_); cbv) | (refine callB hg (impl_Known_a _ _ _) rfl (fun R0 hR0 => ?_); cases R0 <;> cbv) | (refine callBP hg (impl_Known_a _ _ _) rfl (fun R0 hR0 => ?_); cases R0 <;> cbv) | (refine callI hg (impl_LengthOf_a _ _ _) rfl (fun R0 hR0 => ?_); cbv) | (refine callIP hg (impl_LengthOf_a _ _ _) rfl (fun R0 hR0 => ?_); cbv) | (refine callI hg (impl_signed_a _) rfl (fun R0 hR0 => ?_); cbv) | (refine callIP hg (impl_signed_a _) rfl (fun R0 hR0 => ?_); cbv) | (split <;> rename_i hh <;> (try rw [hh]) <;> (try simp only [goLss hg, goLeq hg, goGtr hg, goGeq hg, goEql hg, goNeq hg, goEqlB hg, goNeqB hg, goAdd hg, goSub hg, goMul hg, goQuo hg, goRem hg, goNg hg, goMn hg, goMx hg, beq_iff_eq, bne_iff_ne, beq_eq_false_iff_ne, bne_eq_false_iff_eq, decide_eq_true_eq, decide_eq_false_iff_not, ne_eq, Decidable.not_not] at hh) <;> cbv))
  all_goals exact fin0i hF (by simp only [marN]; subst_vars; simp_all)
set_option maxHeartbeats 4000000 in
theorem spec_InnerOf_a (m n less : Int) : PCon Tryz.prog 70 [.agg [.imm (.int .i64 m), .imm (.int .i64 n)], ai less] fun res rows => res = .t (agP (innS ⟨m, n⟩ less)) ∧ rows = [] := by
  refine pcon_run (c := body Tryz.f70) fits Tryz.func70 (by kernel_rfl) (by kernel_rfl) (by rfl) (by kernel_rfl) fun g F hg hF => ?_
  cbv
  repeat' (first | (refine callI hg (spec_Clamped_a _) rfl (fun R0 hR0 => ?_); cbv) | (refine callIP hg (spec_Clamped_a _) rfl (fun R0 hR0 => ?_); cbv) | (split <;> rename_i hh <;> (try rw [hh]) <;> (try simp only [goLss hg, goLeq hg, goGtr hg, goGeq hg, goEql hg, goNeq hg, goEqlB hg, goNeqB hg, goAdd hg, goSub hg, goMul hg, goQuo hg, goRem hg, goNg hg, goMn hg, goMx hg, beq_iff_eq, bne_iff_ne, beq_eq_false_iff_ne, bne_eq_false_iff_eq, decide_eq_true_eq, decide_eq_false_iff_not, ne_eq, Decidable.not_not] at hh) <;> cbv))
  all_goals exact fin0v hF (by simp only [innS, (goSub hg)] at *; subst_vars; simp_all)
set_option maxHeartbeats 4000000 in
theorem impl_InnerOf_a (m n less : Int) : PCon Tryz.prog 56 [.agg [.imm (.int .i64 m), .imm (.int .i64 n)], ai less] fun res rows => res = .t (agP (innS ⟨m, n⟩ less)) ∧ rows = [] := by
  refine pcon_run (c := body Tryz.f56) fits Tryz.func56 (by kernel_rfl) (by kernel_rfl) (by rfl) (by kernel_rfl) fun g F hg hF => ?_
  cbv
  repeat' (first | (refine callI hg (impl_Clamped_a _) rfl (fun R0 hR0 => ?_); cbv) | (refine callIP hg (impl_Clamped_a _) rfl (fun R0 hR0 => ?_); cbv) | (split <;> rename_i hh <;> (try rw [hh]) <;> (try simp only [goLss hg, goLeq hg, goGtr hg, goGeq hg, goEql hg, goNeq hg, goEqlB hg, goNeqB hg, goAdd hg, goSub hg, goMul hg, goQuo hg, goRem hg, goNg hg, goMn hg, goMx hg, beq_iff_eq, bne_iff_ne, beq_eq_false_iff_ne, bne_eq_false_iff_eq, decide_eq_true_eq, decide_eq_false_iff_not, ne_eq, Decidable.not_not] at hh) <;> cbv))
  all_goals exact fin0v hF (by simp only [innS, (goSub hg)] at *; subst_vars; simp_all)
set_option maxHeartbeats 4000000 in
theorem spec_ByRatio_a (s : GStyle) (w : Bool) (o : Int) : PCon Tryz.prog 44 [.agg (lc (GStyle.c s)), abl w, ai o] fun res rows => res = .t (ai (ratS s w o)) ∧ rows = [] := by
  obtain ⟨a0, a1, a2, a3, a4, a5, a6, a7, a8, a9, a10, ⟨a11, a12⟩, ⟨a13, a14⟩, ⟨a15, a16⟩, ⟨a17, a18⟩, ⟨a19, a20⟩, ⟨a21, a22⟩, ⟨a23, a24⟩, a25, ⟨⟨a26, a27⟩, ⟨a28, a29⟩, ⟨a30, a31⟩, ⟨a32, a33⟩, ⟨a34, a35⟩, ⟨a36, a37⟩⟩, ⟨⟨a38, a39⟩, ⟨a40, a41⟩, ⟨a42, a43⟩, ⟨a44, a45⟩, ⟨a46, a47⟩, ⟨a48, a49⟩⟩, ⟨a50, a51, a52, a53⟩, ⟨a54, a55, a56, a57⟩, a58, a59⟩ := s
  cases w <;> (refine pcon_run (c := body Tryz.f44) fits Tryz.func44 (by kernel_rfl) (by kernel_rfl) (by rfl) (by kernel_rfl) fun g F hg hF => ?_; cbv; repeat' (first | (refine callI hg (spec_Clamped_a _) rfl (fun R0 hR0 => ?_); cbv) | (refine callIP hg (spec_Clamped_a _) rfl (fun R0 hR0 => ?_); cbv) | (refine callI hg (spec_FloorDiv_a _ _) rfl (fun R0 hR0 => ?_); cbv) | (refine callIP hg (spec_FloorDiv_a _ _) rfl (fun R0 hR0 => ?_); cbv) | (split <;> rename_i hh <;> (try rw [hh]) <;> (try simp only [goLss hg, goLeq hg, goGtr hg, goGeq hg, goEql hg, goNeq hg, goEqlB hg, goNeqB hg, goAdd hg, goSub hg, goMul hg, goQuo hg, goRem hg, goNg hg, goMn hg, goMx hg, beq_iff_eq, bne_iff_ne, beq_eq_false_iff_ne, bne_eq_false_iff_eq, decide_eq_true_eq, decide_eq_false_iff_not, ne_eq, Decidable.not_not] at hh) <;> cbv)))
  all_goals exact fin0i hF (by simp only [ratS, (goMul hg)] at *; subst_vars; (try simp_all); (try (intro hx; omega)))
set_option maxHeartbeats 4000000 in
theorem impl_ByRatio_a (s : GStyle) (w : Bool) (o : Int) : PCon Tryz.prog 55 [.agg (lc (GStyle.c s)), abl w, ai o] fun res rows => res = .t (ai (ratS s w o)) ∧ rows = [] := by
  obtain ⟨a0, a1, a2, a3, a4, a5, a6, a7, a8, a9, a10, ⟨a11, a12⟩, ⟨a13, a14⟩, ⟨a15, a16⟩, ⟨a17, a18⟩, ⟨a19, a20⟩, ⟨a21, a22⟩, ⟨a23, a24⟩, a25, ⟨⟨a26, a27⟩, ⟨a28, a29⟩, ⟨a30, a31⟩, ⟨a32, a33⟩, ⟨a34, a35⟩, ⟨a36, a37⟩⟩, ⟨⟨a38, a39⟩, ⟨a40, a41⟩, ⟨a42, a43⟩, ⟨a44, a45⟩, ⟨a46, a47⟩, ⟨a48, a49⟩⟩, ⟨a50, a51, a52, a53⟩, ⟨a54, a55, a56, a57⟩, a58, a59⟩ := s
  cases w <;> (refine pcon_run (c := body Tryz.f55) fits Tryz.func55 (by kernel_rfl) (by kernel_rfl) (by rfl) (by kernel_rfl) fun g F hg hF => ?_; cbv; repeat' (first | (refine callI hg (impl_Clamped_a _) rfl (fun R0 hR0 => ?_); cbv) | (refine callIP hg (impl_Clamped_a _) rfl (fun R0 hR0 => ?_); cbv) | (refine callI hg (impl_FloorDiv_a _ _) rfl (fun R0 hR0 => ?_); cbv) | (refine callIP hg (impl_FloorDiv_a _ _) rfl (fun R0 hR0 => ?_); cbv) | (split <;> rename_i hh <;> (try rw [hh]) <;> (try simp only [goLss hg, goLeq hg, goGtr hg, goGeq hg, goEql hg, goNeq hg, goEqlB hg, goNeqB hg, goAdd hg, goSub hg, goMul hg, goQuo hg, goRem hg, goNg hg, goMn hg, goMx hg, beq_iff_eq, bne_iff_ne, beq_eq_false_iff_ne, bne_eq_false_iff_eq, decide_eq_true_eq, decide_eq_false_iff_not, ne_eq, Decidable.not_not] at hh) <;> cbv)))
  all_goals exact fin0i hF (by simp only [ratS, (goMul hg)] at *; subst_vars; (try simp_all); (try (intro hx; omega)))
theorem impl_sizesFit_a (w h : Int) : PCon Tryz.prog 25 [ai w, ai h] fun res rows => res = .t (abl (rng w 0 1048576 && rng h 0 1048576)) ∧ rows = [] := by
  refine pcon_run (c := body Tryz.f25) fits Tryz.func25 (by kernel_rfl) (by kernel_rfl) (by rfl) (by kernel_rfl) fun g F hg hF => ?_
  cbv
  repeat' (first | (refine callB hg (impl_in_r _ _ _) rfl (fun R0 hR0 => ?_); cases R0 <;> cbv) | (refine callBP hg (impl_in_r _ _ _) rfl (fun R0 hR0 => ?_); cases R0 <;> cbv) | (split <;> rename_i hh <;> (try rw [hh]) <;> (try simp only [goLss hg, goLeq hg, goGtr hg, goGeq hg, goEql hg, goNeq hg, goEqlB hg, goNeqB hg, goAdd hg, goSub hg, goMul hg, goQuo hg, goRem hg, goNg hg, goMn hg, goMx hg, beq_iff_eq, bne_iff_ne, beq_eq_false_iff_ne, bne_eq_false_iff_eq, decide_eq_true_eq, decide_eq_false_iff_not, ne_eq, Decidable.not_not] at hh) <;> cbv))
  all_goals exact fin0b hF (by simp_all)
set_option maxHeartbeats 4000000 in
theorem spec_l19Margins_a (s : GStyle) (w rtl : Bool) (base : Int) : PCon Tryz.prog 42 [.agg (lc (GStyle.c s)), abl w, abl rtl, ai base] fun res rows => res = .t (ai (marS s w rtl base)) ∧ rows = [] := by
  obtain ⟨b0, b1, b2, b3, b4, b5, b6, b7, b8, b9, b10, ⟨b11, b12⟩, ⟨b13, b14⟩, ⟨b15, b16⟩, ⟨b17, b18⟩, ⟨b19, b20⟩, ⟨b21, b22⟩, ⟨b23, b24⟩, b25, ⟨⟨b26, b27⟩, ⟨b28, b29⟩, ⟨b30, b31⟩, ⟨b32, b33⟩, ⟨b34, b35⟩, ⟨b36, b37⟩⟩, ⟨⟨b38, b39⟩, ⟨b40, b41⟩, ⟨b42, b43⟩, ⟨b44, b45⟩, ⟨b46, b47⟩, ⟨b48, b49⟩⟩, ⟨b50, b51, b52, b53⟩, ⟨b54, b55, b56, b57⟩, b58, b59⟩ := s
  cases w <;> (refine pcon_run (c := body Tryz.f42) fits Tryz.func42 (by kernel_rfl) (by kernel_rfl) (by rfl) (by kernel_rfl) fun g F hg hF => ?_; cbv; repeat' (first | (refine callI hg (spec_MarginOf_a (⟨⟨b26, b27⟩, ⟨b28, b29⟩, ⟨b30, b31⟩, ⟨b32, b33⟩, ⟨b34, b35⟩, ⟨b36, b37⟩⟩ : GSides) _ _ _) rfl (fun R0 hR0 => ?_); cbv) | (refine callIP hg (spec_MarginOf_a (⟨⟨b26, b27⟩, ⟨b28, b29⟩, ⟨b30, b31⟩, ⟨b32, b33⟩, ⟨b34, b35⟩, ⟨b36, b37⟩⟩ : GSides) _ _ _) rfl (fun R0 hR0 => ?_); cbv) | (split <;> rename_i hh <;> (try rw [hh]) <;> (try simp only [goLss hg, goLeq hg, goGtr hg, goGeq hg, goEql hg, goNeq hg, goEqlB hg, goNeqB hg, goAdd hg, goSub hg, goMul hg, goQuo hg, goRem hg, goNg hg, goMn hg, goMx hg, beq_iff_eq, bne_iff_ne, beq_eq_false_iff_ne, bne_eq_false_iff_eq, decide_eq_true_eq, decide_eq_false_iff_not, ne_eq, Decidable.not_not] at hh) <;> cbv)))
  all_goals exact fin0i hF (by simp only [marS, (goAdd hg)] at *; subst_vars; simp_all)
set_option maxHeartbeats 4000000 in
theorem spec_l19Room_a (s : GStyle) (w : Bool) (base n m : Int) : PCon Tryz.prog 45 [.agg (lc (GStyle.c s)), abl w, ai base, ai n, ai m] fun res rows => res = .t (agP (rooS s w base n m)) ∧ rows = [] := by
  obtain ⟨a0, a1, a2, a3, a4, a5, a6, a7, a8, a9, a10, ⟨a11, a12⟩, ⟨a13, a14⟩, ⟨a15, a16⟩, ⟨a17, a18⟩, ⟨a19, a20⟩, ⟨a21, a22⟩, ⟨a23, a24⟩, a25, ⟨⟨a26, a27⟩, ⟨a28, a29⟩, ⟨a30, a31⟩, ⟨a32, a33⟩, ⟨a34, a35⟩, ⟨a36, a37⟩⟩, ⟨⟨a38, a39⟩, ⟨a40, a41⟩, ⟨a42, a43⟩, ⟨a44, a45⟩, ⟨a46, a47⟩, ⟨a48, a49⟩⟩, ⟨a50, a51, a52, a53⟩, ⟨a54, a55, a56, a57⟩, a58, a59⟩ := s
  refine pcon_run (c := body Tryz.f45) fits Tryz.func45 (by kernel_rfl) (by kernel_rfl) (by rfl) (by kernel_rfl) fun g F hg hF => ?_
  cbv
  repeat' (first | (refine callV hg (spec_InnerOf_a _ _ _) rfl (fun R0 R1 hR0 hR1 => ?_); cbv) | (refine callVP hg (spec_InnerOf_a _ _ _) rfl (fun R0 R1 hR0 hR1 => ?_); cbv) | (refine callI hg (spec_Bounded_a (⟨a0, a1, a2, a3, a4, a5, a6, a7, a8, a9, a10, ⟨a11, a12⟩, ⟨a13, a14⟩, ⟨a15, a16⟩, ⟨a17, a18⟩, ⟨a19, a20⟩, ⟨a21, a22⟩, ⟨a23, a24⟩, a25, ⟨⟨a26, a27⟩, ⟨a28, a29⟩, ⟨a30, a31⟩, ⟨a32, a33⟩, ⟨a34, a35⟩, ⟨a36, a37⟩⟩, ⟨⟨a38, a39⟩, ⟨a40, a41⟩, ⟨a42, a43⟩, ⟨a44, a45⟩, ⟨a46, a47⟩, ⟨a48, a49⟩⟩, ⟨a50, a51, a52, a53⟩, ⟨a54, a55, a56, a57⟩, a58, a59⟩ : GStyle) _ _ _) rfl (fun R0 hR0 => ?_); cbv) | (refine callIP hg (spec_Bounded_a (⟨a0, a1, a2, a3, a4, a5, a6, a7, a8, a9, a10, ⟨a11, a12⟩, ⟨a13, a14⟩, ⟨a15, a16⟩, ⟨a17, a18⟩, ⟨a19, a20⟩, ⟨a21, a22⟩, ⟨a23, a24⟩, a25, ⟨⟨a26, a27⟩, ⟨a28, a29⟩, ⟨a30, a31⟩, ⟨a32, a33⟩, ⟨a34, a35⟩, ⟨a36, a37⟩⟩, ⟨⟨a38, a39⟩, ⟨a40, a41⟩, ⟨a42, a43⟩, ⟨a44, a45⟩, ⟨a46, a47⟩, ⟨a48, a49⟩⟩, ⟨a50, a51, a52, a53⟩, ⟨a54, a55, a56, a57⟩, a58, a59⟩ : GStyle) _ _ _) rfl (fun R0 hR0 => ?_); cbv) | (split <;> rename_i hh <;> (try rw [hh]) <;> (try simp only [goLss hg, goLeq hg, goGtr hg, goGeq hg, goEql hg, goNeq hg, goEqlB hg, goNeqB hg, goAdd hg, goSub hg, goMul hg, goQuo hg, goRem hg, goNg hg, goMn hg, goMx hg, beq_iff_eq, bne_iff_ne, beq_eq_false_iff_ne, bne_eq_false_iff_eq, decide_eq_true_eq, decide_eq_false_iff_not, ne_eq, Decidable.not_not] at hh) <;> cbv))
  all_goals exact fin0v hF (by simp only [rooS]; subst_vars; simp_all)
set_option maxHeartbeats 8000000 in
theorem spec_l19Known_a (p s : GStyle) (w : Bool) (base mb : Int) (rtl : Bool) (M : Int) (hM : M = marS s w rtl mb) : PCon Tryz.prog 43 [.agg (lc (GStyle.c p)), .agg (lc (GStyle.c s)), abl w, ai base, ai M, abl rtl] fun res rows => res = .t (ai (knoN s w rtl base mb)) ∧ rows = [] := by
  obtain ⟨b0, b1, b2, b3, b4, b5, b6, b7, b8, b9, b10, ⟨b11, b12⟩, ⟨b13, b14⟩, ⟨b15, b16⟩, ⟨b17, b18⟩, ⟨b19, b20⟩, ⟨b21, b22⟩, ⟨b23, b24⟩, b25, ⟨⟨b26, b27⟩, ⟨b28, b29⟩, ⟨b30, b31⟩, ⟨b32, b33⟩, ⟨b34, b35⟩, ⟨b36, b37⟩⟩, ⟨⟨b38, b39⟩, ⟨b40, b41⟩, ⟨b42, b43⟩, ⟨b44, b45⟩, ⟨b46, b47⟩, ⟨b48, b49⟩⟩, ⟨b50, b51, b52, b53⟩, ⟨b54, b55, b56, b57⟩, b58, b59⟩ := p
  obtain ⟨a0, a1, a2, a3, a4, a5, a6, a7, a8, a9, a10, ⟨a11, a12⟩, ⟨a13, a14⟩, ⟨a15, a16⟩, ⟨a17, a18⟩, ⟨a19, a20⟩, ⟨a21, a22⟩, ⟨a23, a24⟩, a25, ⟨⟨a26, a27⟩, ⟨a28, a29⟩, ⟨a30, a31⟩, ⟨a32, a33⟩, ⟨a34, a35⟩, ⟨a36, a37⟩⟩, ⟨⟨a38, a39⟩, ⟨a40, a41⟩, ⟨a42, a43⟩, ⟨a44, a45⟩, ⟨a46, a47⟩, ⟨a48, a49⟩⟩, ⟨a50, a51, a52, a53⟩, ⟨a54, a55, a56, a57⟩, a58, a59⟩ := s
  cases w <;> (refine pcon_run (c := body Tryz.f43) fits Tryz.func43 (by kernel_rfl) (by kernel_rfl) (by rfl) (by kernel_rfl) fun g F hg hF => ?_; cbv; repeat' (first | (refine callI hg (spec_FixedOf_a (⟨a0, a1, a2, a3, a4, a5, a6, a7, a8, a9, a10, ⟨a11, a12⟩, ⟨a13, a14⟩, ⟨a15, a16⟩, ⟨a17, a18⟩, ⟨a19, a20⟩, ⟨a21, a22⟩, ⟨a23, a24⟩, a25, ⟨⟨a26, a27⟩, ⟨a28, a29⟩, ⟨a30, a31⟩, ⟨a32, a33⟩, ⟨a34, a35⟩, ⟨a36, a37⟩⟩, ⟨⟨a38, a39⟩, ⟨a40, a41⟩, ⟨a42, a43⟩, ⟨a44, a45⟩, ⟨a46, a47⟩, ⟨a48, a49⟩⟩, ⟨a50, a51, a52, a53⟩, ⟨a54, a55, a56, a57⟩, a58, a59⟩ : GStyle) _ _) rfl (fun R0 hR0 => ?_); cbv) | (refine callIP hg (spec_FixedOf_a (⟨a0, a1, a2, a3, a4, a5, a6, a7, a8, a9, a10, ⟨a11, a12⟩, ⟨a13, a14⟩, ⟨a15, a16⟩, ⟨a17, a18⟩, ⟨a19, a20⟩, ⟨a21, a22⟩, ⟨a23, a24⟩, a25, ⟨⟨a26, a27⟩, ⟨a28, a29⟩, ⟨a30, a31⟩, ⟨a32, a33⟩, ⟨a34, a35⟩, ⟨a36, a37⟩⟩, ⟨⟨a38, a39⟩, ⟨a40, a41⟩, ⟨a42, a43⟩, ⟨a44, a45⟩, ⟨a46, a47⟩, ⟨a48, a49⟩⟩, ⟨a50, a51, a52, a53⟩, ⟨a54, a55, a56, a57⟩, a58, a59⟩ : GStyle) _ _) rfl (fun R0 hR0 => ?_); cbv) | (refine callQ hg (spec_InsetOf_a (⟨a0, a1, a2, a3, a4, a5, a6, a7, a8, a9, a10, ⟨a11, a12⟩, ⟨a13, a14⟩, ⟨a15, a16⟩, ⟨a17, a18⟩, ⟨a19, a20⟩, ⟨a21, a22⟩, ⟨a23, a24⟩, a25, ⟨⟨a26, a27⟩, ⟨a28, a29⟩, ⟨a30, a31⟩, ⟨a32, a33⟩, ⟨a34, a35⟩, ⟨a36, a37⟩⟩, ⟨⟨a38, a39⟩, ⟨a40, a41⟩, ⟨a42, a43⟩, ⟨a44, a45⟩, ⟨a46, a47⟩, ⟨a48, a49⟩⟩, ⟨a50, a51, a52, a53⟩, ⟨a54, a55, a56, a57⟩, a58, a59⟩ : GStyle) _ _ _) rfl (fun R0 R1 hR0 hR1 => ?_); cases R1 <;> cbv) | (refine callQP hg (spec_InsetOf_a (⟨a0, a1, a2, a3, a4, a5, a6, a7, a8, a9, a10, ⟨a11, a12⟩, ⟨a13, a14⟩, ⟨a15, a16⟩, ⟨a17, a18⟩, ⟨a19, a20⟩, ⟨a21, a22⟩, ⟨a23, a24⟩, a25, ⟨⟨a26, a27⟩, ⟨a28, a29⟩, ⟨a30, a31⟩, ⟨a32, a33⟩, ⟨a34, a35⟩, ⟨a36, a37⟩⟩, ⟨⟨a38, a39⟩, ⟨a40, a41⟩, ⟨a42, a43⟩, ⟨a44, a45⟩, ⟨a46, a47⟩, ⟨a48, a49⟩⟩, ⟨a50, a51, a52, a53⟩, ⟨a54, a55, a56, a57⟩, a58, a59⟩ : GStyle) _ _ _) rfl (fun R0 R1 hR0 hR1 => ?_); cases R1 <;> cbv) | (refine callI hg (spec_Clamped_a _) rfl (fun R0 hR0 => ?_); cbv) | (refine callIP hg (spec_Clamped_a _) rfl (fun R0 hR0 => ?_); cbv) | (split <;> rename_i hh <;> (try rw [hh]) <;> (try simp only [goLss hg, goLeq hg, goGtr hg, goGeq hg, goEql hg, goNeq hg, goEqlB hg, goNeqB hg, goAdd hg, goSub hg, goMul hg, goQuo hg, goRem hg, goNg hg, goMn hg, goMx hg, beq_iff_eq, bne_iff_ne, beq_eq_false_iff_ne, bne_eq_false_iff_eq, decide_eq_true_eq, decide_eq_false_iff_not, ne_eq, Decidable.not_not] at hh) <;> cbv)))
  all_goals exact fin0i hF (by simp only [knoN, betN, marS, (goSub hg), Bool.false_eq_true, if_false, if_true] at *; subst_vars; simp_all [wrap_bet2])
set_option maxHeartbeats 4000000 in
theorem apart_margin_a (p s : GStyle) (rtl : Bool) (wide high sd : Int) : PCon Tryz.prog 57 [.agg (apC p s rtl wide high), ai sd] fun res rows => res = .t (ai (marN s.margin sd rtl wide)) ∧ rows = [] := by
  obtain ⟨a0, a1, a2, a3, a4, a5, a6, a7, a8, a9, a10, ⟨a11, a12⟩, ⟨a13, a14⟩, ⟨a15, a16⟩, ⟨a17, a18⟩, ⟨a19, a20⟩, ⟨a21, a22⟩, ⟨a23, a24⟩, a25, ⟨⟨a26, a27⟩, ⟨a28, a29⟩, ⟨a30, a31⟩, ⟨a32, a33⟩, ⟨a34, a35⟩, ⟨a36, a37⟩⟩, ⟨⟨a38, a39⟩, ⟨a40, a41⟩, ⟨a42, a43⟩, ⟨a44, a45⟩, ⟨a46, a47⟩, ⟨a48, a49⟩⟩, ⟨a50, a51, a52, a53⟩, ⟨a54, a55, a56, a57⟩, a58, a59⟩ := p
  obtain ⟨b0, b1, b2, b3, b4, b5, b6, b7, b8, b9, b10, ⟨b11, b12⟩, ⟨b13, b14⟩, ⟨b15, b16⟩, ⟨b17, b18⟩, ⟨b19, b20⟩, ⟨b21, b22⟩, ⟨b23, b24⟩, b25, ⟨⟨b26, b27⟩, ⟨b28, b29⟩, ⟨b30, b31⟩, ⟨b32, b33⟩, ⟨b34, b35⟩, ⟨b36, b37⟩⟩, ⟨⟨b38, b39⟩, ⟨b40, b41⟩, ⟨b42, b43⟩, ⟨b44, b45⟩, ⟨b46, b47⟩, ⟨b48, b49⟩⟩, ⟨b50, b51, b52, b53⟩, ⟨b54, b55, b56, b57⟩, b58, b59⟩ := s
  refine pcon_run (c := body Tryz.f57) fits Tryz.func57 (by kernel_rfl) (by kernel_rfl) (by rfl) (by kernel_rfl) fun g F hg hF => ?_
  cbv
  repeat' (first | (refine callI hg (impl_MarginOf_a (⟨⟨b26, b27⟩, ⟨b28, b29⟩, ⟨b30, b31⟩, ⟨b32, b33⟩, ⟨b34, b35⟩, ⟨b36, b37⟩⟩ : GSides) _ _ _) rfl (fun R0 hR0 => ?_); cbv) | (refine callIP hg (impl_MarginOf_a (⟨⟨b26, b27⟩, ⟨b28, b29⟩, ⟨b30, b31⟩, ⟨b32, b33⟩, ⟨b34, b35⟩, ⟨b36, b37⟩⟩ : GSides) _ _ _) rfl (fun R0 hR0 => ?_); cbv) | (split <;> rename_i hh <;> (try rw [hh]) <;> (try simp only [goLss hg, goLeq hg, goGtr hg, goGeq hg, goEql hg, goNeq hg, goEqlB hg, goNeqB hg, goAdd hg, goSub hg, goMul hg, goQuo hg, goRem hg, goNg hg, goMn hg, goMx hg, beq_iff_eq, bne_iff_ne, beq_eq_false_iff_ne, bne_eq_false_iff_eq, decide_eq_true_eq, decide_eq_false_iff_not, ne_eq, Decidable.not_not] at hh) <;> cbv))
  all_goals exact fin0i hF (by subst_vars; rfl)
set_option maxHeartbeats 4000000 in
theorem apart_inset_a (p s : GStyle) (rtl : Bool) (wide high sd : Int) (hw : sd = 0 ∨ sd = 2) : PCon Tryz.prog 106 [.agg (apC p s rtl wide high), ai sd] fun res rows => res = .tup [ai (insN s sd rtl wide), abl (insB s sd rtl wide)] ∧ rows = [] := by
  obtain ⟨b0, b1, b2, b3, b4, b5, b6, b7, b8, b9, b10, ⟨b11, b12⟩, ⟨b13, b14⟩, ⟨b15, b16⟩, ⟨b17, b18⟩, ⟨b19, b20⟩, ⟨b21, b22⟩, ⟨b23, b24⟩, b25, ⟨⟨b26, b27⟩, ⟨b28, b29⟩, ⟨b30, b31⟩, ⟨b32, b33⟩, ⟨b34, b35⟩, ⟨b36, b37⟩⟩, ⟨⟨b38, b39⟩, ⟨b40, b41⟩, ⟨b42, b43⟩, ⟨b44, b45⟩, ⟨b46, b47⟩, ⟨b48, b49⟩⟩, ⟨b50, b51, b52, b53⟩, ⟨b54, b55, b56, b57⟩, b58, b59⟩ := p
  obtain ⟨a0, a1, a2, a3, a4, a5, a6, a7, a8, a9, a10, ⟨a11, a12⟩, ⟨a13, a14⟩, ⟨a15, a16⟩, ⟨a17, a18⟩, ⟨a19, a20⟩, ⟨a21, a22⟩, ⟨a23, a24⟩, a25, ⟨⟨a26, a27⟩, ⟨a28, a29⟩, ⟨a30, a31⟩, ⟨a32, a33⟩, ⟨a34, a35⟩, ⟨a36, a37⟩⟩, ⟨⟨a38, a39⟩, ⟨a40, a41⟩, ⟨a42, a43⟩, ⟨a44, a45⟩, ⟨a46, a47⟩, ⟨a48, a49⟩⟩, ⟨a50, a51, a52, a53⟩, ⟨a54, a55, a56, a57⟩, a58, a59⟩ := s
  rcases hw with rfl | rfl <;> (
    refine pcon_run (c := body Tryz.f106) fits Tryz.func106 (by kernel_rfl) (by kernel_rfl) (by rfl) (by kernel_rfl) fun g F hg hF => ?_
    cbv
    (repeat' (first | (refine callQ hg (impl_InsetOf_a (⟨a0, a1, a2, a3, a4, a5, a6, a7, a8, a9, a10, ⟨a11, a12⟩, ⟨a13, a14⟩, ⟨a15, a16⟩, ⟨a17, a18⟩, ⟨a19, a20⟩, ⟨a21, a22⟩, ⟨a23, a24⟩, a25, ⟨⟨a26, a27⟩, ⟨a28, a29⟩, ⟨a30, a31⟩, ⟨a32, a33⟩, ⟨a34, a35⟩, ⟨a36, a37⟩⟩, ⟨⟨a38, a39⟩, ⟨a40, a41⟩, ⟨a42, a43⟩, ⟨a44, a45⟩, ⟨a46, a47⟩, ⟨a48, a49⟩⟩, ⟨a50, a51, a52, a53⟩, ⟨a54, a55, a56, a57⟩, a58, a59⟩ : GStyle) _ _ _) rfl (fun R0 R1 hR0 hR1 => ?_); cbv) | (have e : g .q .eql 0 0 = true := (by rw [goEql hg]; rfl); rw [e]; cbv) | (have e : g .q .eql 2 0 = false := (by rw [goEql hg]; rfl); rw [e]; cbv) | (have e : g .q .eql 2 2 = true := (by rw [goEql hg]; rfl); rw [e]; cbv)))
    all_goals exact fin0q hF (by subst_vars; exact ⟨rfl, rfl⟩))
set_option maxHeartbeats 4000000 in
theorem apart_inset_b (p s : GStyle) (rtl : Bool) (wide high sd : Int) (hw : sd = 1 ∨ sd = 3) : PCon Tryz.prog 106 [.agg (apC p s rtl wide high), ai sd] fun res rows => res = .tup [ai (insN s sd rtl high), abl (insB s sd rtl high)] ∧ rows = [] := by
  obtain ⟨b0, b1, b2, b3, b4, b5, b6, b7, b8, b9, b10, ⟨b11, b12⟩, ⟨b13, b14⟩, ⟨b15, b16⟩, ⟨b17, b18⟩, ⟨b19, b20⟩, ⟨b21, b22⟩, ⟨b23, b24⟩, b25, ⟨⟨b26, b27⟩, ⟨b28, b29⟩, ⟨b30, b31⟩, ⟨b32, b33⟩, ⟨b34, b35⟩, ⟨b36, b37⟩⟩, ⟨⟨b38, b39⟩, ⟨b40, b41⟩, ⟨b42, b43⟩, ⟨b44, b45⟩, ⟨b46, b47⟩, ⟨b48, b49⟩⟩, ⟨b50, b51, b52, b53⟩, ⟨b54, b55, b56, b57⟩, b58, b59⟩ := p
  obtain ⟨a0, a1, a2, a3, a4, a5, a6, a7, a8, a9, a10, ⟨a11, a12⟩, ⟨a13, a14⟩, ⟨a15, a16⟩, ⟨a17, a18⟩, ⟨a19, a20⟩, ⟨a21, a22⟩, ⟨a23, a24⟩, a25, ⟨⟨a26, a27⟩, ⟨a28, a29⟩, ⟨a30, a31⟩, ⟨a32, a33⟩, ⟨a34, a35⟩, ⟨a36, a37⟩⟩, ⟨⟨a38, a39⟩, ⟨a40, a41⟩, ⟨a42, a43⟩, ⟨a44, a45⟩, ⟨a46, a47⟩, ⟨a48, a49⟩⟩, ⟨a50, a51, a52, a53⟩, ⟨a54, a55, a56, a57⟩, a58, a59⟩ := s
  rcases hw with rfl | rfl <;> (
    refine pcon_run (c := body Tryz.f106) fits Tryz.func106 (by kernel_rfl) (by kernel_rfl) (by rfl) (by kernel_rfl) fun g F hg hF => ?_
    cbv
    (repeat' (first | (refine callQ hg (impl_InsetOf_a (⟨a0, a1, a2, a3, a4, a5, a6, a7, a8, a9, a10, ⟨a11, a12⟩, ⟨a13, a14⟩, ⟨a15, a16⟩, ⟨a17, a18⟩, ⟨a19, a20⟩, ⟨a21, a22⟩, ⟨a23, a24⟩, a25, ⟨⟨a26, a27⟩, ⟨a28, a29⟩, ⟨a30, a31⟩, ⟨a32, a33⟩, ⟨a34, a35⟩, ⟨a36, a37⟩⟩, ⟨⟨a38, a39⟩, ⟨a40, a41⟩, ⟨a42, a43⟩, ⟨a44, a45⟩, ⟨a46, a47⟩, ⟨a48, a49⟩⟩, ⟨a50, a51, a52, a53⟩, ⟨a54, a55, a56, a57⟩, a58, a59⟩ : GStyle) _ _ _) rfl (fun R0 R1 hR0 hR1 => ?_); cbv) | (have e : g .q .eql 1 0 = false := (by rw [goEql hg]; rfl); rw [e]; cbv) | (have e : g .q .eql 3 0 = false := (by rw [goEql hg]; rfl); rw [e]; cbv) | (have e : g .q .eql 1 2 = false := (by rw [goEql hg]; rfl); rw [e]; cbv) | (have e : g .q .eql 3 2 = false := (by rw [goEql hg]; rfl); rw [e]; cbv)))
    all_goals exact fin0q hF (by subst_vars; exact ⟨rfl, rfl⟩))
set_option maxHeartbeats 8000000 in
theorem apart_between_a (p s : GStyle) (rtl : Bool) (wide high : Int) : PCon Tryz.prog 54 [.agg (apC p s rtl wide high), ai 0, ai 2, ai wide] fun res rows => res = .t (ai (betN s 0 2 rtl wide wide)) ∧ rows = [] := by
  have c0 := apart_inset_a p s rtl wide high 0 (.inl rfl)
  have c2 := apart_inset_a p s rtl wide high 2 (.inr rfl)
  have m0 := apart_margin_a p s rtl wide high 0
  have m2 := apart_margin_a p s rtl wide high 2
  obtain ⟨a0, a1, a2, a3, a4, a5, a6, a7, a8, a9, a10, ⟨a11, a12⟩, ⟨a13, a14⟩, ⟨a15, a16⟩, ⟨a17, a18⟩, ⟨a19, a20⟩, ⟨a21, a22⟩, ⟨a23, a24⟩, a25, ⟨⟨a26, a27⟩, ⟨a28, a29⟩, ⟨a30, a31⟩, ⟨a32, a33⟩, ⟨a34, a35⟩, ⟨a36, a37⟩⟩, ⟨⟨a38, a39⟩, ⟨a40, a41⟩, ⟨a42, a43⟩, ⟨a44, a45⟩, ⟨a46, a47⟩, ⟨a48, a49⟩⟩, ⟨a50, a51, a52, a53⟩, ⟨a54, a55, a56, a57⟩, a58, a59⟩ := p
  obtain ⟨b0, b1, b2, b3, b4, b5, b6, b7, b8, b9, b10, ⟨b11, b12⟩, ⟨b13, b14⟩, ⟨b15, b16⟩, ⟨b17, b18⟩, ⟨b19, b20⟩, ⟨b21, b22⟩, ⟨b23, b24⟩, b25, ⟨⟨b26, b27⟩, ⟨b28, b29⟩, ⟨b30, b31⟩, ⟨b32, b33⟩, ⟨b34, b35⟩, ⟨b36, b37⟩⟩, ⟨⟨b38, b39⟩, ⟨b40, b41⟩, ⟨b42, b43⟩, ⟨b44, b45⟩, ⟨b46, b47⟩, ⟨b48, b49⟩⟩, ⟨b50, b51, b52, b53⟩, ⟨b54, b55, b56, b57⟩, b58, b59⟩ := s
  refine pcon_run (c := body Tryz.f54) fits Tryz.func54 (by kernel_rfl) (by kernel_rfl) (by rfl) (by kernel_rfl) fun g F hg hF => ?_
  cbv
  repeat' (first | (refine callQ hg c0 rfl (fun R0 R1 hR0 hR1 => ?_); cases R1 <;> cbv) | (refine callQP hg c0 rfl (fun R0 R1 hR0 hR1 => ?_); cases R1 <;> cbv) | (refine callQ hg c2 rfl (fun R0 R1 hR0 hR1 => ?_); cases R1 <;> cbv) | (refine callQP hg c2 rfl (fun R0 R1 hR0 hR1 => ?_); cases R1 <;> cbv) | (refine callI hg m0 rfl (fun R0 hR0 => ?_); cbv) | (refine callIP hg m0 rfl (fun R0 hR0 => ?_); cbv) | (refine callI hg m2 rfl (fun R0 hR0 => ?_); cbv) | (refine callIP hg m2 rfl (fun R0 hR0 => ?_); cbv) | (refine callI hg (impl_Clamped_a _) rfl (fun R0 hR0 => ?_); cbv) | (refine callIP hg (impl_Clamped_a _) rfl (fun R0 hR0 => ?_); cbv) | (split <;> rename_i hh <;> (try rw [hh]) <;> (try simp only [goLss hg, goLeq hg, goGtr hg, goGeq hg, goEql hg, goNeq hg, goEqlB hg, goNeqB hg, goAdd hg, goSub hg, goMul hg, goQuo hg, goRem hg, goNg hg, goMn hg, goMx hg, beq_iff_eq, bne_iff_ne, beq_eq_false_iff_ne, bne_eq_false_iff_eq, decide_eq_true_eq, decide_eq_false_iff_not, ne_eq, Decidable.not_not] at hh) <;> (first | (exfalso; omega) | cbv)))
  all_goals exact fin0i hF (by simp only [betN, (goSub hg)] at *; subst_vars; simp_all [wrap_bet])
set_option maxHeartbeats 8000000 in
theorem apart_between_b (p s : GStyle) (rtl : Bool) (wide high : Int) : PCon Tryz.prog 54 [.agg (apC p s rtl wide high), ai 1, ai 3, ai high] fun res rows => res = .t (ai (betN s 1 3 rtl high wide)) ∧ rows = [] := by
  have c0 := apart_inset_b p s rtl wide high 1 (.inl rfl)
  have c2 := apart_inset_b p s rtl wide high 3 (.inr rfl)
  have m0 := apart_margin_a p s rtl wide high 1
  have m2 := apart_margin_a p s rtl wide high 3
  obtain ⟨a0, a1, a2, a3, a4, a5, a6, a7, a8, a9, a10, ⟨a11, a12⟩, ⟨a13, a14⟩, ⟨a15, a16⟩, ⟨a17, a18⟩, ⟨a19, a20⟩, ⟨a21, a22⟩, ⟨a23, a24⟩, a25, ⟨⟨a26, a27⟩, ⟨a28, a29⟩, ⟨a30, a31⟩, ⟨a32, a33⟩, ⟨a34, a35⟩, ⟨a36, a37⟩⟩, ⟨⟨a38, a39⟩, ⟨a40, a41⟩, ⟨a42, a43⟩, ⟨a44, a45⟩, ⟨a46, a47⟩, ⟨a48, a49⟩⟩, ⟨a50, a51, a52, a53⟩, ⟨a54, a55, a56, a57⟩, a58, a59⟩ := p
  obtain ⟨b0, b1, b2, b3, b4, b5, b6, b7, b8, b9, b10, ⟨b11, b12⟩, ⟨b13, b14⟩, ⟨b15, b16⟩, ⟨b17, b18⟩, ⟨b19, b20⟩, ⟨b21, b22⟩, ⟨b23, b24⟩, b25, ⟨⟨b26, b27⟩, ⟨b28, b29⟩, ⟨b30, b31⟩, ⟨b32, b33⟩, ⟨b34, b35⟩, ⟨b36, b37⟩⟩, ⟨⟨b38, b39⟩, ⟨b40, b41⟩, ⟨b42, b43⟩, ⟨b44, b45⟩, ⟨b46, b47⟩, ⟨b48, b49⟩⟩, ⟨b50, b51, b52, b53⟩, ⟨b54, b55, b56, b57⟩, b58, b59⟩ := s
  refine pcon_run (c := body Tryz.f54) fits Tryz.func54 (by kernel_rfl) (by kernel_rfl) (by rfl) (by kernel_rfl) fun g F hg hF => ?_
  cbv
  repeat' (first | (refine callQ hg c0 rfl (fun R0 R1 hR0 hR1 => ?_); cases R1 <;> cbv) | (refine callQP hg c0 rfl (fun R0 R1 hR0 hR1 => ?_); cases R1 <;> cbv) | (refine callQ hg c2 rfl (fun R0 R1 hR0 hR1 => ?_); cases R1 <;> cbv) | (refine callQP hg c2 rfl (fun R0 R1 hR0 hR1 => ?_); cases R1 <;> cbv) | (refine callI hg m0 rfl (fun R0 hR0 => ?_); cbv) | (refine callIP hg m0 rfl (fun R0 hR0 => ?_); cbv) | (refine callI hg m2 rfl (fun R0 hR0 => ?_); cbv) | (refine callIP hg m2 rfl (fun R0 hR0 => ?_); cbv) | (refine callI hg (impl_Clamped_a _) rfl (fun R0 hR0 => ?_); cbv) | (refine callIP hg (impl_Clamped_a _) rfl (fun R0 hR0 => ?_); cbv) | (split <;> rename_i hh <;> (try rw [hh]) <;> (try simp only [goLss hg, goLeq hg, goGtr hg, goGeq hg, goEql hg, goNeq hg, goEqlB hg, goNeqB hg, goAdd hg, goSub hg, goMul hg, goQuo hg, goRem hg, goNg hg, goMn hg, goMx hg, beq_iff_eq, bne_iff_ne, beq_eq_false_iff_ne, bne_eq_false_iff_eq, decide_eq_true_eq, decide_eq_false_iff_not, ne_eq, Decidable.not_not] at hh) <;> (first | (exfalso; omega) | cbv)))
  all_goals exact fin0i hF (by simp only [betN, (goSub hg)] at *; subst_vars; simp_all [wrap_bet])
set_option maxHeartbeats 16000000 in
theorem apart_spaces_a (p s : GStyle) (rtl : Bool) (wide high : Int) : PCon Tryz.prog 27 [.agg (apC p s rtl wide high)] fun res rows => res = .tup [agP (apX s rtl wide high), agP (apY s rtl wide high)] ∧ rows = [] := by
  have q0 := apart_between_a p s rtl wide high
  have q1 := apart_between_b p s rtl wide high
  have m0 := apart_margin_a p s rtl wide high 0
  have m1 := apart_margin_a p s rtl wide high 1
  have m2 := apart_margin_a p s rtl wide high 2
  have m3 := apart_margin_a p s rtl wide high 3
  have fw := impl_FixedOf_a s true wide
  have fh := impl_FixedOf_a s false high
  have br := impl_ByRatio_a s
  have bo := impl_Bounded_a s
  refine pcon_run2 [(16, .op 0 (.op 1 (.op 2 (.op 3 .done .none) .none) (.op 2 (.op 1 (.op 3 .done .none) .none) .none)) (.op 1 (.op 0 (.op 2 (.op 3 .done .none) .none) .none) .none))] (c := body Tryz.f27) fits Tryz.func27 (by kernel_rfl) (by kernel_rfl) (by rfl) (by kernel_rfl) fun g F hg hF => ?_
  cbv
  repeat' (first | (refine callI hg fw rfl (fun R0 hR0 => ?_); cbv) | (refine callIP hg fw rfl (fun R0 hR0 => ?_); cbv) | (refine callI hg fh rfl (fun R0 hR0 => ?_); cbv) | (refine callIP hg fh rfl (fun R0 hR0 => ?_); cbv) | (refine callI hg q0 rfl (fun R0 hR0 => ?_); cbv) | (refine callIP hg q0 rfl (fun R0 hR0 => ?_); cbv) | (refine callI hg q1 rfl (fun R0 hR0 => ?_); cbv) | (refine callIP hg q1 rfl (fun R0 hR0 => ?_); cbv) | (refine callI hg (br _ _) rfl (fun R0 hR0 => ?_); cbv) | (refine callIP hg (br _ _) rfl (fun R0 hR0 => ?_); cbv) | (refine callI hg m0 rfl (fun R0 hR0 => ?_); cbv) | (refine callIP hg m0 rfl (fun R0 hR0 => ?_); cbv) | (refine callI hg m1 rfl (fun R0 hR0 => ?_); cbv) | (refine callIP hg m1 rfl (fun R0 hR0 => ?_); cbv) | (refine callI hg m2 rfl (fun R0 hR0 => ?_); cbv) | (refine callIP hg m2 rfl (fun R0 hR0 => ?_); cbv) | (refine callI hg m3 rfl (fun R0 hR0 => ?_); cbv) | (refine callIP hg m3 rfl (fun R0 hR0 => ?_); cbv) | (refine callV hg (impl_InnerOf_a _ _ _) rfl (fun R0 R1 hR0 hR1 => ?_); cbv) | (refine callVP hg (impl_InnerOf_a _ _ _) rfl (fun R0 R1 hR0 hR1 => ?_); cbv) | (refine callI hg (bo _ _ _) rfl (fun R0 hR0 => ?_); cbv) | (refine callIP hg (bo _ _ _) rfl (fun R0 hR0 => ?_); cbv) | (refine callV hg (impl_exactly_a _) rfl (fun R0 R1 hR0 hR1 => ?_); cbv) | (refine callVP hg (impl_exactly_a _) rfl (fun R0 R1 hR0 hR1 => ?_); cbv) | (split <;> rename_i hh <;> (try rw [hh]) <;> (try simp only [goLss hg, goLeq hg, goGtr hg, goGeq hg, goEql hg, goNeq hg, goEqlB hg, goNeqB hg, goAdd hg, goSub hg, goMul hg, goQuo hg, goRem hg, goNg hg, goMn hg, goMx hg, beq_iff_eq, bne_iff_ne, beq_eq_false_iff_ne, bne_eq_false_iff_eq, decide_eq_true_eq, decide_eq_false_iff_not, ne_eq, Decidable.not_not] at hh) <;> (first | (exfalso; omega) | cbv)))
  all_goals (clear q0 q1 m0 m1 m2 m3 fw fh br bo; repeat' (first | exact True.intro | apply And.intro))
  all_goals refine fin0w hF ?_
  all_goals (simp only [(goAdd hg)] at *; clear hF hg; simp only [apX, apY, apW, apH, knoN, rooS, marS]; grind)
set_option maxHeartbeats 16000000 in
theorem spec_l19Spaces_a (p s : GStyle) (wide high : Int) (rtl : Bool) : PCon Tryz.prog 18 [.agg (lc (GStyle.c p)), .agg (lc (GStyle.c s)), ai wide, ai high, abl rtl] fun res rows => res = .tup [agP (apX s rtl (padW p wide) (padH p high)), agP (apY s rtl (padW p wide) (padH p high))] ∧ rows = [] := by
  have cp := spec_PadBox_a p wide high
  have br := spec_ByRatio_a s
  have ro := spec_l19Room_a s
  refine pcon_run (c := body Tryz.f18) fits Tryz.func18 (by kernel_rfl) (by kernel_rfl) (by rfl) (by kernel_rfl) fun g F hg hF => ?_
  cbv
  first | refine callP hg cp rfl (fun W H hW hH => ?_) | refine callPP hg cp rfl (fun W H hW hH => ?_)
  cbv
  have mw := spec_l19Margins_a s true rtl W
  first | refine callI hg mw rfl (fun MW hMW => ?_) | refine callIP hg mw rfl (fun MW hMW => ?_)
  cbv
  have mh := spec_l19Margins_a s false rtl W
  first | refine callI hg mh rfl (fun MH hMH => ?_) | refine callIP hg mh rfl (fun MH hMH => ?_)
  cbv
  have kw := spec_l19Known_a p s true W W rtl MW hMW
  first | refine callI hg kw rfl (fun KW hKW => ?_) | refine callIP hg kw rfl (fun KW hKW => ?_)
  cbv
  have kh := spec_l19Known_a p s false H W rtl MH hMH
  first | refine callI hg kh rfl (fun KH hKH => ?_) | refine callIP hg kh rfl (fun KH hKH => ?_)
  cbv
  clear cp mw mh kw kh
  repeat' (first | (refine callI hg (br _ _) rfl (fun R0 hR0 => ?_); cbv) | (refine callIP hg (br _ _) rfl (fun R0 hR0 => ?_); cbv) | (refine callV hg (ro _ _ _ _) rfl (fun R0 R1 hR0 hR1 => ?_); cbv) | (refine callVP hg (ro _ _ _ _) rfl (fun R0 R1 hR0 hR1 => ?_); cbv) | (split <;> rename_i hh <;> (try rw [hh]) <;> (try simp only [goLss hg, goLeq hg, goGtr hg, goGeq hg, goEql hg, goNeq hg, goEqlB hg, goNeqB hg, goAdd hg, goSub hg, goMul hg, goQuo hg, goRem hg, goNg hg, goMn hg, goMx hg, beq_iff_eq, bne_iff_ne, beq_eq_false_iff_ne, bne_eq_false_iff_eq, decide_eq_true_eq, decide_eq_false_iff_not, ne_eq, Decidable.not_not] at hh) <;> (first | (exfalso; omega) | cbv)))
  all_goals refine fin0w hF ?_
  all_goals (clear hF hg br ro; simp only [apX, apY, apW, apH, ← hW, ← hH]; grind)

end Go.Proofs.YtgcofllgbdcicaaGreat
