/- A part of AM, a framework of the prover own: functions of any program as maps of data. -/
import Derived.Test.YtenbloaopcfdlaaGreatIaj
namespace Go.Proofs.YtenbloaopcfdlaaGreat.Am
open Go.RowKit
set_option linter.unusedVariables false
set_option linter.unusedSimpArgs false
def dropC : Nat → Code → Code
  | n + 1, .seq _ y => dropC n y
  | _, c => c
def runT (ets : ET) (lts : LT) (eff : EF) (hd : HF) (g : Gd) (tab : List (TypeId × TI)) : Nat → Code → (Exit → List (Nat × AV) → EH → Prop) → (List (Nat × AV) → EH → Prop) → List (Nat × AV) → EH → Prop
  | 0, _, _, B, l, h => B l h
  | n + 1, c, Q, B, l, h => match c with
    | .seq x y => runC4 ets lts eff hd g tab x (fun e l h => match e with | .normal => runT ets lts eff hd g tab n y Q B l h | e => Q e l h) l h
    | _ => False
section
variable {P : Program} {tab : List (TypeId × TI)} {n0 N : Nat}
theorem codeOk4_drop {ets : ET} {lts : LT} : ∀ (n : Nat) (c : Code), codeOk4 ets lts N c = true → codeOk4 ets lts N (dropC n c) = true
  | 0, c, h => by unfold dropC; exact h
  | n + 1, c, h => by
    cases c with
    | seq x y =>
      simp only [codeOk4, Bool.and_eq_true] at h
      unfold dropC
      exact codeOk4_drop n y h.2
    | _ => exact h
theorem runT_sound {β : BP} (hf : Fits P tab) {ets : ET} {lts : LT} {Q : Exit → List (Nat × AV) → EH → Prop} {B : List (Nat × AV) → EH → Prop} : ∀ (n : Nat) (c : Code) (l : List (Nat × AV)) (h : EH), codeOk4 ets lts N c = true →
    (∀ l h, B l h → VC P n0 N (dropC n c) (QE Q) (lkT l) (toH h)) → runT ets lts (eff0 P) (hd0 P n0 N) (G0 P n0 N) tab n c Q B l h → VC P n0 N c (QE Q) (lkT l) (toH h)
  | 0, c, l, h, _, hB, hp => by have := hB l h hp; unfold dropC at this; exact this
  | n + 1, c, l, h, ho, hB, hp => by
    unfold runT at hp
    split at hp
    · rename_i x y
      simp only [codeOk4, Bool.and_eq_true] at ho
      refine vc_seq (vc_mono (fun e T h hq => ?_) (runC4_sound hf x _ l h ho.1 hp))
      obtain ⟨l', eh, rfl, rfl, hq⟩ := hq
      cases e <;> first
        | exact ⟨l', eh, rfl, rfl, hq⟩
        | exact runT_sound hf n y l' eh ho.2 (fun l h hb => by have := hB l h hb; unfold dropC at this; exact this) hq
    · exact hp.elim
end
def rbT (p : Nat) : AT → AT
  | .c x => .c (oldC p x)
  | .agg xs => .agg (xs.map (oldC p))
def rbV (p : Nat) : AV → AV
  | .t x => .t (rbT p x)
  | .tup xs => .tup (xs.map (rbT p))
def rbB (p : Nat) (ab : AB) : AB := ⟨ab.ty, ab.k, ab.es.map (·.map (oldC p))⟩
def rbA (p : Nat) : AE → AE
  | .live ab => .live (rbB p ab)
  | e => e
def rbE (p : Nat) : EE → EE
  | .bx t k x => .bx t k (x.map (oldC p))
  | .rw ab => .rw (rbB p ab)
  | .gn => .gn
def rbL (p : Nat) : List (Nat × AV) → List (Nat × AV)
  | [] => []
  | (k, v) :: l => (k, rbV p v) :: rbL p l
def rbH (p : Nat) : EH → EH
  | [] => []
  | e :: h => rbE p e :: rbH p h
theorem rbH_toH (p : Nat) : ∀ h : EH, toH (rbH p h) = (toH h).map (rbA p)
  | [] => rfl
  | e :: h => by
    have := rbH_toH p h
    simp only [toH, rbH, List.map_cons] at this ⊢
    rw [this]
    cases e <;> rfl
theorem rbL_lk (p : Nat) : ∀ (l : List (Nat × AV)) (d : Nat), lkT (rbL p l) d = rbV p (lkT l d)
  | [], d => rfl
  | (k, v) :: l, d => by
    simp only [rbL, lkT]
    by_cases hd : d = k
    · rw [if_pos hd, if_pos hd]
    · rw [if_neg hd, if_neg hd]; exact rbL_lk p l d
section
variable {P : Program} {F : Nat → Prop} {w : World} {m : AM} {h : AH} {p : Nat}
theorem rbA_live {r : Nat} {ab' : AB} (hr : (h.map (rbA p))[r]? = some (.live ab')) : ∃ ab, h[r]? = some (.live ab) ∧ ab' = rbB p ab := by
  rw [List.getElem?_map] at hr
  cases he : h[r]? with
  | none => rw [he] at hr; cases hr
  | some e =>
    rw [he] at hr
    cases e with
    | live ab => exact ⟨ab, rfl, by simpa [rbA] using hr.symm⟩
    | gone => cases hr
    | hole => cases hr
theorem rbA_of {r : Nat} {ab : AB} (hr : h[r]? = some (.live ab)) : (h.map (rbA p))[r]? = some (.live (rbB p ab)) := by rw [List.getElem?_map, hr]; rfl
theorem rbA_gone {r : Nat} : (h.map (rbA p))[r]? = some .gone ↔ h[r]? = some .gone := by
  rw [List.getElem?_map]
  cases he : h[r]? with
  | none => simp
  | some e => cases e <;> simp [rbA]
theorem RC.reb (hF : ∀ b, F b → b < p) {c : AC} {v : Value} (hc : RC F w m h c v) : RC F w m (h.map (rbA p)) (oldC p c) v := by
  have len : ∀ ab : AB, (rbB p ab).es.length = ab.es.length := fun ab => by simp [rbB]
  cases c with
  | imm u => exact hc
  | view xs => exact RP.ext (fun b hb => ⟨hb, hF b hb⟩) (fun _ _ => rfl) hc
  | own r =>
    rcases hc with hg | ⟨ab, h1, h2⟩
    · exact .inl (rbA_gone.2 hg)
    · refine .inr ⟨rbB p ab, rbA_of h1, ?_⟩
      rw [len]; exact h2
  | sub r lo n =>
    rcases hc with hg | ⟨ab, c, q, h1, h2, h3, h4, h5, h6⟩
    · exact .inl (rbA_gone.2 hg)
    · exact .inr ⟨rbB p ab, c, q, rbA_of h1, by rw [len]; exact h2, h3, h4, h5, h6⟩
  | ptr r i off =>
    rcases hc with hg | ⟨ab, b, cap, h1, h2, h3⟩
    · exact .inl (rbA_gone.2 hg)
    · exact .inr ⟨rbB p ab, b, cap, rbA_of h1, h2, h3⟩
  | eptr cs off => exact hc
  | clo g rs =>
    refine RCl.mono (fun r u hu => ?_) hc
    rcases hu with hg | ⟨ab, b, cap, h1, h2, h3⟩
    · exact .inl (rbA_gone.2 hg)
    · exact .inr ⟨rbB p ab, b, cap, rbA_of h1, h2, h3⟩
  | fv bs xs => exact hc
  | old q xs => exact hc
  | dead => trivial
theorem RT.reb (hF : ∀ b, F b → b < p) {x : AT} {v : Value} (hc : RT F w m h x v) : RT F w m (h.map (rbA p)) (rbT p x) v := by
  cases x with
  | c y => exact RC.reb hF hc
  | agg xs =>
    obtain ⟨vs, h1, h2, h3⟩ := hc
    refine ⟨vs, h1, by simp [h2], fun j y hj => ?_⟩
    rw [List.getElem?_map] at hj
    cases hx : xs[j]? with
    | none => rw [hx] at hj; cases hj
    | some z =>
      rw [hx] at hj
      cases hj
      obtain ⟨u, hu, ho, hr⟩ := h3 j z hx
      exact ⟨u, hu, ho, RC.reb hF hr⟩
theorem RV.reb (hF : ∀ b, F b → b < p) {x : AV} {v : Value} (hc : RV F w m h x v) : RV F w m (h.map (rbA p)) (rbV p x) v := by
  cases x with
  | t y => exact RT.reb hF hc
  | tup xs =>
    obtain ⟨vs, h1, h2, h3⟩ := hc
    refine ⟨vs, h1, by simp [h2], fun j y hj => ?_⟩
    rw [List.getElem?_map] at hj
    cases hx : xs[j]? with
    | none => rw [hx] at hj; cases hj
    | some z =>
      rw [hx] at hj
      cases hj
      obtain ⟨u, hu, hr⟩ := h3 j z hx
      exact ⟨u, hu, RT.reb hF hr⟩
theorem RB.reb (hF : ∀ b, F b → b < p) {b cap : Nat} {ab : AB} (hb : RB F w m h b cap ab) : RB F w m (h.map (rbA p)) b cap (rbB p ab) := by
  obtain ⟨cur, h1, h2, h3, h4, h5⟩ := hb
  refine ⟨cur, h1, h2, by simpa [rbB] using h3, h4, fun i x hx => ?_⟩
  simp only [rbB, List.getElem?_map, Option.map_eq_some_iff] at hx
  obtain ⟨y, hy, rfl⟩ := hx
  obtain ⟨k1, k2⟩ := h5 i y hy
  refine ⟨by simpa [rbB] using k1, fun j c hc => ?_⟩
  rw [List.getElem?_map] at hc
  cases hx : y[j]? with
  | none => rw [hx] at hc; cases hc
  | some z =>
    rw [hx] at hc
    cases hc
    obtain ⟨u, hu, ho, hr⟩ := k2 j z hx
    exact ⟨u, hu, ho, RC.reb hF hr⟩
theorem RH.reb {β : BP} (hH : RH F w m h) (hF : ∀ b, F b → b < p) : RH F w m (h.map (rbA p)) := by
  obtain ⟨h1, h2, h3, h4, h5⟩ := hH
  refine ⟨fun r ab' hr => ?_, fun r r' ab ab' b c c' hr hr' hm hm' => ?_, by simpa using h3, h4, h5⟩
  · obtain ⟨ab, hr0, rfl⟩ := rbA_live hr
    rcases h1 r ab hr0 with ⟨e1, e2⟩ | ⟨b, cap, e1, e2, e3⟩
    · exact .inl ⟨e1, by simpa [rbB] using e2⟩
    · exact .inr ⟨b, cap, e1, e2, RB.reb hF e3⟩
  · obtain ⟨a1, hr0, -⟩ := rbA_live hr
    obtain ⟨a2, hr1, -⟩ := rbA_live hr'
    exact h2 r r' a1 a2 b c c' hr0 hr1 hm hm'
end
theorem StepX.bp {β β' : BP} {F : Nat → Prop} {w w' : World} {m m' : AM} {h h' : AH} (hx : ∀ b, β'.ex b ↔ β.ex b) (hs : @StepX β F w m h w' m' h') (hl : β'.lo ≤ w'.heap.size) : @StepX β' F w m h w' m' h' := by
  obtain ⟨h1, h2, h3, h4, h5, h6, h7, h8, h9⟩ := hs
  exact ⟨h1.bp hl, h2, h3, h4, h5, h6, fun b a1 a2 a3 => h7 b a1 a2 (fun h => a3 ((hx b).2 h)), h8, h9⟩
theorem StepX.reb {β : BP} {F : Nat → Prop} {w w' : World} {m' : AM} {h' : AH} {p : Nat} (hs : StepX F w [] [] w' m' h') (hF : ∀ b, F b → b < p) : StepX F w [] [] w' m' (h'.map (rbA p)) := by
  obtain ⟨h1, h2, h3, h4, h5, h6, h7, h8, h9⟩ := hs
  refine ⟨h1.reb hF, fun r => ⟨fun h => by simp at h, fun ab h => by simp at h⟩, h3, h4, h5, h6, h7, fun r ab' b c hr hm => ?_, h9⟩
  obtain ⟨ab, hr0, -⟩ := rbA_live hr
  exact h8 r ab b c hr0 hm
theorem vc_rebase {P : Program} {N : Nat} {β : BP} {c : Code} {Q : Exit → (Nat → AV) → AH → Prop} {l : List (Nat × AV)} {h : EH} (hv : ∀ p, β.lo ≤ p → @VC ⟨p, β.ex⟩ P 0 N c Q (lkT (rbL p l)) (toH (rbH p h))) : VC P 0 N c Q (lkT l) (toH h) := by
  intro F w0 m0 h0 a w m hn r
  obtain rfl := List.eq_nil_of_length_eq_zero hn
  have hm0 : ∀ (r : Nat) (ab : AB) (b c : Nat), ([] : AH)[r]? = some (.live ab) → m0[r]? = some (some (b, c)) → False := fun r ab b c h => by simp at h
  obtain ⟨tm, st, df, sz⟩ := r
  have hF : ∀ b, F b → b < w.heap.size := st.hp.old
  have hlo : β.lo ≤ w.heap.size := st.hp.lo
  have st0 : @StepX β F w0 m0 [] w m ((toH h).map (rbA w.heap.size)) := by
    obtain ⟨h1, h2, h3, h4, h5, h6, h7, h8, h9⟩ := st
    refine ⟨h1.reb hF, fun r => ⟨fun h => by simp at h, fun ab h => by simp at h⟩, h3, h4, h5, h6, h7, fun r ab' b c hr hm => ?_, h9⟩
    obtain ⟨ab, hr0, -⟩ := rbA_live hr
    exact h8 r ab b c hr0 hm
  have r' : @Rel ⟨w.heap.size, β.ex⟩ F w0 m0 [] N (lkT (rbL w.heap.size l)) (toH (rbH w.heap.size h)) a w m := by
    refine @Rel.mk ⟨w.heap.size, β.ex⟩ F w0 m0 [] N _ _ a w m (fun d => ?_) ?_ df sz
    · rw [rbL_lk, rbH_toH]; exact RV.reb hF (tm d)
    · rw [rbH_toH]; exact StepX.bp (β := β) (fun _ => Iff.rfl) st0 (Nat.le_refl _)
  refine Code.wp_mono (fun e a' w' ⟨T', h', m', F1, hq, hG, r1⟩ => ?_) (hv w.heap.size hlo F w0 m0 [] a w m rfl r')
  obtain ⟨t1, s1, d1, z1⟩ := r1
  have hl1 : w.heap.size ≤ w'.heap.size := @RH.lo ⟨w.heap.size, β.ex⟩ _ _ _ _ (@StepX.hp ⟨w.heap.size, β.ex⟩ _ _ _ _ _ _ _ s1)
  exact ⟨T', h', m', F1, hq, hG, @Rel.mk β F1 w0 m0 [] N T' h' a' w' m' t1 (StepX.bp (β := ⟨w.heap.size, β.ex⟩) (β' := β) (fun _ => Iff.rfl) s1 (Nat.le_trans hlo hl1)) d1 z1⟩
section
variable {P : Program} {tab : List (TypeId × TI)}
theorem law_cut (k : Nat) (ets : ET) (lts : LT) (Φ : Prop) {f : FuncId} {fn : Func} {c : Code} {args : Nat → List AT} (l1 : Nat → List (Nat × AV)) (h1 : Nat → EH) (hfit : Fits P tab) (hf : P.funcs[f]? = some fn) (hb : fn.body = some c) (hnm : (fn.name == "runtime.NumGoroutine") = false) (hn : ∀ lo, Nat.ble (args lo).length fn.ntmps = true)
    (hok : codeOk4 ets lts fn.ntmps c = true)
    (hv1 : ∀ (β : BP) (g : Gd) (eff : EF) (hd : HF) (F : List AT → EH → Prop) (B : List (Nat × AV) → EH → Prop), (∀ b, BP.lo ≤ b → BP.ex b) → eff = eff0 P → hd = hd0 P 0 fn.ntmps → g = G0 P 0 fn.ntmps → F = (fun xs eh => xs = [.c (.imm (.bool true))]) → (Φ → ∀ l' h', Weak 0 fn.ntmps (lkT l') (toH h') (l1 β.lo) (toH (h1 β.lo)) → B l' h') → runT ets lts eff hd g tab k c (finG tab fn.results.toList F) B (argL (args β.lo) 0) [])
    (hv2 : ∀ (β : BP) (lo : Nat) (g : Gd) (eff : EF) (hd : HF) (F : List AT → EH → Prop), Φ → lo ≤ β.lo → (∀ b, BP.lo ≤ b → BP.ex b) → eff = eff0 P → hd = hd0 P 0 fn.ntmps → g = G0 P 0 fn.ntmps → F = (fun xs eh => xs = [.c (.imm (.bool true))]) → runC4 ets lts eff hd g tab (dropC k c) (finG tab fn.results.toList F) (rbL β.lo (l1 lo)) (rbH β.lo (h1 lo)))
    {w : World} {vs : List Value} (hl : vs.length = (args w.heap.size).length) (ha : ∀ (j : Nat) (x : AT), (args w.heap.size)[j]? = some x → ∃ v, vs[j]? = some v ∧ RT (fun b => b < w.heap.size) w [] [] x v) :
    Calls P f vs.toArray w fun e w' => e = .returned (.bool true) ∧ Below w.heap.size w w' := by
  let β0 : BP := ⟨w.heap.size, fun b => w.heap.size ≤ b⟩
  refine law_core (β := β0) hf hb hnm (bl (hn w.heap.size)) rfl (fun _ h => h) ?_ hl ha
  have rest : ∀ l' h', (Φ ∧ @Weak β0 0 fn.ntmps (lkT l') (toH h') (l1 w.heap.size) (toH (h1 w.heap.size))) → @VC β0 P 0 fn.ntmps (dropC k c) (QE (finG tab fn.results.toList (fun xs eh => xs = [.c (.imm (.bool true))]))) (lkT l') (toH h') := fun l' h' ⟨hΦ, hw⟩ => by
    have hvc := vc_rebase (β := β0) (c := dropC k c) (l := l1 w.heap.size) (h := h1 w.heap.size) (fun p hp => runC4_sound (β := ⟨p, β0.ex⟩) hfit _ _ _ _ (codeOk4_drop k c hok) (hv2 ⟨p, β0.ex⟩ w.heap.size _ _ _ _ hΦ hp (fun b hb => Nat.le_trans hp hb) rfl rfl rfl rfl))
    intro F w0 m0 h0 a w1 m hn' r
    obtain ⟨F2, m2, hG2, r2⟩ := hw F w0 m0 h0 a w1 m hn' r
    exact Code.wp_mono (fun e a w hm => Meets.grow hG2 hm) (hvc F2 w0 m0 h0 a w1 m2 hn' r2)
  refine vc_forget (β := β0) (T' := lkT (argL (args w.heap.size) 0)) (fun d => ?_) (vc_mono (fun e T h hq => ?_) (runT_sound (β := β0) hfit k c _ [] hok rest (hv1 β0 _ _ _ _ _ (fun _ h => h) rfl rfl rfl rfl (fun hΦ l' h' hw => ⟨hΦ, hw⟩))))
  · rcases lk_argL (args w.heap.size) 0 d with h1 | ⟨x, h1, h2, h3⟩
    · exact .inl h1
    · refine .inr ?_
      rw [h3]
      simp only [Nat.sub_zero] at h1
      simp only [T0, h1]
  · obtain ⟨l, eh, rfl, rfl, hq⟩ := hq
    cases e <;> first
      | exact hq.elim
      | exact resG_sound hfit _ _ hq
end
def runX (g : Gd) (tab : List (TypeId × TI)) (ops : List Oper) (mm e n r0 : Nat) (Q : List (Nat × AV) → EH → Prop) (l : List (Nat × AV)) (h : EH) : Prop :=
  match nth h r0 with
  | none => False
  | some ee => runS g tab ops (fun l2 h2 => match nth ops e with
    | none => False
    | some o => match o.guard with
      | some _ => False
      | none => match o.op with
        | .call c => match c.callee with
          | .builtin .append => match c.args.toList with
            | [.tmp ts, x] => match lkT l2 ts with
              | .t (.c (.own r)) => match Nat.beq r r0 with
                | true => apG g tab (lkT l2) (setL h2 r0 ee) c (fun _ h3 => match nth h3 (lenL h2) with
                  | some (.rw ab) => g .N (plainE ab.es = true) (runS g tab ops (fun l4 h4 => match Nat.beq (lenL h4) (lenL h + n) with
                    | true => runS g tab ops Q (ops.drop mm) 0 l4 (h4 ++ [.rw ab])
                    | false => False) ((ops.drop (e + 1)).take (mm - e - 1)) (mm - e - 1) (putT l2 o.dst (.t (.c (.own (lenL h + n))))) h2)
                  | _ => False)
                | false => False
              | _ => False
            | _ => False
          | _ => False
        | _ => False) (ops.take e) e l (hidG [r0] h)
section
variable {P : Program} {tab : List (TypeId × TI)} {n0 N : Nat}
theorem runX_sound {β : BP} (hf : Fits P tab) {id : Nat} {os : List Oper} {mm e n r0 : Nat} {Q : List (Nat × AV) → EH → Prop} {l : List (Nat × AV)} {h : EH} (hem : e < mm) (hmm : mm ≤ os.length) (hok : textOk N os.toArray = true) (hB : drawB os.toArray mm = true)
    (hp : runX (G0 P n0 N) tab os mm e n r0 Q l h) {Q' : Exit → (Nat → AV) → AH → Prop} (hQ : Q' .normal = QH Q) : VC P n0 N (.region id os.toArray true) Q' (lkT l) (toH h) := by
  unfold runX at hp
  split at hp
  · exact hp.elim
  rename_i ee hee
  rw [nth_eq] at hee
  have hrh : r0 < h.length := (List.getElem?_eq_some_iff.1 hee).1
  have hr0' : r0 < (toH h).length := by rw [toH_len]; exact hrh
  refine vc_eff mm e [r0] (E := fun o T H res X => AOk P o H r0 (lenL h + n) T res X) (LK := fun L => L = lenL h + n) ?_ ?_ ?_ hem hf.mix hok hB ?_
  · rintro L o T H res X rfl _ hx
    exact hx.sem
  · rintro o T T' H res X hx ⟨c, ts, x, new, g1, g2, g3, g4, g5, g6, g7, g8⟩
    have e1 : ∀ y ∈ c.args.toList, ev T y = ev T' y := fun y hy => hx y (by rw [g1]; simp [Op.operands, Call.operands]; right; simpa using hy)
    refine ⟨c, ts, x, new, g1, g2, ?_, g4, g5, g6, g7, ?_⟩
    · have := e1 (.tmp ts) (by rw [g2]; simp)
      simp only [ev] at this
      rw [← this]; exact g3
    · unfold apA at g8 ⊢
      split at g8
      · rename_i s x' t t' hcal hargs hty
        rw [hargs] at e1
        rw [← e1 s (by simp), ← e1 x' (by simp)]
        exact g8
      · exact g8.elim
  · rintro o T H res X ⟨c, ts, x, new, g1, g2, g3, g4, g5, g6, g7, g8⟩ r hr
    simp only [List.mem_singleton] at hr
    subst hr
    exact ⟨g4, .inl hr0'⟩
  have hlt : e < os.length := by omega
  have hn : nth os e = some os[e] := by rw [nth_eq]; exact List.getElem?_eq_getElem hlt
  have hsplit : os.take mm = os.take e ++ (os[e] :: (os.drop (e + 1)).take (mm - e - 1)) := by
    rw [show os.take mm = os.take (e + (mm - e)) by rw [show e + (mm - e) = mm by omega], List.take_add, List.drop_eq_getElem_cons hlt, show mm - e = (mm - e - 1) + 1 by omega, List.take_succ_cons]
    rw [show mm - e - 1 + 1 - 1 = mm - e - 1 by omega]
  rw [hsplit]
  have h2 := runS_sound hf (ops := os.toArray) _ _ _ _ hp
  have hH1 : toH (hidG [r0] h) = hid [r0] (toH h) := hidG_hid [r0] h
  have e3 : (os.take e).drop e = [] := by rw [List.drop_eq_nil_iff, List.length_take]; omega
  have e4 : (os.take e).take e = os.take e := by rw [List.take_take, Nat.min_self]
  have hte : (os.take e).length = e := by rw [List.length_take]; omega
  rw [e3, e4, hH1] at h2
  refine headE_pre _ 0 _ _ (by simpa using hr0') h2 (by omega) (fun T tl hq => ?_)
  rw [hte, show 0 + e = e by omega]
  obtain ⟨l2, eh2, rfl, hh2, hq2⟩ := hq
  rw [hn] at hq2
  simp only at hq2
  split at hq2
  · exact hq2.elim
  rename_i hg
  split at hq2
  · rename_i c hop
    split at hq2
    · rename_i hcal
      split at hq2
      · rename_i ts x harg
        split at hq2
        · rename_i r ht
          split at hq2
          · rename_i hbr
            obtain rfl := bt hbr
            have hfull : toH (setL eh2 r ee) = toH h ++ tl := by
              have hl2 : eh2.length = (toH h ++ tl).length := by rw [← toH_len eh2, ← hh2, hid_len]
              have hrl : r < eh2.length := by rw [hl2, List.length_append]; omega
              apply List.ext_getElem?
              intro r'
              rw [setL_eq]
              simp only [toH, List.getElem?_map, List.getElem?_set]
              by_cases hr : r = r'
              · subst hr
                rw [if_pos rfl, if_pos hrl, List.getElem?_append_left (by simpa [toH] using hrh), List.getElem?_map, hee]
              · rw [if_neg hr]
                have := congrArg (fun l => l[r']?) hh2
                simp only [toH, List.getElem?_map] at this
                rw [← this]
                have h3 := hid_out (h := toH h ++ tl) (σ := [r]) (r := r') (by simpa using fun h => hr h.symm)
                simp only [toH] at h3
                exact h3
            have hap := apG_sound hf hcal hq2
            rw [hfull] at hap
            obtain ⟨new, g1, g2, eh3, g3, g4⟩ := apA_own harg ht hap
            have hlen3 : lenL eh2 = (toH h ++ tl).length := by rw [lenL_eq, ← toH_len eh2, ← hh2, hid_len]
            split at g4
            · rename_i ab hab
              have hnew : ab = new := by
                rw [nth_eq, hlen3] at hab
                have h6 : (toH eh3)[(toH h ++ tl).length]? = some (.live ab) := by
                  show (eh3.map EE.e)[(toH h ++ tl).length]? = _
                  rw [List.getElem?_map, hab]; rfl
                rw [g3, List.getElem?_append_right (by rw [List.length_set]; exact Nat.le_refl _), List.length_set, Nat.sub_self] at h6
                simpa using h6.symm
              subst hnew
              obtain ⟨hpl, g5⟩ := g4
              unfold headE
              rw [if_pos rfl]
              refine ⟨hg, _, [.gone, .live ab], ⟨c, ts, x, ab, hop, harg, ht, g1, hpl, rfl, rfl, g2⟩, ?_⟩
              have h4 := runS_sound hf (ops := os.toArray) _ _ _ _ g5
              have e5 : ((os.drop (e + 1)).take (mm - e - 1)).drop (mm - e - 1) = [] := by rw [List.drop_eq_nil_iff, List.length_take]; omega
              have e6 : ((os.drop (e + 1)).take (mm - e - 1)).take (mm - e - 1) = (os.drop (e + 1)).take (mm - e - 1) := by rw [List.take_take, Nat.min_self]
              rw [e5, e6, ← hh2] at h4
              rw [put_lk]
              have hr1 : ∀ r' ∈ [r], r' < (toH h ++ tl).length := fun r' hr => by simp only [List.mem_singleton] at hr; subst hr; exact g1
              refine headE_post _ _ _ _ hr1 h4 (by omega) (fun T tl2 hq => ?_)
              obtain ⟨l4, eh4, rfl, hh4, hq4⟩ := hq
              split at hq4
              · rename_i hb4
                have hl4 : eh4.length = lenL h + n := by have := bt hb4; rw [lenL_eq] at this; exact this
                have hL : (toH h ++ tl ++ tl2).length = lenL h + n := by rw [← hl4, ← toH_len eh4, ← hh4, hid_len]
                refine ⟨hL, ?_⟩
                have h5 := runS_sound hf (ops := os.toArray) _ _ _ _ hq4
                rw [hQ]
                have hbk : bck [r] (toH h ++ tl ++ tl2) [.gone, .live ab] = toH (eh4 ++ [.rw ab]) := by
                  rw [← bck_hid, hh4]
                  have hr4 : r < eh4.length := by rw [hl4, ← hL, List.length_append, List.length_append]; omega
                  rw [bck_app (by rw [toH_len]; exact hr4) hpl]
                  have hg4 : (toH eh4)[r]? = some .gone := by rw [← hh4]; exact hid_in (by simp) (by rw [hL, ← hl4]; exact hr4)
                  have : (toH eh4).set r .gone = toH eh4 := by
                    apply List.ext_getElem?
                    intro r'
                    rw [List.getElem?_set]
                    split
                    · rename_i hr
                      subst hr
                      rw [hg4, if_pos (by rw [toH_len]; exact hr4)]
                    · rfl
                  rw [this, toH_app]; rfl
                rw [hbk]
                simpa [headA] using h5
              · exact hq4.elim
            · exact g4.elim
          · exact hq2.elim
        · exact hq2.elim
      · exact hq2.elim
    · exact hq2.elim
  · exact hq2.elim
theorem hand_app {β : BP} {g : Gd} {hd : HF} (hg : g = G0 P n0 N) (hhd : hd = hd0 P n0 N) (hfit : Fits P tab) {id : Nat} {os : List Oper} (mm e n r0 : Nat) (hem : Nat.blt e mm = true) (hmm : Nat.ble mm (lenL os) = true) (hok : textOk N os.toArray = true) (hB : drawB os.toArray mm = true)
    {Q : Exit → List (Nat × AV) → EH → Prop} {l : List (Nat × AV)} {h : EH} (hp : runX g tab os mm e n r0 (fun l h => Q .normal l h) l h) : hd (.region id os.toArray true) Q l h := by
  subst hg hhd
  refine runX_sound hfit (blt hem) (by have := bl hmm; rwa [lenL_eq] at this) hok hB hp ?_
  rfl
end
theorem okM_gt {U : MU} {bs : List Nat} {xs : List (List AC)} {hi : Nat} (h : ∀ b ∈ bs, hi ≤ b) (hU : ∀ u ∈ U, ∀ b ∈ u.1, b < hi) : okM U (.fv bs xs) := fun b hb u hu hbu => by have := h b hb; have := hU u hu b hbu; omega
theorem okM_old {U : MU} {p lo : Nat} {xs : List (List AC)} (h : p ≤ lo) (hU : ∀ u ∈ U, ∀ b ∈ u.1, lo ≤ b) : okM U (.old p xs) := fun u hu b hb => Nat.le_trans h (hU u hu b hb)
theorem TCon.mono {P : Program} {f : FuncId} {args : List AT} {Post Post' : Nat → AV → List AB → Prop} (hc : TCon P f args Post) (hi : ∀ lo res rows, Post lo res rows → Post' lo res rows) : TCon P f args Post' := fun lo =>
  @Con.mono ⟨lo, fun _ => False⟩ P f [] args _ _ (hc lo) fun res h' ⟨rows, h1, h2⟩ => ⟨rows, h1, hi lo res rows h2⟩
end Go.Proofs.YtenbloaopcfdlaaGreat.Am
