/- A part of AM, a framework of the prover own: functions of any program as maps of data. -/
import Derived.Test.YtgcofllgbdcicaaGreatAmM
import Derived.Tactics
namespace Go.Proofs.YtgcofllgbdcicaaGreat.Am
open Go.RowKit
set_option linter.unusedVariables false
set_option linter.unusedSimpArgs false

def put (T : Nat → AV) (dst : Option Tmp) (v : AV) : Nat → AV :=
  match dst with
  | none => T
  | some d => fun i => if i = d then v else T i
def dstOk (N : Nat) (o : Oper) : Bool := match o.dst with | none => true | some d => decide (d < N)
structure Rel (F : Nat → Prop) (w0 : World) (m0 : AM) (h0 : AH) (N : Nat) (T : Nat → AV) (h : AH) (a : Act) (w : World) (m : AM) : Prop where
  tm : RTm F w m h T a
  st : Step F w0 m0 h0 w m h
  df : a.defers = []
  sz : a.tmps.size = N
section
variable {P : Program} {F : Nat → Prop} {w0 w w' : World} {m0 m m' : AM} {h0 h h' : AH} {N n : Nat} {T : Nat → AV} {a : Act}
theorem put_defers (a : Act) (dst : Option Tmp) (v : Value) : (a.put dst v).defers = a.defers := by cases dst <;> rfl
theorem put_size (a : Act) (dst : Option Tmp) (v : Value) : (a.put dst v).tmps.size = a.tmps.size := by cases dst <;> simp [Act.put]
theorem put_get (a : Act) (dst : Option Tmp) (v : Value) (d : Nat) : (a.put dst v).tmps.getD d undef = if dst = some d ∧ d < a.tmps.size then v else a.tmps.getD d undef := by
  cases dst with
  | none => simp [Act.put]
  | some e =>
    simp only [Act.put, Array.getD_eq_getD_getElem?, Array.getElem?_setIfInBounds]
    by_cases he : e = d
    · subst he
      by_cases hl : e < a.tmps.size
      · simp [hl]
      · simp [hl]
    · simp [he]
theorem RTm.put {o : Oper} (ho : dstOk a.tmps.size o = true) (hT : RTm F w m h T a) {res : AV} {v : Value} (hv : RV F w m h res v) : RTm F w m h (put T o.dst res) (a.put o.dst v) := by
  intro d
  rw [put_get]
  unfold dstOk at ho
  unfold Am.put
  cases hd : o.dst with
  | none => simp only [reduceCtorEq, false_and, if_false]; exact hT d
  | some e =>
    simp only [hd, decide_eq_true_eq] at ho
    simp only [Option.some.injEq]
    by_cases he : d = e
    · subst he
      rw [if_pos rfl, if_pos ⟨rfl, ho⟩]; exact hv
    · rw [if_neg he, if_neg (fun hx => he hx.1.symm)]; exact hT d
theorem RTm.step (s : Step F w m h w' m' h') (hH : RH F w m h) (hT : RTm F w m h T a) : RTm F w' m' h' T a := fun d => RV.step s hH (hT d)
theorem Rel.next (r : Rel F w0 m0 h0 N T h a w m) {o : Oper} (ho : dstOk N o = true) (s : Step F w m h w' m' h') {res : AV} {v : Value} (hv : RV F w' m' h' res v) : Rel F w0 m0 h0 N (put T o.dst res) h' (a.put o.dst v) w' m' :=
  ⟨RTm.put (by rw [r.sz]; exact ho) (RTm.step s r.st.hp r.tm) hv, r.st.trans s, by rw [put_defers]; exact r.df, by rw [put_size]; exact r.sz⟩
theorem Rel.nextG {F1 : Nat → Prop} (r : Rel F w0 m0 h0 N T h a w m) {o : Oper} (ho : dstOk N o = true) (hF : ∀ b, F b → F1 b) (s : Step F1 w m h w' m' h') {res : AV} {v : Value} (hv : RV F1 w' m' h' res v) : Rel F1 w0 m0 h0 N (put T o.dst res) h' (a.put o.dst v) w' m' :=
  ⟨RTm.put (by rw [r.sz]; exact ho) (fun d => RV.stepG s hF r.st.hp (r.tm d)) hv, r.st.trans s, by rw [put_defers]; exact r.df, by rw [put_size]; exact r.sz⟩
theorem Rel.skip (r : Rel F w0 m0 h0 N T h a w m) {o : Oper} (ho : dstOk N o = true) : Rel F w0 m0 h0 N (put T o.dst (.t (.c (.imm undef)))) h (a.put o.dst undef) w m := r.next ho (Step.refl r.st.hp) rfl

/-- A guard. -/
def grd (ops : Array Oper) (o : Oper) (T : Nat → AV) (A B : Prop) : Prop :=
  match o.guard with
  | none => A
  | some (g, want) => match (ops[g]?).bind (·.dst) with
    | some t => match T t with
      | .t (.c (.imm (.bool b))) => (b = want → A) ∧ (b = !want → B)
      | .t (.c (.imm _)) => B
      | _ => False
    | none => B
theorem grd_sound {ops : Array Oper} {o : Oper} {A B : Prop} (hN : ∀ g t, o.guard = some g → (ops[g.1]?).bind (·.dst) = some t → t < a.tmps.size) (hT : ∀ g t, o.guard = some g → (ops[g.1]?).bind (·.dst) = some t → RV F w m h (T t) (a.tmps.getD t undef)) (hg : grd ops o T A B) :
    (Region.wanted o (yielded ops a.tmps) = true ∧ A) ∨ (Region.wanted o (yielded ops a.tmps) = false ∧ B) := by
  unfold grd at hg
  unfold Region.wanted
  split at hg
  · rename_i hgd; rw [hgd]; exact .inl ⟨rfl, hg⟩
  · rename_i g want hgd
    rw [hgd]
    simp only
    split at hg
    · rename_i t ht
      have hlt := hN (g, want) t hgd ht
      have hv := hT (g, want) t hgd ht
      have hy : yielded ops a.tmps g = match a.tmps.getD t undef with | .bool b => some b | _ => none := by
        unfold yielded
        rw [ht]
        simp only [Option.bind_some, Array.getD_eq_getD_getElem?]
        rw [Array.getElem?_eq_getElem hlt]
        simp only [Option.getD_some]
        split <;> simp_all
      rw [hy]
      split at hg
      · rename_i b hb
        rw [hb] at hv
        have hv' : a.tmps.getD t undef = .bool b := hv
        rw [hv']
        by_cases hbw : b = want
        · exact .inl ⟨by simp [hbw], hg.1 hbw⟩
        · refine .inr ⟨by simpa using hbw, hg.2 ?_⟩
          cases b <;> cases want <;> simp_all
      · rename_i u hnb hu
        rw [hu] at hv
        have hv' : a.tmps.getD t undef = u := hv
        rw [hv']
        refine .inr ⟨?_, hg⟩
        cases u <;> first | rfl | (rename_i b; exact (hnb b rfl).elim)
      · exact hg.elim
    · rename_i ht
      refine .inr ⟨?_, hg⟩
      unfold yielded
      rw [ht]
      rfl
/-- A region whose order is the text's. -/
def seqA (P : Program) (ops : Array Oper) (Q : (Nat → AV) → AH → Prop) : List Oper → (Nat → AV) → AH → Prop
  | [], T, h => Q T h
  | o :: os, T, h => grd ops o T (opA P T h o.op fun res h' => seqA P ops Q os (put T o.dst res) h') (seqA P ops Q os (put T o.dst (.t (.c (.imm undef)))) h)
/-- Where a post over abstract states stands in the machine. -/
def Meets (F : Nat → Prop) (w0 : World) (m0 : AM) (h0 : AH) (N : Nat) (Q : Exit → (Nat → AV) → AH → Prop) (e : Exit) (a : Act) (w : World) : Prop := ∃ T h m F', Q e T h ∧ Grow F F' w0 m0 h0 ∧ Rel F' w0 m0 h0 N T h a w m
def guardOk (N : Nat) (ops : Array Oper) : Bool := ops.all fun o => match o.guard with | none => true | some (g, _) => match (ops[g]?).bind (·.dst) with | some t => decide (t < N) | none => true
theorem guardOk_spec {ops : Array Oper} (hg : guardOk N ops = true) {o : Oper} (ho : o ∈ ops.toList) : ∀ g t, o.guard = some g → (ops[g.1]?).bind (·.dst) = some t → t < N := by
  intro g t h1 h2
  unfold guardOk at hg
  have := (Array.all_eq_true'.1 hg) o (Array.mem_toList_iff.1 ho)
  rw [h1] at this
  simp only at this
  rw [h2] at this
  simpa using this
theorem Grow.comp {F0 F1 F2 : Nat → Prop} (hG : Grow F0 F1 w0 m0 h0) (hG' : Grow F1 F2 w0 m0 h0) : Grow F0 F2 w0 m0 h0 :=
  ⟨fun b hb => hG'.1 b (hG.1 b hb), fun b hb => by
    rcases hG'.2 b hb with h1 | h1 | h1
    · exact hG.2 b h1
    · exact .inr (.inl h1)
    · exact .inr (.inr h1)⟩
theorem Meets.grow {F0 : Nat → Prop} {Q : Exit → (Nat → AV) → AH → Prop} {e : Exit} (hG : Grow F0 F w0 m0 h0) (hm : Meets F w0 m0 h0 N Q e a w) : Meets F0 w0 m0 h0 N Q e a w := by
  obtain ⟨T, h, m, F', hq, hG', r⟩ := hm
  exact ⟨T, h, m, F', hq, ⟨fun b hb => hG'.1 b (hG.1 b hb), fun b hb => by
    rcases hG'.2 b hb with h1 | h1 | h1
    · exact hG.2 b h1
    · exact .inr (.inl h1)
    · exact .inr (.inr h1)⟩, r⟩
theorem Rel.grow {F0 F1 : Nat → Prop} (r : Rel F w0 m0 h0 N T h a w m) (hG : Grow F0 F w0 m0 h0) (hG1 : Grow F F1 w m h) : Grow F0 F1 w0 m0 h0 := hG.trans r.st hG1
theorem seqA_sound {ops : Array Oper} {F0 : Nat → Prop} {Q : Exit → (Nat → AV) → AH → Prop} (hg : guardOk N ops = true) : ∀ (l : List Oper) (F : Nat → Prop) (T : Nat → AV) (h : AH) (a : Act) (w : World) (m : AM), (∀ o ∈ l, o ∈ ops.toList) → l.all (dstOk N) = true → Grow F0 F w0 m0 h0 → Rel F w0 m0 h0 N T h a w m →
    seqA P ops (Q .normal) l T h → wpList P ops (Meets F0 w0 m0 h0 N Q) l a w
  | [], F, T, h, a, w, m, _, _, hG, r, hs => ⟨T, h, m, F, hs, hG, r⟩
  | o :: os, F, T, h, a, w, m, hmem, hd, hG, r, hs => by
    simp only [List.all_cons, Bool.and_eq_true] at hd
    unfold seqA at hs
    unfold wpList
    rcases grd_sound (a := a) (fun g t h1 h2 => by rw [r.sz]; exact guardOk_spec hg (hmem o (by simp)) g t h1 h2) (fun g t _ _ => r.tm t) hs with ⟨hw, hA⟩ | ⟨hw, hB⟩
    · rw [if_pos hw]
      left
      refine (opA_sound r.st.hp r.tm hA).wp (fun v w' ⟨res, h', m', F1, hK, hG1, hs, hv⟩ => ?_)
      exact seqA_sound hg os F1 _ _ _ _ _ (fun o' ho' => hmem o' (by simp [ho'])) hd.2 (r.grow hG hG1) (r.nextG hd.1 hG1.1 hs hv) hK
    · rw [if_neg (by rw [hw]; simp)]
      exact seqA_sound hg os F _ _ _ _ _ (fun o' ho' => hmem o' (by simp [ho'])) hd.2 hG (r.skip hd.1) hB
end
end Go.Proofs.YtgcofllgbdcicaaGreat.Am
