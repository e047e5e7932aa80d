/- A part of AM, a framework of the prover own: functions of any program as maps of data. -/
import Derived.Test.YtgcofllgbdcicaaGreatAmO
namespace Go.Proofs.YtgcofllgbdcicaaGreat.Am
open Go.RowKit
set_option linter.unusedVariables false
set_option linter.unusedSimpArgs false

/-- What a guard says, as far as it is known. -/
def gval (ops : Array Oper) (o : Oper) (T : Nat → AV) : Option Bool :=
  match o.guard with
  | none => some true
  | some (g, want) => match (ops[g]?).bind (·.dst) with
    | some t => match T t with
      | .t (.c (.imm (.bool b))) => some (b == want)
      | .t (.c (.imm _)) => some false
      | _ => none
    | none => some false
theorem grd_gval {ops : Array Oper} {o : Oper} {T : Nat → AV} {A B : Prop} (hg : grd ops o T A B) : (gval ops o T = some true ∧ A) ∨ (gval ops o T = some false ∧ B) := by
  unfold grd at hg
  unfold gval
  cases hgd : o.guard with
  | none => rw [hgd] at hg; exact .inl ⟨rfl, hg⟩
  | some gw =>
    obtain ⟨g, want⟩ := gw
    rw [hgd] at hg
    simp only at hg ⊢
    cases ht : (ops[g]?).bind (·.dst) with
    | none => rw [ht] at hg; exact .inr ⟨rfl, hg⟩
    | some t =>
      rw [ht] at hg
      simp only at hg ⊢
      split at hg
      · rename_i b hb
        rw [hb]
        simp only
        by_cases hbw : b = want
        · exact .inl ⟨by simp [hbw], hg.1 hbw⟩
        · refine .inr ⟨by simpa using hbw, hg.2 ?_⟩
          cases b <;> cases want <;> simp_all
      · rename_i u hnb hu
        rw [hu]
        refine .inr ⟨?_, hg⟩
        cases u <;> first | rfl | (rename_i b; exact (hnb b rfl).elim)
      · exact hg.elim
theorem gval_sound {F : Nat → Prop} {w : World} {m : AM} {h : AH} {ops : Array Oper} {o : Oper} {T : Nat → AV} {a : Act} {b : Bool}
    (hN : ∀ g t, o.guard = some g → (ops[g.1]?).bind (·.dst) = some t → t < a.tmps.size) (hT : ∀ g t, o.guard = some g → (ops[g.1]?).bind (·.dst) = some t → RV F w m h (T t) (a.tmps.getD t undef))
    (hg : gval ops o T = some b) : Region.wanted o (yielded ops a.tmps) = b := by
  have key : grd ops o T (b = true) (b = false) := by
    unfold gval at hg
    unfold grd
    cases hgd : o.guard with
    | none => rw [hgd] at hg; cases hg; rfl
    | some gw =>
      obtain ⟨g, want⟩ := gw
      rw [hgd] at hg
      simp only at hg ⊢
      cases ht : (ops[g]?).bind (·.dst) with
      | none => rw [ht] at hg; cases hg; rfl
      | some t =>
        rw [ht] at hg
        simp only at hg ⊢
        split at hg
        · rename_i q hq
          cases hg
          rw [hq]
          exact ⟨fun h1 => by simp [h1], fun h1 => by rw [h1]; simp⟩
        · rename_i u hnb hu
          cases hg
          rw [hu]
          cases u <;> first | rfl | (rename_i b; exact (hnb b rfl).elim)
        · cases hg
  rcases grd_sound hN hT key with ⟨h1, h2⟩ | ⟨h1, h2⟩
  · rw [h1, h2]
  · rw [h1, h2]

/-- The head of a region that draws its order: operations that write nothing, each with one outcome. -/
def headA (P : Program) (ops : Array Oper) (K : (Nat → AV) → AH → Prop) : List Oper → (Nat → AV) → AH → Prop
  | [], T, h => K T h
  | o :: os, T, h => grd ops o T (∃ res rows, popP P T h h.length o.op (fun r s => r = res ∧ s = rows) ∧ headA P ops K os (put T o.dst res) (h ++ rows.map .live)) (headA P ops K os (put T o.dst (.t (.c (.imm undef)))) h)
/-- What the text's order comes to, operation by operation. -/
structure Trace (P : Program) (ops : Array Oper) (l : List Oper) (T : Nat → AV) (h : AH) (Ts : Nat → Nat → AV) (Hs : Nat → AH) (R : Nat → AV) (Rw : Nat → List AB) (W : Nat → Bool) : Prop where
  t0 : Ts 0 = T
  h0 : Hs 0 = h
  at_ : ∀ (i : Nat) (o : Oper), l[i]? = some o → gval ops o (Ts i) = some (W i) ∧ (W i = true → popP P (Ts i) (Hs i) (Hs i).length o.op (fun r s => r = R i ∧ s = Rw i)) ∧ (W i = false → R i = .t (.c (.imm undef)) ∧ Rw i = []) ∧
    Ts (i + 1) = put (Ts i) o.dst (R i) ∧ Hs (i + 1) = Hs i ++ (Rw i).map .live
theorem trace_of {P : Program} {ops : Array Oper} {K : (Nat → AV) → AH → Prop} : ∀ (l : List Oper) (T : Nat → AV) (h : AH), headA P ops K l T h → ∃ Ts Hs R Rw W, Trace P ops l T h Ts Hs R Rw W ∧ K (Ts l.length) (Hs l.length)
  | [], T, h, hh => ⟨fun _ => T, fun _ => h, fun _ => .t (.c .dead), fun _ => [], fun _ => false, ⟨rfl, rfl, fun i o hi => by simp at hi⟩, hh⟩
  | o :: os, T, h, hh => by
    unfold headA at hh
    have cons : ∀ (res : AV) (rows : List AB) (b : Bool), gval ops o T = some b → (b = true → popP P T h h.length o.op (fun r s => r = res ∧ s = rows)) → (b = false → res = .t (.c (.imm undef)) ∧ rows = []) →
        headA P ops K os (put T o.dst res) (h ++ rows.map .live) → ∃ Ts Hs R Rw W, Trace P ops (o :: os) T h Ts Hs R Rw W ∧ K (Ts (o :: os).length) (Hs (o :: os).length) := by
      intro res rows b hb h1 h2 h3
      obtain ⟨Ts, Hs, R, Rw, W, ht, hK⟩ := trace_of os _ _ h3
      refine ⟨fun i => match i with | 0 => T | i + 1 => Ts i, fun i => match i with | 0 => h | i + 1 => Hs i, fun i => match i with | 0 => res | i + 1 => R i, fun i => match i with | 0 => rows | i + 1 => Rw i, fun i => match i with | 0 => b | i + 1 => W i, ⟨rfl, rfl, fun i o' hi => ?_⟩, hK⟩
      cases i with
      | zero =>
        simp only [List.getElem?_cons_zero, Option.some.injEq] at hi
        subst hi
        exact ⟨hb, h1, h2, ht.t0, ht.h0⟩
      | succ i =>
        simp only [List.getElem?_cons_succ] at hi
        exact ht.at_ i o' hi
    rcases grd_gval hh with ⟨hb, res, rows, h1, h2⟩ | ⟨hb, h2⟩
    · exact cons res rows true hb (fun _ => h1) (fun h => by cases h) h2
    · exact cons _ [] false hb (fun h => by cases h) (fun _ => ⟨rfl, rfl⟩) (by simpa using h2)

/-- What the any-order theorem asks of a region's text: m operations in the head. -/
def headB (ops : Array Oper) (m : Nat) : Bool :=
  (List.range m).all fun i => match ops[i]? with
    | none => false
    | some o => (o.after.all fun e => !Region.binds .any e || decide (e.on < i)) &&
      ((List.range m).all fun j => match (ops[j]?).bind (·.dst) with
        | none => true
        | some d => (i == j || o.dst != some d) && (!(o.looksAt ops).contains d || (decide (j < i) && Region.waitsFor .any ops i j)))
def drawB (ops : Array Oper) (m : Nat) : Bool :=
  decide (m ≤ ops.size) && headB ops m && (decide (m = ops.size) || (Region.sinkB .any ops m && Region.chainB .any ops m)) &&
    Region.seqB .any ops (ops.size - m) m ((Array.range ops.size).map fun i => decide (i < m))
section
variable {F : Nat → Prop} {w w' : World} {m m' : AM} {h h' : AH} {n : Nat}
/-- Rows put into the places that were kept for them. -/
theorem Step.of_out_at {F1 : Nat → Prop} (hH : RH F w m h) (hF1 : ∀ b, F b → F1 b) (hF2 : ∀ b, F1 b → F b ∨ w.heap.size ≤ b) (hF3 : ∀ b, F1 b → b < w'.heap.size) {res : AV} {rows : List AB} {v : Value} {nb : AM} (ho : Below w.heap.size w w') (hnl : nb.length = rows.length) (hnb : ∀ (j b c : Nat), nb[j]? = some (some (b, c)) → w.heap.size ≤ b ∧ b < w'.heap.size ∧ ¬ F1 b)
    (hnd : ∀ (j j' b c c' : Nat), nb[j]? = some (some (b, c)) → nb[j']? = some (some (b, c')) → j = j')
    (hout : RV F1 w' m' h' res v ∧ (∀ (j : Nat) (ab : AB), rows[j]? = some ab → nb[j]? = some none → ab.es.length = 0) ∧ ∀ (j : Nat) (ab : AB) (b c : Nat), rows[j]? = some ab → nb[j]? = some (some (b, c)) → RB F1 w' m' h' b c ab)
    (hk : Keeps m h m' h') (hlen : m'.length = h'.length) (hat : ∀ (r : Nat) (ab : AB), h'[r]? = some (.live ab) → (h[r]? = some (.live ab) ∧ m'[r]? = m[r]?) ∨ ∃ j, r = n + j ∧ rows[j]? = some ab ∧ m'[r]? = nb[j]?) :
    Step F1 w m h w' m' h' := by
  obtain ⟨hv, hne, hrb⟩ := hout
  have hfor : ∀ b, F b → w'.heap[b]? = w.heap[b]? := fun b hf => ho.block b (hH.old b hf)
  refine ⟨⟨fun r ab h1 => ?_, fun r r' ab ab' b c c' h1 h2 h3 h4 => ?_, hlen, hF3⟩, hk, ho.os, ho.tape, ho.output, ho.size, fun b hlt _ => ho.block b hlt, fun r ab b c h1 h2 => ?_⟩
  · rcases hat r ab h1 with ⟨h3, hm⟩ | ⟨j, rfl, h3, hm⟩
    · rw [hm]
      rcases hH.at_ r ab h3 with h4 | ⟨b, c, h4, h5, h6⟩
      · exact .inl h4
      · exact .inr ⟨b, c, h4, fun hf => (hF2 b hf).elim h5 (fun hx => by have := (hH.lt h3 h4).2; omega), RB.ext hF1 hfor hk (ho.block b (hH.lt h3 h4).2) h6⟩
    · rw [hm]
      have hjl : j < nb.length := by rw [hnl]; exact (List.getElem?_eq_some_iff.1 h3).1
      cases hq : nb[j]? with
      | none => rw [List.getElem?_eq_none_iff] at hq; omega
      | some q =>
        cases q with
        | none => exact .inl ⟨rfl, hne _ _ h3 hq⟩
        | some bc =>
          obtain ⟨b, c⟩ := bc
          exact .inr ⟨b, c, rfl, (hnb _ _ _ hq).2.2, hrb _ _ _ _ h3 hq⟩
  · rcases hat r ab h1 with ⟨h5, hm⟩ | ⟨j, rfl, h5, hm⟩ <;> rcases hat r' ab' h2 with ⟨g5, gm⟩ | ⟨j', rfl, g5, gm⟩ <;> rw [hm] at h3 <;> rw [gm] at h4
    · exact hH.inj r r' ab ab' b c c' h5 g5 h3 h4
    · have := (hH.lt h5 h3).2; have := (hnb _ _ _ h4).1; omega
    · have := (hH.lt g5 h4).2; have := (hnb _ _ _ h3).1; omega
    · rw [hnd _ _ _ _ _ h3 h4]
  · rcases hat r ab h1 with ⟨h5, hm⟩ | ⟨j, rfl, h5, hm⟩ <;> rw [hm] at h2
    · exact .inl ⟨r, ab, c, h5, h2⟩
    · exact .inr (hnb _ _ _ h2).1
end
end Go.Proofs.YtgcofllgbdcicaaGreat.Am
