/- A part of AM, a framework of the prover own: functions of any program as maps of data. -/
import Derived.Test.YtenbloaopcfdlaaAmAF
namespace Go.Proofs.Ytenbloaopcfdlaa.Am
open Go.RowKit
set_option linter.unusedVariables false
set_option linter.unusedSimpArgs false

/-! ### A region that draws its order, with reads in its head that may come late: after an operation that writes -/
def subs : List Nat → List (List Nat)
  | [] => [[]]
  | z :: l => subs l ++ (subs l).map (z :: ·)
theorem filter_subs (p : Nat → Bool) : ∀ l : List Nat, l.filter p ∈ subs l
  | [] => by simp [subs]
  | z :: l => by
    have := filter_subs p l
    simp only [List.filter_cons, subs, List.mem_append, List.mem_map]
    cases p z
    · exact .inl (by simpa using this)
    · exact .inr ⟨_, this, rfl⟩
def readOp : Op → Bool
  | .move _ | .load _ _ | .extract _ _ | .fieldAddr _ _ _ => true
  | _ => false
/-- Every operation of the head but those of Z is waited for by the first one behind it. -/
def sinkZ (ops : Array Oper) (n : Nat) (Z : List Nat) : Bool :=
  (List.range n).all fun i => Z.contains i || (List.range (n + 1)).any fun j => decide (i < j) && !Z.contains j && Region.waitsFor .any ops j i
def lstZ (ops : Array Oper) (mm : Nat) (S : List Nat) : Array Bool := (Array.range ops.size).map fun i => decide (i < mm) && !S.contains i
def lateB (ops : Array Oper) (mm : Nat) (Z : List Nat) (Ss : List (List Nat × OT)) : Bool :=
  decide (mm < ops.size) && headB ops mm && decide Z.Nodup && (Z.all fun z => decide (z < mm) && (match ops[z]? with | some o => readOp o.op | none => false)) && sinkZ ops mm Z && Region.chainB .any ops mm &&
    (subs Z).all fun S => match Ss.find? (fun p => p.1 == S) with | some p => otB ops p.2 (S.length + (ops.size - mm)) (lstZ ops mm S) (Region.ready .any ops (lstZ ops mm S)) true | none => false
def deadT (ops : Array Oper) (S : List Nat) (T : Nat → AV) (d : Nat) : AV := cond (S.any fun i => match (ops[i]?).bind (·.dst) with | some k => Nat.beq k d | none => false) (.t (.c .dead)) (T d)
section
variable {P : Program} {F : Nat → Prop} {w0 : World} {m0 : AM} {h0 : AH} {N mm : Nat} {ops : Array Oper} {T : Nat → AV} {h : AH} {Ts : Nat → Nat → AV} {Hs : Nat → AH} {R : Nat → AV} {Rw : Nat → List AB} {W : Nat → Bool} {Z : List Nat} {Ss : List (List Nat × OT)}
theorem late_waits {listed : Array Bool} (hs : sinkZ ops mm Z = true) (hc : Region.chainB .any ops mm = true) (hn : mm < ops.size) (inv : HeadInv .any ops mm listed) :
    ∀ (d i : Nat), mm - i = d → i < mm → i ∉ Z → listed.getD i true = false → ∀ t, mm ≤ t → t ∉ Region.ready .any ops listed := by
  intro d
  induction d using Nat.strongRecOn with
  | _ d ih =>
    intro i hd hi hiZ hun t ht hr
    obtain ⟨_, ot, hot, hall⟩ := mem_ready.1 hr
    have htlt : t < ops.size := (Array.getElem?_eq_some_iff.1 hot).1
    by_cases htn : t = mm
    · subst htn
      have h1 := List.all_eq_true.1 hs i (List.mem_range.2 hi)
      simp only [Bool.or_eq_true] at h1
      rcases h1 with h1 | h1
      · exact hiZ (by simpa using h1)
      obtain ⟨j, hj, hj2⟩ := List.any_eq_true.1 h1
      simp only [Bool.and_eq_true, decide_eq_true_eq, Bool.not_eq_true'] at hj2
      obtain ⟨oj, hoj, e, he, hb, hon⟩ := Region.waitsFor_spec hj2.2
      have hjle : j ≤ t := by have := List.mem_range.1 hj; omega
      by_cases hjt : j = t
      · subst hjt
        have : oj = ot := Option.some.inj (hoj.symm.trans hot)
        subst this
        have h2 := hall e he hb
        rw [hon, getD_both hun] at h2
        cases h2
      · cases hl : listed.getD j false with
        | true =>
          have h2 := inv.closed j oj hoj hl e he hb
          rw [hon, getD_both hun] at h2
          cases h2
        | false =>
          have hjs : j < listed.size := by rw [inv.size]; omega
          exact ih (t - j) (by omega) j rfl (by omega) (fun hz => by have := hj2.1.2; simp [hz] at this) (getD_in hjs hl) t (Nat.le_refl _) hr
    · have h1 := List.all_eq_true.1 hc t (List.mem_range.2 htlt)
      simp only [Bool.or_eq_true, decide_eq_true_eq] at h1
      rcases h1 with h1 | h1
      · omega
      · obtain ⟨o', ho', e, he, hb, hon⟩ := Region.waitsFor_spec h1
        have : o' = ot := Option.some.inj (ho'.symm.trans hot)
        subst this
        have h2 := hall e he hb
        rw [hon, getD_both (inv.tail (t - 1) (by omega) (by omega))] at h2
        cases h2
theorem read_rows {o : Op} (ho : readOp o = true) {T : Nat → AV} {h : AH} {n : Nat} {R : AV} {Rw : List AB} (hp : popP P T h n o (fun r s => r = R ∧ s = Rw)) : Rw = [] := by
  cases o <;> first | cases ho | skip
  case fieldAddr t x i =>
    simp only [popP, pop] at hp
    split at hp
    · split at hp
      · exact hp.2.symm
      · exact hp.elim
    · exact hp.2.symm
    · exact hp.elim
  · exact hp.2.symm
  · simp only [popP, pop] at hp
    have ld : ∀ {q : Option Nat} {x : List AC} {off : Nat}, ldA q x off (fun v => v = R ∧ [] = Rw) → Rw = [] := fun {q x off} hl => by
      unfold ldA at hl
      cases q with
      | none => obtain ⟨c, _, _, h2⟩ := hl; exact h2.symm
      | some k => exact hl.2.2.symm
    split at hp
    · split at hp
      · obtain ⟨x, _, hl⟩ := hp; exact ld hl
      · exact hp.elim
    · exact ld hp
    · exact hp.elim
  · simp only [popP, pop] at hp
    split at hp
    · obtain ⟨y, _, _, h2⟩ := hp
      exact h2.symm
    · exact hp.elim
theorem any_late {β : BP} {F0 : Nat → Prop} (hB : lateB ops mm Z Ss = true) (hg : guardOk N ops = true) (hd : ops.toList.all (dstOk N) = true) (htr : Trace P ops (ops.toList.take mm) T h Ts Hs R Rw W) {Q : Exit → (Nat → AV) → AH → Prop}
    (htail : ∀ p ∈ Ss, anyO P ops (Q .normal) p.2 (deadT ops p.1 (Ts mm)) (Hs mm)) :
    ∀ (f : Nat) (F : Nat → Prop) (listed : Array Bool) (U : List Nat) (a : Act) (w : World) (m : AM) (hS : AH), Grow F0 F w0 m0 h0 → U.length = f → Mid F w0 m0 h0 N mm ops Ts Hs Rw listed U a w m hS → wpAny P .any ops (Meets F0 w0 m0 h0 N Q) (f + (ops.size - mm)) listed a w := by
  unfold lateB at hB
  simp only [Bool.and_eq_true, decide_eq_true_eq] at hB
  obtain ⟨⟨⟨⟨⟨⟨hlt, hhead⟩, hZn⟩, hZr⟩, hsink⟩, hchain⟩, hsub⟩ := hB
  have hle : mm ≤ ops.size := by omega
  have key : ∀ (F : Nat → Prop) (listed : Array Bool) (U : List Nat) (a : Act) (w : World) (m : AM) (hS : AH), Grow F0 F w0 m0 h0 → Mid F w0 m0 h0 N mm ops Ts Hs Rw listed U a w m hS → (∀ i ∈ U, i ∈ Z) → wpAny P .any ops (Meets F0 w0 m0 h0 N Q) (U.length + (ops.size - mm)) listed a w := by
    intro F listed U a w m hS hG M hUZ
    obtain ⟨S, hSd⟩ : ∃ S, S = Z.filter fun i => U.contains i := ⟨_, rfl⟩
    have hSm : ∀ i, i ∈ S ↔ i ∈ U := fun i => by
      rw [hSd, List.mem_filter]
      simp only [List.contains_iff_mem]
      exact ⟨fun h => h.2, fun h => ⟨hUZ i h, h⟩⟩
    have hSn : S.Nodup := by rw [hSd]; exact hZn.filter _
    have hSl : S.length = U.length := Nat.le_antisymm (hSn.length_le_of_subset fun i hi => (hSm i).1 hi) (M.nodup.length_le_of_subset fun i hi => (hSm i).2 hi)
    have hl : listed = lstZ ops mm S := by
      apply Array.ext_getElem?
      intro i
      by_cases hi : i < ops.size
      · have hil : i < listed.size := by rw [M.inv.size]; exact hi
        have e2 : (lstZ ops mm S)[i]? = some (decide (i < mm) && !S.contains i) := by simp [lstZ, hi]
        rw [e2, Array.getElem?_eq_getElem hil]
        congr 1
        have hgd : listed.getD i true = listed[i] := by simp [Array.getD, hil]
        by_cases him : i < mm
        · have h1 := M.un i
          rw [← hSm i, hgd] at h1
          cases hx : listed[i] with
          | true =>
            rw [hx] at h1
            have : i ∉ S := fun h => by have := (h1.1 h).2; cases this
            simp [him, this]
          | false =>
            rw [hx] at h1
            have : i ∈ S := h1.2 ⟨him, rfl⟩
            simp [him, this]
        · have h1 := M.inv.tail i (by omega) hi
          rw [hgd] at h1
          simp [him, h1]
      · rw [Array.getElem?_eq_none (by rw [M.inv.size]; omega), Array.getElem?_eq_none (by simp [lstZ]; omega)]
    have hrw : ∀ i ∈ U, Rw i = [] := fun i hi => by
      have hz := List.all_eq_true.1 hZr i (hUZ i hi)
      simp only [Bool.and_eq_true, decide_eq_true_eq] at hz
      obtain ⟨him, hz⟩ := hz
      cases ho : ops[i]? with
      | none => rw [ho] at hz; cases hz
      | some o =>
        rw [ho] at hz
        obtain ⟨_, h1, h2, _⟩ := htr.at_ i o (head_get htr him ho)
        cases hw : W i with
        | true => exact read_rows hz (h1 hw)
        | false => exact (h2 hw).2
    have hhS : hS = Hs mm := by
      apply List.ext_getElem?
      intro r
      rcases M.same r with h1 | ⟨j, hj, h2, h3⟩
      · exact h1
      · rw [hrw j hj] at h3; simp at h3; omega
    subst hhS
    have hrel : Rel F w0 m0 h0 N (deadT ops S (Ts mm)) (Hs mm) a w m := ⟨fun d => by
      unfold deadT
      cases hn : S.any (fun i => match (ops[i]?).bind (·.dst) with | some k => Nat.beq k d | none => false) with
      | true => exact trivial
      | false =>
        rcases M.tm d with ⟨j, hj, o, ho, hod⟩ | h1
        · exfalso
          have h3 := List.any_eq_false.1 hn j ((hSm j).2 hj)
          rw [ho] at h3
          have h4 : ¬ (match o.dst with | some k => Nat.beq k d | none => false) = true := h3
          rw [hod] at h4
          exact h4 (Nat.beq_refl d)
        · exact h1, M.st, M.df, M.sz⟩
    have hSs := List.all_eq_true.1 hsub S (by rw [hSd]; exact filter_subs _ _)
    split at hSs
    case h_2 => cases hSs
    rename_i p hp
    have hpm := List.mem_of_find?_eq_some hp
    have hp1 : p.1 = S := by have := List.find?_some hp; simpa using this
    have hq := htail p hpm
    rw [hp1] at hq
    obtain ⟨hA, hE⟩ := anyO_sound (F0 := F0) hg hd p.2 _ _ _ true F _ _ a w m hSs hG hrel hq
    rw [← hl, hSl] at hA
    rw [← hl] at hE
    generalize hfn : U.length + (ops.size - mm) = n at hA ⊢
    cases n with
    | zero => omega
    | succ f2 =>
      refine ⟨fun hn => hE rfl hn, fun i hi => ?_⟩
      obtain ⟨f3, h3, h4⟩ := hA i hi
      cases h3
      exact h4
  intro f
  induction f with
  | zero =>
    intro F listed U a w m hS hG hU M
    have hU' : U = [] := List.eq_nil_of_length_eq_zero hU
    have := key F listed U a w m hS hG M (by rw [hU']; simp)
    rwa [hU] at this
  | succ f ih =>
    intro F listed U a w m hS hG hU M
    by_cases hUZ : ∀ i ∈ U, i ∈ Z
    · have := key F listed U a w m hS hG M hUZ
      rwa [hU] at this
    have hne : U ≠ [] := by rintro rfl; simp at hU
    rw [show f + 1 + (ops.size - mm) = (f + (ops.size - mm)) + 1 by omega]
    have hrd : ∀ i ∈ Region.ready .any ops listed, i < mm := fun i hi => by
      rcases Nat.lt_or_ge i mm with h1 | h1
      · exact h1
      · exfalso
        refine hUZ fun j hj => ?_
        obtain ⟨hjm, hjun⟩ := (M.un j).1 hj
        by_cases hjZ : j ∈ Z
        · exact hjZ
        · exact absurd hi (late_waits hsink hchain hlt M.inv _ j rfl hjm hjZ hjun i h1)
    refine ⟨fun h1 => ?_, fun i hi => Mid.step htr hle hhead hg hd M hi (hrd i hi) (fun F1 a' w' m' hS' hG1 M' => ih F1 _ _ _ _ _ _ (hG.trans M.st hG1) ?_ M')⟩
    · exfalso
      obtain ⟨i, hi, hmin⟩ := min_of U hne
      obtain ⟨him, hun⟩ := (M.un i).1 hi
      obtain ⟨o, ho, haft, _⟩ := headB_spec hhead him
      have : i ∈ Region.ready .any ops listed := mem_ready.2 ⟨hun, o, ho, fun e he hb => by
        have h2 := haft e he hb
        have h3 : e.on ∉ U := fun h4 => by have := hmin _ h4; omega
        rw [M.un] at h3
        have h5 : ¬ listed.getD e.on true = false := fun h6 => h3 ⟨by omega, h6⟩
        have hel : e.on < listed.size := by rw [M.inv.size]; omega
        simp [Array.getD, hel] at h5 ⊢
        exact h5⟩
      rw [h1] at this
      cases this
    · have hiU : i ∈ U := (M.un i).2 ⟨hrd i hi, (mem_ready.1 hi).1⟩
      rw [List.length_erase_of_mem hiU, hU]
      rfl
theorem late_sound {β : BP} (hm : P.follows .mixedOrders = true) (hB : lateB ops mm Z Ss = true) (hg : guardOk N ops = true) (hd : ops.toList.all (dstOk N) = true) {Q : Exit → (Nat → AV) → AH → Prop} {a : Act} {w : World} {m : AM} (r : Rel F w0 m0 h0 N T h a w m)
    (hh : headA P ops (fun T h => ∀ p ∈ Ss, anyO P ops (Q .normal) p.2 (deadT ops p.1 T) h) (ops.toList.take mm) T h) (id : Nat) : (Code.region id ops true).wp P (Meets F w0 m0 h0 N Q) a w := by
  obtain ⟨Ts, Hs, R, Rw, W, htr, htail⟩ := trace_of _ _ _ hh
  have hle : mm ≤ ops.size := by
    have h1 := hB
    unfold lateB at h1
    simp only [Bool.and_eq_true, decide_eq_true_eq] at h1
    omega
  have hlen : (ops.toList.take mm).length = mm := by simp; omega
  rw [hlen] at htail
  refine wp_region_any hm ?_
  -- the places kept for the rows
  have hmono := htr.mono hle (i := 0) mm (by omega)
  rw [Nat.zero_add, htr.h0] at hmono
  obtain ⟨hl, hpre⟩ := hmono
  have hs0 := r.st.trans (Step.drew r.st.hp)
  let pad := (Hs mm).length - h.length
  have hk : Keeps m h (m ++ List.replicate pad none) (h ++ List.replicate pad AE.hole) := keeps_append r.st.hp.len
  have hlive : ∀ (r' : Nat) (ab : AB), (h ++ List.replicate pad AE.hole)[r']? = some (.live ab) → h[r']? = some (.live ab) ∧ (m ++ List.replicate pad none)[r']? = m[r']? := fun r' ab hr => by
    by_cases hlt : r' < h.length
    · rw [List.getElem?_append_left hlt] at hr
      exact ⟨hr, List.getElem?_append_left (by rw [r.st.hp.len]; exact hlt)⟩
    · rw [List.getElem?_append_right (by omega), List.getElem?_replicate] at hr
      split at hr <;> cases hr
  have hs1 : Step F { w with drawn := w.drawn + 1 } m h { w with drawn := w.drawn + 1 } (m ++ List.replicate pad none) (h ++ List.replicate pad AE.hole) := by
    have hH := (Step.drew r.st.hp).hp
    refine ⟨⟨fun r' ab h1 => ?_, fun r1 r2 ab ab' b c c' h1 h2 h3 h4 => ?_, by simp [r.st.hp.len, pad], hH.old, hH.lo⟩, hk, rfl, rfl, rfl, Nat.le_refl _, fun _ _ _ => rfl, fun r' ab b c h1 h2 => ?_⟩
    · obtain ⟨h2, h3⟩ := hlive r' ab h1
      rw [h3]
      rcases hH.at_ r' ab h2 with h4 | ⟨b, c, h4, h5, h6⟩
      · exact .inl h4
      · exact .inr ⟨b, c, h4, h5, RB.ext (fun _ hb => hb) (fun _ _ => rfl) hk rfl h6⟩
    · obtain ⟨g1, g2⟩ := hlive r1 ab h1
      obtain ⟨g3, g4⟩ := hlive r2 ab' h2
      rw [g2] at h3; rw [g4] at h4
      exact hH.inj r1 r2 ab ab' b c c' g1 g3 h3 h4
    · obtain ⟨g1, g2⟩ := hlive r' ab h1
      rw [g2] at h2
      exact .inl ⟨r', ab, c, g1, h2⟩
  have hrange : ∀ (k : Nat), k ≤ mm → ∀ r' : Nat, h.length ≤ r' → r' < (Hs k).length → ∃ i, i < k ∧ (Hs i).length ≤ r' ∧ r' < (Hs i).length + (Rw i).length := by
    intro k
    induction k with
    | zero => intro _ r' h1 h2; rw [htr.h0] at h2; omega
    | succ k ih =>
      intro hk' r' h1 h2
      rw [htr.len hle (by omega)] at h2
      by_cases hlt : r' < (Hs k).length
      · obtain ⟨i, hi, h3⟩ := ih (by omega) r' h1 hlt
        exact ⟨i, by omega, h3⟩
      · exact ⟨k, by omega, by omega, h2⟩
  have M : Mid F w0 m0 h0 N mm ops Ts Hs Rw (Array.replicate ops.size false) (List.range mm) a { w with drawn := w.drawn + 1 } (m ++ List.replicate pad none) (h ++ List.replicate pad AE.hole) := by
    refine ⟨⟨by simp, fun j oj _ hl => (by rw [getD_replicate_false] at hl; cases hl), fun t _ ht => getD_in (by simpa using ht) (getD_replicate_false _ _)⟩, List.nodup_range, fun i => ?_, by simp [pad]; omega, fun r' => ?_, fun i hi r' h1 h2 => ?_, fun d => ?_, hs0.trans hs1, r.df, r.sz⟩
    · rw [List.mem_range]
      refine ⟨fun h1 => ⟨h1, getD_in (by simp; omega) (getD_replicate_false _ _)⟩, fun h1 => h1.1⟩
    · by_cases hlt : r' < h.length
      · left
        rw [List.getElem?_append_left hlt, List.getElem?_eq_getElem hlt]
        exact (hpre r' _ (List.getElem?_eq_getElem hlt)).symm
      · by_cases hlt2 : r' < (Hs mm).length
        · right
          obtain ⟨i, hi, h3⟩ := hrange mm (Nat.le_refl _) r' (by omega) hlt2
          exact ⟨i, List.mem_range.2 hi, h3⟩
        · left
          rw [List.getElem?_eq_none (by simp [pad]; omega), List.getElem?_eq_none (by omega)]
    · have him := List.mem_range.1 hi
      have h3 := (htr.mono hle (i := 0) i (by omega)).1
      rw [Nat.zero_add, htr.h0] at h3
      have h4 := (htr.mono hle (i := i + 1) (mm - (i + 1)) (by omega)).1
      rw [show i + 1 + (mm - (i + 1)) = mm by omega, htr.len hle him] at h4
      rw [List.getElem?_append_right (by omega), List.getElem?_replicate, if_pos (by simp only [pad]; omega)]
    · by_cases hw : ∃ i ∈ List.range mm, ∃ o, ops[i]? = some o ∧ o.dst = some d
      · exact .inl hw
      · right
        have hT : Ts mm d = T d := by
          have := htr.temp hle (i := 0) (d := d) mm (by omega) (fun j o h1 h2 h3 h4 => hw ⟨j, List.mem_range.2 (by omega), o, h3, h4⟩)
          rw [Nat.zero_add, htr.t0] at this
          exact this
        rw [hT]
        exact RV.step ((Step.drew r.st.hp).trans hs1) r.st.hp (r.tm d)
  have := any_late (F0 := F) hB hg hd htr htail _ F _ _ _ _ _ _ (Grow.refl _ _ _ _) rfl M
  rw [List.length_range, show mm + (ops.size - mm) = ops.size by omega] at this
  exact this

theorem vc_late {β : BP} {n0 id : Nat} {l : List Oper} {Q : Exit → (Nat → AV) → AH → Prop} (mm : Nat) (Z : List Nat) (Ss : List (List Nat × OT)) (hm : P.follows .mixedOrders = true) (hok : textOk N l.toArray = true) (hB : lateB l.toArray mm Z Ss = true) (hs : headA P l.toArray (fun T h => ∀ p ∈ Ss, anyO P l.toArray (Q .normal) p.2 (deadT l.toArray p.1 T) h) (l.take mm) T h) :
    VC P n0 N (.region id l.toArray true) Q T h := fun F w0 m0 h0 a w m hn r => by
  unfold textOk at hok
  simp only [Bool.and_eq_true] at hok
  exact late_sound hm hB hok.1 hok.2 r hs id
end
def deadL (ops : List Oper) : List Nat → List (Nat × AV) → List (Nat × AV)
  | [], l => l
  | i :: S, l => match opDst ops i with | some d => (d, .t (.c .dead)) :: deadL ops S l | none => deadL ops S l
theorem lkT_dead (ops : Array Oper) (l : List (Nat × AV)) : ∀ S, lkT (deadL ops.toList S l) = deadT ops S (lkT l)
  | [] => by funext d; simp [deadL, deadT]
  | i :: S => by
    have ih := lkT_dead ops l S
    funext d
    have e : opDst ops.toList i = (ops[i]?).bind (·.dst) := by
      unfold opDst
      rw [nth_eq, Array.getElem?_toList]
      cases ops[i]? <;> rfl
    have ihd := congrFun ih d
    unfold deadT at ihd ⊢
    simp only [deadL, e, List.any_cons]
    generalize (ops[i]?).bind (·.dst) = q
    cases q with
    | none => simpa using ihd
    | some k =>
      simp only [lkT]
      by_cases hk : d = k
      · subst hk; simp
      · rw [if_neg hk]
        have : Nat.beq k d = false := by
          cases hb : Nat.beq k d with
          | true => exact absurd (Nat.eq_of_beq_eq_true hb).symm hk
          | false => rfl
        simp only [this, Bool.false_or]
        exact ihd
theorem grd_mono {ops : Array Oper} {o : Oper} {T : Nat → AV} {A B A' B' : Prop} (ha : A → A') (hb : B → B') (h : grd ops o T A B) : grd ops o T A' B' := by
  unfold grd at h ⊢
  split at h
  · exact ha h
  · split at h
    · split at h
      · exact ⟨fun he => ha (h.1 he), fun he => hb (h.2 he)⟩
      · exact hb h
      · exact h
    · exact hb h
theorem headA_mono {P : Program} {ops : Array Oper} {K K' : (Nat → AV) → AH → Prop} (hk : ∀ T h, K T h → K' T h) : ∀ (l : List Oper) (T : Nat → AV) (h : AH), headA P ops K l T h → headA P ops K' l T h
  | [], T, h, hh => hk T h hh
  | o :: os, T, h, hh => by
    unfold headA at hh ⊢
    exact grd_mono (fun ⟨res, rows, h1, h2⟩ => ⟨res, rows, h1, headA_mono hk os _ _ h2⟩) (headA_mono hk os _ _) hh
def runA (g : Gd) (tab : List (TypeId × TI)) (ops : List Oper) (Q : List (Nat × AV) → EH → Prop) (l : List (Nat × AV)) (h : EH) : List (List Nat × OT) → Prop
  | [] => True
  | (S, t) :: r => runO g tab ops Q t (deadL ops S l) h ∧ runA g tab ops Q l h r
abbrev LT := List (Nat × Nat × List Nat × List (List Nat × OT))
def lkL : LT → Nat → Option (Nat × List Nat × List (List Nat × OT))
  | [], _ => none
  | (k, t) :: l, d => match Nat.beq k d with | true => some t | false => lkL l d
def runC3 (lts : LT) (g : Gd) (tab : List (TypeId × TI)) : Code → (Exit → List (Nat × AV) → EH → Prop) → List (Nat × AV) → EH → Prop
  | .skip, Q, l, h => Q .normal l h
  | .ret, Q, l, h => Q .ret l h
  | .exit id, Q, l, h => Q (.exit id) l h
  | .seq x y, Q, l, h => runC3 lts g tab x (fun e l h => match e with | .normal => runC3 lts g tab y Q l h | e => Q e l h) l h
  | .cond c x y, Q, l, h => match ev (lkT l) c with
    | .t (.c (.imm (.bool b))) => (match b with | true => runC3 lts g tab x Q l h | false => runC3 lts g tab y Q l h)
    | _ => False
  | .block id c, Q, l, h => runC3 lts g tab c (fun e l h => match e with | .exit i => (match Nat.beq i id with | true => Q .normal l h | false => Q (.exit i) l h) | e => Q e l h) l h
  | .region id ops draw, Q, l, h => match draw with
    | false => runS g tab ops.toList (fun l h => Q .normal l h) ops.toList 0 l h
    | true => match lkL lts id with
      | some (mm, _, Ss) => runS g tab ops.toList (fun l h => runA g tab ops.toList (fun l h => Q .normal l h) l h Ss) (ops.toList.take mm) mm l h
      | none => runS g tab ops.toList (fun l h => Q .normal l h) ops.toList (headN ops.toList ops.toList) l h
  | .loop c, Q, l, h => g .L c Q l h
  | _, _, _, _ => False
def codeOk3 (lts : LT) (N : Nat) : Code → Bool
  | .seq x y => codeOk3 lts N x && codeOk3 lts N y
  | .cond _ x y => codeOk3 lts N x && codeOk3 lts N y
  | .block _ c => codeOk3 lts N c
  | .region id ops draw => textOk N ops && (!draw || (match lkL lts id with | some (mm, Z, Ss) => lateB ops mm Z Ss | none => drawB ops (headN ops.toList ops.toList)))
  | .loop c => codeOk3 lts N c
  | _ => true
section
variable {P : Program} {n0 N : Nat} {tab : List (TypeId × TI)}
theorem runA_sound {β : BP} (hf : Fits P tab) {ops : Array Oper} {Q : List (Nat × AV) → EH → Prop} {l : List (Nat × AV)} {h : EH} : ∀ (Ss : List (List Nat × OT)), runA (G0 P n0 N) tab ops.toList Q l h Ss → ∀ p ∈ Ss, anyO P ops (QH Q) p.2 (deadT ops p.1 (lkT l)) (toH h)
  | [], _, p, hp => by cases hp
  | (S, t) :: r, hr, p, hp => by
    obtain ⟨h1, h2⟩ := hr
    rcases List.mem_cons.1 hp with rfl | hp
    · have := runO_sound hf t _ h h1
      rw [lkT_dead] at this
      exact this
    · exact runA_sound hf r h2 p hp
theorem runC3_sound {β : BP} (hf : Fits P tab) {lts : LT} : ∀ (c : Code) (Q : Exit → List (Nat × AV) → EH → Prop) (l : List (Nat × AV)) (h : EH), codeOk3 lts N c = true → runC3 lts (G0 P n0 N) tab c Q l h → VC P n0 N c (QE Q) (lkT l) (toH h)
  | .skip, Q, l, h, _, hp => vc_skip ⟨l, h, rfl, rfl, hp⟩
  | .ret, Q, l, h, _, hp => vc_ret ⟨l, h, rfl, rfl, hp⟩
  | .exit id, Q, l, h, _, hp => vc_exit ⟨l, h, rfl, rfl, hp⟩
  | .seq x y, Q, l, h, ho, hp => by
    simp only [codeOk3, Bool.and_eq_true] at ho
    refine vc_seq (vc_mono (fun e T h hq => ?_) (runC3_sound hf x _ l h ho.1 hp))
    obtain ⟨l, eh, rfl, rfl, hq⟩ := hq
    cases e <;> first
      | exact ⟨l, eh, rfl, rfl, hq⟩
      | exact runC3_sound hf y Q l eh ho.2 hq
  | .cond c x y, Q, l, h, ho, hp => by
    simp only [codeOk3, Bool.and_eq_true] at ho
    simp only [runC3] at hp
    split at hp
    · rename_i b hb
      refine vc_cond hb (fun hb => ?_) (fun hb => ?_)
      · subst hb; exact runC3_sound hf x Q l h ho.1 hp
      · subst hb; exact runC3_sound hf y Q l h ho.2 hp
    · exact hp.elim
  | .block id c, Q, l, h, ho, hp => by
    refine vc_block (vc_mono (fun e T h hq => ?_) (runC3_sound hf c _ l h ho hp))
    obtain ⟨l, eh, rfl, rfl, hq⟩ := hq
    cases e <;> first
      | exact ⟨l, eh, rfl, rfl, hq⟩
      | skip
    rename_i i
    simp only [blockQ]
    simp only at hq
    split at hq
    · rename_i hb
      rw [if_pos (bt hb)]
      exact ⟨l, eh, rfl, rfl, hq⟩
    · rename_i hb
      rw [if_neg (fun he => by subst he; simp at hb)]
      exact ⟨l, eh, rfl, rfl, hq⟩
  | .region id ops draw, Q, l, h, ho, hp => by
    obtain ⟨os⟩ := ops
    simp only [codeOk3, Bool.and_eq_true, Bool.or_eq_true, Bool.not_eq_true'] at ho
    cases draw with
    | false => exact vc_region ho.1 (runS_sound hf os 0 l h hp)
    | true =>
      obtain ⟨h1, h2⟩ := ho
      rcases h2 with h2 | h2
      · cases h2
      · simp only [runC3] at hp
        cases hl : lkL lts id with
        | some t =>
          obtain ⟨mm, Z, Ss⟩ := t
          rw [hl] at h2 hp
          simp only at h2 hp
          have h3 := runS_sound hf (ops := os.toArray) _ _ l h hp
          refine vc_late mm Z Ss hf.mix h1 h2 ?_
          have e1 : (os.take mm).drop mm = [] := by rw [List.drop_eq_nil_iff, List.length_take]; omega
          have e2 : (os.take mm).take mm = os.take mm := by rw [List.take_take, Nat.min_self]
          rw [e1, e2] at h3
          refine headA_mono (fun T h hq => ?_) _ _ _ h3
          obtain ⟨l', eh, rfl, rfl, hq⟩ := hq
          exact runA_sound hf (ops := os.toArray) Ss hq
        | none =>
          rw [hl] at h2 hp
          exact vc_draw _ hf.mix h1 h2 (runS_sound hf os _ l h hp)
  | .loop c, Q, l, h, _, hp => hp
  | .rangeFunc _ _ _ _, _, _, _, _, hp => hp.elim
  | .scope _, _, _, _, _, hp => hp.elim
  | .label _, _, _, _, _, hp => hp.elim
  | .goto _, _, _, _, _, hp => hp.elim
  | .refuse _, _, _, _, _, hp => hp.elim
theorem con_run3 {β : BP} {lts : LT} {f : FuncId} {fn : Func} {c : Code} {args : List AT} {Post : AV → AH → Prop} {h : EH} (hfit : Fits P tab) (hf : P.funcs[f]? = some fn) (hb : fn.body = some c) (hnm : (fn.name == "runtime.NumGoroutine") = false) (hn : args.length ≤ fn.ntmps)
    (hok : codeOk3 lts fn.ntmps c = true) (hv : ∀ (g : Gd) (F : List AT → EH → Prop), g = G0 P (toH h).length fn.ntmps → F = FinP (toH h).length Post → runC3 lts g tab c (finG tab fn.results.toList F) (argL args 0) h) (hex : ∀ b, ¬ BP.ex b := by exact fun _ h => h) : Con P f (toH h) args Post := by
  refine con_of_vc hex hf hb hnm hn (vc_forget (T' := lkT (argL args 0)) (fun d => ?_) (vc_mono (fun e T h hq => ?_) (runC3_sound hfit c _ _ h hok (hv _ _ rfl rfl))))
  · rcases lk_argL args 0 d with h1 | ⟨x, h1, h2, h3⟩
    · exact .inl h1
    · refine .inr ?_
      rw [h3]
      simp only [Nat.sub_zero] at h1
      simp only [T0, h1]
  · obtain ⟨l, eh, rfl, rfl, hq⟩ := hq
    cases e <;> first
      | exact hq.elim
      | exact resG_sound hfit _ _ hq
theorem pcon_run3 (lts : LT) {f : FuncId} {fn : Func} {c : Code} {args : List AT} {Post : AV → List AB → Prop} (hfit : Fits P tab) (hf : P.funcs[f]? = some fn) (hb : fn.body = some c) (hnm : (fn.name == "runtime.NumGoroutine") = false) (hn : Nat.ble args.length fn.ntmps = true)
    (hok : codeOk3 lts fn.ntmps c = true) (hv : ∀ (g : Gd) (F : List AT → EH → Prop), g = G0 P 0 fn.ntmps → F = FinP 0 (fun res h' => ∃ rows, h' = rows.map .live ∧ Post res rows) → runC3 lts g tab c (finG tab fn.results.toList F) (argL args 0) []) : PCon P f args Post :=
  con_run3 (h := []) hfit hf hb hnm (bl hn) hok hv
end
end Go.Proofs.Ytenbloaopcfdlaa.Am
