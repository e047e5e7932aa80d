/- A part of AM, a framework of the prover own: functions of any program as maps of data. -/
import Derived.Test.YtgcofllgbdcicaaGreatAmQ
namespace Go.Proofs.YtgcofllgbdcicaaGreat.Am
open Go.RowKit
set_option linter.unusedVariables false
set_option linter.unusedSimpArgs false
section
variable {P : Program} {F : Nat → Prop} {w0 : World} {m0 : AM} {h0 : AH} {N mm : Nat} {ops : Array Oper} {T : Nat → AV} {h : AH} {Ts : Nat → Nat → AV} {Hs : Nat → AH} {R : Nat → AV} {Rw : Nat → List AB} {W : Nat → Bool}
theorem any_sound {F0 : Nat → Prop} (hB : drawB ops mm = true) (hg : guardOk N ops = true) (hd : ops.toList.all (dstOk N) = true) (htr : Trace P ops (ops.toList.take mm) T h Ts Hs R Rw W) {Q : Exit → (Nat → AV) → AH → Prop}
    (htail : seqA P ops (Q .normal) (ops.toList.drop mm) (Ts mm) (Hs mm)) :
    ∀ (f : Nat) (F : Nat → Prop) (listed : Array Bool) (U : List Nat) (a : Act) (w : World) (m : AM) (hS : AH), Grow F0 F w0 m0 h0 → U.length = f → Mid F w0 m0 h0 N mm ops Ts Hs Rw listed U a w m hS → wpAny P .any ops (Meets F0 w0 m0 h0 N Q) (f + (ops.size - mm)) listed a w := by
  unfold drawB at hB
  simp only [Bool.and_eq_true, Bool.or_eq_true, decide_eq_true_eq] at hB
  obtain ⟨⟨⟨hle, hhead⟩, htl⟩, hseq⟩ := hB
  intro f
  induction f with
  | zero =>
    intro F listed U a w m hS hG hU M
    have hU' : U = [] := List.eq_nil_of_length_eq_zero hU
    subst hU'
    have hl : listed = (Array.range ops.size).map fun i => decide (i < mm) := by
      apply Array.ext_getElem?
      intro i
      by_cases hi : i < ops.size
      · have hil : i < listed.size := by rw [M.inv.size]; exact hi
        have e2 : (((Array.range ops.size).map fun i => decide (i < mm)) : Array Bool)[i]? = some (decide (i < mm)) := by simp [hi]
        rw [e2, Array.getElem?_eq_getElem hil]
        congr 1
        by_cases him : i < mm
        · have h1 : ¬ (listed.getD i true = false) := fun hx => by have := (M.un i).2 ⟨him, hx⟩; simp at this
          have : listed.getD i true = listed[i] := by simp [Array.getD, hil]
          rw [this] at h1
          simp [him]
          simpa using h1
        · have h1 := M.inv.tail i (by omega) hi
          have : listed.getD i true = listed[i] := by simp [Array.getD, hil]
          rw [this] at h1
          simp [him, h1]
      · rw [Array.getElem?_eq_none (by rw [M.inv.size]; omega), Array.getElem?_eq_none (by simp; omega)]
    have hhS : hS = Hs mm := by
      apply List.ext_getElem?
      intro r
      rcases M.same r with h1 | ⟨j, hj, _⟩
      · exact h1
      · simp at hj
    subst hhS
    have hrel : Rel F w0 m0 h0 N (Ts mm) (Hs mm) a w m := ⟨fun d => by
      rcases M.tm d with ⟨j, hj, _⟩ | h1
      · simp at hj
      · exact h1, M.st, M.df, M.sz⟩
    have hlen : (ops.toList.drop mm).length = ops.size - mm := by simp
    have := wpAny_of_seq (P := P) (md := .any) (ops := ops) (Q' := Meets F0 w0 m0 h0 N Q) (ops.toList.drop mm) mm listed a w (fun j => by simp [List.getElem?_drop]) (by rw [hlen, hl]; exact hseq)
      (seqA_sound hg _ F _ _ _ _ _ (fun o ho => List.mem_of_mem_drop ho) (List.all_eq_true.2 fun o ho => List.all_eq_true.1 hd o (List.mem_of_mem_drop ho)) hG hrel htail)
    rw [hlen] at this
    simpa using this
  | succ f ih =>
    intro F listed U a w m hS hG hU M
    have hne : U ≠ [] := by rintro rfl; simp at hU
    rw [show f + 1 + (ops.size - mm) = (f + (ops.size - mm)) + 1 by omega]
    have hrd : ∀ i ∈ Region.ready .any ops listed, i < mm := fun i hi => by
      rcases Nat.lt_or_ge i mm with h1 | h1
      · exact h1
      · exfalso
        obtain ⟨_, oi, hoi, _⟩ := mem_ready.1 hi
        have hil : i < ops.size := (Array.getElem?_eq_some_iff.1 hoi).1
        rcases htl with h2 | ⟨h2, h3⟩
        · omega
        · obtain ⟨j, hj⟩ := List.exists_mem_of_ne_nil U hne
          obtain ⟨hjm, hjun⟩ := (M.un j).1 hj
          exact tail_waits h2 h3 (by omega) M.inv _ j rfl hjm hjun i h1 hi
    refine ⟨fun h1 => ?_, fun i hi => Mid.step htr hle hhead hg hd M hi (hrd i hi) (fun F1 a' w' m' hS' hG1 M' => ih F1 _ _ _ _ _ _ (hG.trans M.st hG1) ?_ M')⟩
    · exfalso
      obtain ⟨i, hi, hmin⟩ := min_of U hne
      obtain ⟨him, hun⟩ := (M.un i).1 hi
      obtain ⟨o, ho, haft, _⟩ := headB_spec hhead him
      have : i ∈ Region.ready .any ops listed := mem_ready.2 ⟨hun, o, ho, fun e he hb => by
        have h2 := haft e he hb
        have h3 : e.on ∉ U := fun h4 => by have := hmin _ h4; omega
        rw [M.un] at h3
        have h5 : ¬ listed.getD e.on true = false := fun h6 => h3 ⟨by omega, h6⟩
        have hel : e.on < listed.size := by rw [M.inv.size]; omega
        simp [Array.getD, hel] at h5 ⊢
        exact h5⟩
      rw [h1] at this
      cases this
    · have hiU : i ∈ U := (M.un i).2 ⟨hrd i hi, (mem_ready.1 hi).1⟩
      rw [List.length_erase_of_mem hiU, hU]
      rfl
theorem Step.drew {F : Nat → Prop} {w : World} {m : AM} {h : AH} (hH : RH F w m h) : Step F w m h { w with drawn := w.drawn + 1 } m h := by
  have hs := Step.refl hH
  have hk : RH F { w with drawn := w.drawn + 1 } m h := ⟨fun r ab h1 => by
    rcases hH.at_ r ab h1 with h2 | ⟨b, c, h2, h3, h4⟩
    · exact .inl h2
    · exact .inr ⟨b, c, h2, h3, RB.ext (w := w) (w' := { w with drawn := w.drawn + 1 }) (fun _ hb => hb) (fun _ _ => rfl) (Keeps.refl m h) rfl h4⟩, hH.inj, hH.len, hH.old⟩
  exact ⟨hk, hs.keeps, rfl, rfl, rfl, Nat.le_refl _, fun _ _ _ => rfl, hs.own⟩
/-- A region that draws its order: mm operations that write nothing, in whatever order; the rest in the text's. -/
theorem draw_sound (hm : P.follows .mixedOrders = true) (hB : drawB ops mm = true) (hg : guardOk N ops = true) (hd : ops.toList.all (dstOk N) = true) {Q : Exit → (Nat → AV) → AH → Prop} {a : Act} {w : World} {m : AM} (r : Rel F w0 m0 h0 N T h a w m)
    (hh : headA P ops (fun T h => seqA P ops (Q .normal) (ops.toList.drop mm) T h) (ops.toList.take mm) T h) (id : Nat) : (Code.region id ops true).wp P (Meets F w0 m0 h0 N Q) a w := by
  obtain ⟨Ts, Hs, R, Rw, W, htr, htail⟩ := trace_of _ _ _ hh
  have hB' := hB
  unfold drawB at hB'
  simp only [Bool.and_eq_true, Bool.or_eq_true, decide_eq_true_eq] at hB'
  obtain ⟨⟨⟨hle, hhead⟩, htl⟩, hseq⟩ := hB'
  have hlen : (ops.toList.take mm).length = mm := by simp; omega
  rw [hlen] at htail
  refine wp_region_any hm ?_
  -- the places kept for the rows
  have hmono := htr.mono hle (i := 0) mm (by omega)
  rw [Nat.zero_add, htr.h0] at hmono
  obtain ⟨hl, hpre⟩ := hmono
  have hs0 := r.st.trans (Step.drew r.st.hp)
  let pad := (Hs mm).length - h.length
  have hk : Keeps m h (m ++ List.replicate pad none) (h ++ List.replicate pad AE.hole) := keeps_append r.st.hp.len
  have hlive : ∀ (r' : Nat) (ab : AB), (h ++ List.replicate pad AE.hole)[r']? = some (.live ab) → h[r']? = some (.live ab) ∧ (m ++ List.replicate pad none)[r']? = m[r']? := fun r' ab hr => by
    by_cases hlt : r' < h.length
    · rw [List.getElem?_append_left hlt] at hr
      exact ⟨hr, List.getElem?_append_left (by rw [r.st.hp.len]; exact hlt)⟩
    · rw [List.getElem?_append_right (by omega), List.getElem?_replicate] at hr
      split at hr <;> cases hr
  have hs1 : Step F { w with drawn := w.drawn + 1 } m h { w with drawn := w.drawn + 1 } (m ++ List.replicate pad none) (h ++ List.replicate pad AE.hole) := by
    have hH := (Step.drew r.st.hp).hp
    refine ⟨⟨fun r' ab h1 => ?_, fun r1 r2 ab ab' b c c' h1 h2 h3 h4 => ?_, by simp [r.st.hp.len, pad], hH.old⟩, hk, rfl, rfl, rfl, Nat.le_refl _, fun _ _ _ => rfl, fun r' ab b c h1 h2 => ?_⟩
    · obtain ⟨h2, h3⟩ := hlive r' ab h1
      rw [h3]
      rcases hH.at_ r' ab h2 with h4 | ⟨b, c, h4, h5, h6⟩
      · exact .inl h4
      · exact .inr ⟨b, c, h4, h5, RB.ext (fun _ hb => hb) (fun _ _ => rfl) hk rfl h6⟩
    · obtain ⟨g1, g2⟩ := hlive r1 ab h1
      obtain ⟨g3, g4⟩ := hlive r2 ab' h2
      rw [g2] at h3; rw [g4] at h4
      exact hH.inj r1 r2 ab ab' b c c' g1 g3 h3 h4
    · obtain ⟨g1, g2⟩ := hlive r' ab h1
      rw [g2] at h2
      exact .inl ⟨r', ab, c, g1, h2⟩
  have hrange : ∀ (k : Nat), k ≤ mm → ∀ r' : Nat, h.length ≤ r' → r' < (Hs k).length → ∃ i, i < k ∧ (Hs i).length ≤ r' ∧ r' < (Hs i).length + (Rw i).length := by
    intro k
    induction k with
    | zero => intro _ r' h1 h2; rw [htr.h0] at h2; omega
    | succ k ih =>
      intro hk' r' h1 h2
      rw [htr.len hle (by omega)] at h2
      by_cases hlt : r' < (Hs k).length
      · obtain ⟨i, hi, h3⟩ := ih (by omega) r' h1 hlt
        exact ⟨i, by omega, h3⟩
      · exact ⟨k, by omega, by omega, h2⟩
  have M : Mid F w0 m0 h0 N mm ops Ts Hs Rw (Array.replicate ops.size false) (List.range mm) a { w with drawn := w.drawn + 1 } (m ++ List.replicate pad none) (h ++ List.replicate pad AE.hole) := by
    refine ⟨⟨by simp, fun j oj _ hl => (by rw [getD_replicate_false] at hl; cases hl), fun t _ ht => getD_in (by simpa using ht) (getD_replicate_false _ _)⟩, List.nodup_range, fun i => ?_, by simp [pad]; omega, fun r' => ?_, fun i hi r' h1 h2 => ?_, fun d => ?_, hs0.trans hs1, r.df, r.sz⟩
    · rw [List.mem_range]
      refine ⟨fun h1 => ⟨h1, getD_in (by simp; omega) (getD_replicate_false _ _)⟩, fun h1 => h1.1⟩
    · by_cases hlt : r' < h.length
      · left
        rw [List.getElem?_append_left hlt, List.getElem?_eq_getElem hlt]
        exact (hpre r' _ (List.getElem?_eq_getElem hlt)).symm
      · by_cases hlt2 : r' < (Hs mm).length
        · right
          obtain ⟨i, hi, h3⟩ := hrange mm (Nat.le_refl _) r' (by omega) hlt2
          exact ⟨i, List.mem_range.2 hi, h3⟩
        · left
          rw [List.getElem?_eq_none (by simp [pad]; omega), List.getElem?_eq_none (by omega)]
    · have him := List.mem_range.1 hi
      have h3 := (htr.mono hle (i := 0) i (by omega)).1
      rw [Nat.zero_add, htr.h0] at h3
      have h4 := (htr.mono hle (i := i + 1) (mm - (i + 1)) (by omega)).1
      rw [show i + 1 + (mm - (i + 1)) = mm by omega, htr.len hle him] at h4
      rw [List.getElem?_append_right (by omega), List.getElem?_replicate, if_pos (by simp only [pad]; omega)]
    · by_cases hw : ∃ i ∈ List.range mm, ∃ o, ops[i]? = some o ∧ o.dst = some d
      · exact .inl hw
      · right
        have hT : Ts mm d = T d := by
          have := htr.temp hle (i := 0) (d := d) mm (by omega) (fun j o h1 h2 h3 h4 => hw ⟨j, List.mem_range.2 (by omega), o, h3, h4⟩)
          rw [Nat.zero_add, htr.t0] at this
          exact this
        rw [hT]
        exact RV.step ((Step.drew r.st.hp).trans hs1) r.st.hp (r.tm d)
  have := any_sound (F0 := F) hB hg hd htr htail _ F _ _ _ _ _ _ (Grow.refl _ _ _ _) rfl M
  rw [List.length_range, show mm + (ops.size - mm) = ops.size by omega] at this
  exact this
end
end Go.Proofs.YtgcofllgbdcicaaGreat.Am
