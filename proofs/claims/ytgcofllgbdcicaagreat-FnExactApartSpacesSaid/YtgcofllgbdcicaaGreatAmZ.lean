/- A part of AM, a framework of the prover own: functions of any program as maps of data. -/
import Derived.Test.YtgcofllgbdcicaaGreatAmY
namespace Go.Proofs.YtgcofllgbdcicaaGreat.Am
open Go.RowKit
set_option linter.unusedVariables false
set_option linter.unusedSimpArgs false
section
variable {P : Program} {tab : List (TypeId × TI)} {n0 N : Nat} {T : Nat → AV} {h : EH} {n : Nat}
theorem stG_sound (hf : Fits P tab) {t : TypeId} {x y : Operand} {K : EH → Prop} (hp : stG (G0 P n0 N) tab T h t x y K) : stA P T (toH h) t x y (fun h' => ∃ eh, toH eh = h' ∧ K eh) := by
  simp only [stG] at hp
  simp only [stA]
  split at hp
  · rename_i r i off hx
    split at hp
    · rename_i v hy
      split at hp
      · rename_i j hj
        rw [hx, hy, (info_inv (hf.info hj)).2.2.1]
        simp only
        split at hp
        · rename_i h1
          split at hp
          · rename_i h2
            have h1 := bt h1
            rw [lenL_eq] at h1
            rw [allOk_eq] at h2
            split at hp
            · rename_i t' k e hr
              split at hp
              · split at hp
                · rename_i h3
                  have h3 := bl h3
                  rw [lenL_eq] at h3
                  rw [putC_eq _ _ _ (by rw [h1]; exact h3), setL_eq] at hp
                  rw [nth_bx hr]
                  exact ⟨e, rfl, h1, h3, h2, _, by rw [toH_set]; rfl, hp⟩
                · exact hp.elim
              · exact hp.elim
            · rename_i ab hr
              split at hp
              · rename_i hk
                split at hp
                · obtain ⟨⟨e, he, hl⟩, hp⟩ := hp
                  have hk := bt hk
                  rw [setL_eq] at hp
                  rw [nth_rw hr]
                  have hs : setAt e 0 v.cells = v.cells := by
                    unfold setAt
                    rw [List.drop_of_length_le (by rw [hl, h1, hk]; omega)]
                    simp
                  exact ⟨e, he, h1, by rw [hl, hk]; omega, h2, _, by rw [toH_set, hs]; rfl, hp⟩
                · exact hp.elim
              · obtain ⟨e, he, hp⟩ := hp
                split at hp
                · rename_i h3
                  have h3 := bl h3
                  rw [lenL_eq] at h3
                  rw [putC_eq _ _ _ (by rw [h1]; exact h3), setL_eq] at hp
                  rw [nth_rw hr]
                  exact ⟨e, he, h1, h3, h2, _, by rw [toH_set]; rfl, hp⟩
                · exact hp.elim
            · exact hp.elim
          · exact hp.elim
        · exact hp.elim
      · exact hp.elim
    · exact hp.elim
  · exact hp.elim
theorem rowG_src {z : AC} {ys : List (List AC)} (hz : rowG (G0 P n0 N) h z = some ys) : srcA (toH h) z = some ys := by
  unfold rowG at hz
  unfold srcA
  split at hz
  · exact hz
  · exact hz
  · split at hz
    · rename_i hr; simp only [nth_rw hr]; exact hz
    · cases hz
  · split at hz
    · rename_i hr; simp only [nth_rw hr]; exact hz
    · cases hz
  · cases hz
theorem apG_sound (hf : Fits P tab) {c : Call} (hc : c.callee = .builtin .append) {K : AV → EH → Prop} (hp : apG (G0 P n0 N) tab T h c K) : apA P T (toH h) c (Hof K) := by
  simp only [apG] at hp
  simp only [apA]
  split at hp
  · rename_i s x hsx
    split at hp
    · rename_i t t' ht
      rw [hc, hsx, ht]
      simp only
      split at hp
      · rename_i h0
        refine ⟨bt h0, ?_⟩
        split at hp
        · rename_i e k by_ hd
          rw [hf.elem hd]
          split at hp
          · rename_i j hj
            split at hp
            · rename_i h1
              split at hp
              · rename_i h2
                have h1 := bt h1
                have h2 := blt h2
                rw [lenL_eq] at h1
                split at hp
                · rename_i z hz
                  split at hp
                  · rename_i ys hys
                    have hys := rowG_src hys
                    split at hp
                    · rename_i hs
                      rw [hs, hz]
                      obtain ⟨⟨g1, g2, g3⟩, hp⟩ := hp
                      refine ⟨[], toH h, ys, j.zero, rfl, hys, g1, (info_inv (hf.info hj)).2.1, h1, h2, by simpa using g2, by simpa using g3, h ++ [.rw ⟨e, k, [] ++ ys⟩], by rw [toH_app]; rfl, ?_⟩
                      rw [lenL_eq] at hp
                      rw [toH_len]
                      exact hp
                    · rename_i r hs
                      rw [hs, hz]
                      split at hp
                      · rename_i ab hr
                        split at hp
                        · rename_i h3
                          split at hp
                          · rename_i h4
                            obtain ⟨⟨g1, g2, g3⟩, hp⟩ := hp
                            refine ⟨ab.es, (toH h).set r .gone, ys, j.zero, by simp only [dstA, nth_rw hr]; rw [if_pos ⟨bt h3, bt h4⟩], hys, g1, (info_inv (hf.info hj)).2.1, h1, h2, g2, g3, setL h r .gn ++ [.rw ⟨e, k, ab.es ++ ys⟩], by rw [toH_app, setL_eq, toH_set]; rfl, ?_⟩
                            rw [lenL_eq] at hp
                            rw [toH_len]
                            exact hp
                          · exact hp.elim
                        · exact hp.elim
                      · exact hp.elim
                    · exact hp.elim
                  · exact hp.elim
                · exact hp.elim
              · exact hp.elim
            · exact hp.elim
          · exact hp.elim
        · exact hp.elim
      · exact hp.elim
    · exact hp.elim
  · exact hp.elim
theorem argsG_eq : ∀ (l : List Operand) (args : List AT), argsG T l = some args → l.map (ev T) = args.map .t
  | [], args, h => by cases h; rfl
  | x :: l, args, h => by
    unfold argsG at h
    split at h
    · rename_i y hy
      split at h
      · rename_i ys hys
        cases h
        simp [hy, argsG_eq l ys hys]
      · cases h
    · cases h
theorem pop_hof (hf : Fits P tab) {o : Op} {K : AV → EH → Prop} (hp : popG (G0 P n0 N) tab T h (lenL h) o (fun res rows => K res (h ++ rows))) : pop P T (toH h) (toH h).length o (fun res rows => Hof K res (toH h ++ rows.map .live)) := by
  have := popG_sound hf hp
  rw [lenL_eq] at this
  rw [toH_len]
  exact pop_mono (fun r s ⟨es, h1, h2⟩ => ⟨h ++ es, by rw [toH_app, h1], h2⟩) this
theorem opG_sound (hf : Fits P tab) {o : Op} {K : AV → EH → Prop} (hp : opG (G0 P n0 N) tab T h o K) : opA P T (toH h) o (Hof K) := by
  unfold opG at hp
  unfold opA
  split at hp
  · exact stG_sound hf hp
  · rename_i c
    split at hp
    · rename_i hc
      simp only [hc]
      exact apG_sound hf hc hp
    · rename_i f hc
      simp only [hc]
      split at hp
      · rename_i args ha
        exact ⟨args, argsG_eq _ _ ha, hp⟩
      · exact hp.elim
    · rename_i hn1 hn2
      have := pop_hof hf hp
      dsimp only
      split
      · rename_i h1; exact (hn1 h1).elim
      · rename_i f h1; exact (hn2 f h1).elim
      · exact this
  · rename_i hn1 hn2
    have := pop_hof hf hp
    split
    · rename_i t x y; exact (hn1 t x y rfl).elim
    · rename_i c; exact (hn2 c rfl).elim
    · exact this
theorem hopG_sound (hf : Fits P tab) {o : Op} {K : AV → EH → Prop} (hp : hopG (G0 P n0 N) tab T h o K) : ∃ res rows, popP P T (toH h) (toH h).length o (fun r s => r = res ∧ s = rows) ∧ Hof K res (toH h ++ rows.map .live) := by
  unfold hopG at hp
  unfold popP
  split at hp
  · rename_i c
    split at hp
    · rename_i f hc
      simp only [hc]
      split at hp
      · rename_i args ha
        obtain ⟨res, rows, h1, es, h2, h3⟩ := hp
        rw [lenL_eq, ← toH_len] at h1
        exact ⟨res, rows, ⟨args, argsG_eq _ _ ha, h1⟩, h ++ es, by rw [toH_app, h2], h3⟩
      · exact hp.elim
    · rename_i hn
      obtain ⟨res, rows, h1, h2⟩ := pop_det (pop_hof hf hp)
      refine ⟨res, rows, ?_, h2⟩
      dsimp only
      split
      · rename_i f h3; exact (hn f h3).elim
      · exact h1
  · rename_i hn
    obtain ⟨res, rows, h1, h2⟩ := pop_det (pop_hof hf hp)
    refine ⟨res, rows, ?_, h2⟩
    split
    · rename_i c; exact (hn c rfl).elim
    · exact h1
/-- A post of the evaluator's, as the framework's. -/
def QH (Q : List (Nat × AV) → EH → Prop) (T : Nat → AV) (h : AH) : Prop := ∃ l eh, T = lkT l ∧ h = toH eh ∧ Q l eh
theorem put_lk (l : List (Nat × AV)) (d : Option Tmp) (v : AV) : put (lkT l) d v = lkT (putT l d v) := by cases d <;> rfl
def goG (g : Gd) (tab : List (TypeId × TI)) (ops : List Oper) (Q : List (Nat × AV) → EH → Prop) (o : Oper) (os : List Oper) (hd : Nat) (l : List (Nat × AV)) (h : EH) : Prop :=
  match hd with
  | 0 => opG g tab (lkT l) h o.op (fun res h' => runS g tab ops Q os 0 (putT l o.dst res) h')
  | hd + 1 => hopG g tab (lkT l) h o.op (fun res h' => runS g tab ops Q os hd (putT l o.dst res) h')
def goA (P : Program) (ops : Array Oper) (Q : List (Nat × AV) → EH → Prop) (o : Oper) (os : List Oper) (hd : Nat) (l : List (Nat × AV)) (h : EH) : Prop :=
  match hd with
  | 0 => opA P (lkT l) (toH h) o.op (fun res h' => seqA P ops (QH Q) os (put (lkT l) o.dst res) h')
  | hd + 1 => ∃ res rows, popP P (lkT l) (toH h) (toH h).length o.op (fun r s => r = res ∧ s = rows) ∧ headA P ops (fun T h => seqA P ops (QH Q) (os.drop hd) T h) (os.take hd) (put (lkT l) o.dst res) (toH h ++ rows.map .live)
def skA (P : Program) (ops : Array Oper) (Q : List (Nat × AV) → EH → Prop) (o : Oper) (os : List Oper) (hd : Nat) (l : List (Nat × AV)) (h : EH) : Prop :=
  match hd with
  | 0 => seqA P ops (QH Q) os (put (lkT l) o.dst (.t (.c (.imm undef)))) (toH h)
  | hd + 1 => headA P ops (fun T h => seqA P ops (QH Q) (os.drop hd) T h) (os.take hd) (put (lkT l) o.dst (.t (.c (.imm undef)))) (toH h)
theorem runS_sound (hf : Fits P tab) {ops : Array Oper} {Q : List (Nat × AV) → EH → Prop} : ∀ (os : List Oper) (hd : Nat) (l : List (Nat × AV)) (h : EH), runS (G0 P n0 N) tab ops.toList Q os hd l h →
    headA P ops (fun T h => seqA P ops (QH Q) (os.drop hd) T h) (os.take hd) (lkT l) (toH h)
  | [], hd, l, h, hp => by
    have : QH Q (lkT l) (toH h) := ⟨l, h, rfl, rfl, hp⟩
    simp only [List.take_nil, List.drop_nil]
    exact this
  | o :: os, hd, l, h, hp => by
    have hdst : ∀ i, opDst ops.toList i = (ops[i]?).bind (·.dst) := fun i => by
      unfold opDst
      rw [nth_eq, Array.getElem?_toList]
      cases ops[i]? <;> rfl
    have run : ∀ (hr : goG (G0 P n0 N) tab ops.toList Q o os hd l h), goA P ops Q o os hd l h := by
      intro hr
      cases hd with
      | zero =>
        have h1 := opG_sound hf (o := o.op) (K := fun res h' => runS (G0 P n0 N) tab ops.toList Q os 0 (putT l o.dst res) h') hr
        have conv : ∀ res h', Hof (fun res h' => runS (G0 P n0 N) tab ops.toList Q os 0 (putT l o.dst res) h') res h' → seqA P ops (QH Q) os (put (lkT l) o.dst res) h' := by
          rintro res h' ⟨eh, rfl, h3⟩
          rw [put_lk]
          exact runS_sound hf os 0 _ _ h3
        exact (show ∀ (K K' : AV → AH → Prop), (∀ r s, K r s → K' r s) → opA P (lkT l) (toH h) o.op K → opA P (lkT l) (toH h) o.op K' from by
          intro K K' hk hp
          unfold opA at hp ⊢
          split at hp
          · rename_i t x y
            unfold stA at hp ⊢
            split at hp
            · rename_i r i off v k hx hy hz
              split at hp
              · rename_i ab hr
                obtain ⟨e, g1, g2, g3, g4, g5⟩ := hp
                exact ⟨e, g1, g2, g3, g4, hk _ _ g5⟩
              · exact hp.elim
            · exact hp.elim
          · rename_i c
            split at hp
            · unfold apA at hp ⊢
              split at hp
              · refine ⟨hp.1, ?_⟩
                obtain ⟨_, hp⟩ := hp
                split at hp
                · obtain ⟨old, hb, ys, z0, g1, g2, g3, g4, g5, g6, g7, g8, g9⟩ := hp
                  exact ⟨old, hb, ys, z0, g1, g2, g3, g4, g5, g6, g7, g8, hk _ _ g9⟩
                · exact hp.elim
              · exact hp.elim
            · obtain ⟨args, g1, g2⟩ := hp
              exact ⟨args, g1, g2.mono fun r s h => hk _ _ h⟩
            · exact pop_mono (fun r s h => hk _ _ h) hp
          · exact pop_mono (fun r s h => hk _ _ h) hp) _ _ conv h1
      | succ hd =>
        obtain ⟨res, rows, h1, eh, h2, h3⟩ := hopG_sound hf (o := o.op) (K := fun res h' => runS (G0 P n0 N) tab ops.toList Q os hd (putT l o.dst res) h') hr
        refine ⟨res, rows, h1, ?_⟩
        rw [put_lk, ← h2]
        exact runS_sound hf os hd _ _ h3
    have skip : ∀ (hr : runS (G0 P n0 N) tab ops.toList Q os hd.pred (putT l o.dst (.t (.c (.imm undef)))) h), skA P ops Q o os hd l h := by
      intro hr
      have := runS_sound hf os hd.pred _ _ hr
      rw [← put_lk] at this
      cases hd with
      | zero => exact this
      | succ hd => exact this
    have grdG : ∀ (A B : Prop), (∀ hr : goG (G0 P n0 N) tab ops.toList Q o os hd l h, A) →
        (∀ hr : runS (G0 P n0 N) tab ops.toList Q os hd.pred (putT l o.dst (.t (.c (.imm undef)))) h, B) → grd ops o (lkT l) A B := by
      intro A B hA hB
      simp only [runS] at hp
      unfold grd
      split at hp
      · rename_i hg; rw [hg]; exact hA hp
      · rename_i gi want hg
        rw [hg]
        simp only
        rw [← hdst]
        split at hp
        · rename_i ht; rw [ht]; exact hB hp
        · rename_i t ht
          rw [ht]
          simp only
          split at hp
          · rename_i b hb
            rw [hb]
            simp only
            cases want <;> cases b <;> first
              | exact ⟨fun h => (by cases h), fun _ => hB hp⟩
              | exact ⟨fun _ => hA hp, fun h => (by cases h)⟩
          · rename_i u hn hu
            rw [hu]
            cases u <;> first | exact hB hp | (rename_i b; exact (hn b rfl).elim)
          · exact hp.elim
    cases hd with
    | zero => exact grdG _ _ run skip
    | succ hd => exact grdG _ _ run skip
def QE (Q : Exit → List (Nat × AV) → EH → Prop) (e : Exit) (T : Nat → AV) (h : AH) : Prop := ∃ l eh, T = lkT l ∧ h = toH eh ∧ Q e l eh
theorem runC_sound (hf : Fits P tab) : ∀ (c : Code) (Q : Exit → List (Nat × AV) → EH → Prop) (l : List (Nat × AV)) (h : EH), codeOk N c = true → runC (G0 P n0 N) tab c Q l h → VC P n0 N c (QE Q) (lkT l) (toH h)
  | .skip, Q, l, h, _, hp => vc_skip ⟨l, h, rfl, rfl, hp⟩
  | .ret, Q, l, h, _, hp => vc_ret ⟨l, h, rfl, rfl, hp⟩
  | .exit id, Q, l, h, _, hp => vc_exit ⟨l, h, rfl, rfl, hp⟩
  | .seq x y, Q, l, h, ho, hp => by
    simp only [codeOk, Bool.and_eq_true] at ho
    refine vc_seq (vc_mono (fun e T h hq => ?_) (runC_sound hf x _ l h ho.1 hp))
    obtain ⟨l, eh, rfl, rfl, hq⟩ := hq
    cases e <;> first
      | exact ⟨l, eh, rfl, rfl, hq⟩
      | exact runC_sound hf y Q l eh ho.2 hq
  | .cond c x y, Q, l, h, ho, hp => by
    simp only [codeOk, Bool.and_eq_true] at ho
    simp only [runC] at hp
    split at hp
    · rename_i b hb
      refine vc_cond hb (fun hb => ?_) (fun hb => ?_)
      · subst hb; exact runC_sound hf x Q l h ho.1 hp
      · subst hb; exact runC_sound hf y Q l h ho.2 hp
    · exact hp.elim
  | .block id c, Q, l, h, ho, hp => by
    refine vc_block (vc_mono (fun e T h hq => ?_) (runC_sound hf c _ l h ho hp))
    obtain ⟨l, eh, rfl, rfl, hq⟩ := hq
    cases e <;> first
      | exact ⟨l, eh, rfl, rfl, hq⟩
      | skip
    rename_i i
    simp only [blockQ]
    simp only at hq
    split at hq
    · rename_i hb
      rw [if_pos (bt hb)]
      exact ⟨l, eh, rfl, rfl, hq⟩
    · rename_i hb
      rw [if_neg (fun he => by subst he; simp at hb)]
      exact ⟨l, eh, rfl, rfl, hq⟩
  | .region id ops draw, Q, l, h, ho, hp => by
    obtain ⟨os⟩ := ops
    simp only [codeOk, Bool.and_eq_true, Bool.or_eq_true, Bool.not_eq_true'] at ho
    cases draw with
    | false => exact vc_region ho.1 (runS_sound hf os 0 l h hp)
    | true =>
      obtain ⟨h1, h2⟩ := ho
      rcases h2 with h2 | h2
      · cases h2
      · exact vc_draw _ hf.mix h1 h2 (runS_sound hf os _ l h hp)
  | .loop c, Q, l, h, _, hp => hp
  | .rangeFunc _ _ _ _, _, _, _, _, hp => hp.elim
  | .scope _, _, _, _, _, hp => hp.elim
  | .label _, _, _, _, _, hp => hp.elim
  | .goto _, _, _, _, _, hp => hp.elim
  | .refuse _, _, _, _, _, hp => hp.elim
end
end Go.Proofs.YtgcofllgbdcicaaGreat.Am
