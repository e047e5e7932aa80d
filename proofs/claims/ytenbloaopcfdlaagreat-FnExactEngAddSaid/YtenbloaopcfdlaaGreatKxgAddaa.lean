/- A part of AM, a framework of the prover own: functions of any program as maps of data. -/
import Derived.Test.YtenbloaopcfdlaaGreatKbg
namespace Go.Proofs.YtenbloaopcfdlaaGreat.Am
open Go.RowKit
set_option linter.unusedVariables false
set_option linter.unusedSimpArgs false
section
variable {P : Program} {tab : List (TypeId × TI)} {n0 N : Nat} {T : Nat → AV} {h : EH} {n : Nat}
end
end Go.Proofs.YtenbloaopcfdlaaGreat.Am
namespace Go.Proofs.YtenbloaopcfdlaaGreat.Am
open Go.RowKit
set_option linter.unusedVariables false
section
variable {P : Program} {n0 N : Nat} {g : Gd}
end
end Go.Proofs.YtenbloaopcfdlaaGreat.Am
namespace Go.Proofs.YtenbloaopcfdlaaGreat.Am
open Go.RowKit
set_option linter.unusedVariables false
set_option linter.unusedSimpArgs false
section
variable {P : Program} {n0 N n : Nat} {g : Gd}
end
end Go.Proofs.YtenbloaopcfdlaaGreat.Am
namespace Go.Proofs.YtenbloaopcfdlaaGreat.Am
open Go.RowKit
set_option linter.unusedVariables false
set_option linter.unusedSimpArgs false
section
variable {F : Nat → Prop} {w : World} {m m' : AM} {h h' : AH} {s : Nat → Nat}
end
section
variable {F : Nat → Prop} {w w' : World} {M : AM} {H : AH}
end
section
variable {P : Program} {n0 N : Nat} {g : Gd}
end
end Go.Proofs.YtenbloaopcfdlaaGreat.Am
namespace Go.Proofs.YtenbloaopcfdlaaGreat.Am
open Go.RowKit
set_option linter.unusedVariables false
set_option linter.unusedSimpArgs false
def otB (ops : Array Oper) : OT → Nat → Array Bool → List Nat → Bool → Bool
  | .done, _, _, al, top => top && al.isEmpty
  | .none, _, _, al, top => !top && al.isEmpty
  | .op i t r, f, L, al, _ => match f, al with
    | f' + 1, j :: al' => Nat.beq i j && (otB ops t f' (L.setIfInBounds i true) (Region.ready .any ops (L.setIfInBounds i true)) true && otB ops r f L al' false)
    | _, _ => false
def otOk (ops : Array Oper) (t : OT) : Bool := otB ops t ops.size (Array.replicate ops.size false) (Region.ready .any ops (Array.replicate ops.size false)) true
section
variable {P : Program} {F : Nat → Prop} {w0 : World} {m0 : AM} {h0 : AH} {N : Nat} {ops : Array Oper} {T : Nat → AV} {h : AH}
def anyO [BP] (P : Program) (ops : Array Oper) (Q : (Nat → AV) → AH → Prop) : OT → (Nat → AV) → AH → Prop
  | .done, T, h => Q T h
  | .none, _, _ => True
  | .op i t r, T, h => (∃ (o : Oper) (K : (Nat → AV) → AH → Prop), ops[i]? = some o ∧ seqA P ops K [o] T h ∧ ∀ T h, K T h → anyO P ops Q t T h) ∧ anyO P ops Q r T h
theorem anyO_sound {β : BP} {F0 : Nat → Prop} {Q : Exit → (Nat → AV) → AH → Prop} (hg : guardOk N ops = true) (hd : ops.toList.all (dstOk N) = true) :
    ∀ (t : OT) (f : Nat) (L : Array Bool) (al : List Nat) (top : Bool) (F : Nat → Prop) (T : Nat → AV) (h : AH) (a : Act) (w : World) (m : AM), otB ops t f L al top = true → Grow F0 F w0 m0 h0 → Rel F w0 m0 h0 N T h a w m → anyO P ops (Q .normal) t T h →
      (∀ i ∈ al, ∃ f', f = f' + 1 ∧ wpOp P ops (Meets F0 w0 m0 h0 N Q) i (wpAny P .any ops (Meets F0 w0 m0 h0 N Q) f' (L.setIfInBounds i true)) a w) ∧ (top = true → al = [] → Meets F0 w0 m0 h0 N Q .normal a w)
  | .done, f, L, al, top, F, T, h, a, w, m, hB, hG, r, hq => by
    simp only [otB, Bool.and_eq_true, List.isEmpty_iff] at hB
    obtain ⟨h1, rfl⟩ := hB
    exact ⟨fun i hi => by simp at hi, fun _ _ => ⟨T, h, m, F, hq, hG, r⟩⟩
  | .none, f, L, al, top, F, T, h, a, w, m, hB, hG, r, hq => by
    simp only [otB, Bool.and_eq_true, List.isEmpty_iff, Bool.not_eq_true'] at hB
    obtain ⟨h1, rfl⟩ := hB
    exact ⟨fun i hi => by simp at hi, fun ht => by rw [h1] at ht; cases ht⟩
  | .op i t rs, f, L, al, top, F, T, h, a, w, m, hB, hG, r, hq => by
    unfold otB at hB
    split at hB
    · rename_i f' j al'
      simp only [Bool.and_eq_true] at hB
      obtain ⟨hij, hB1, hB2⟩ := hB
      have hij : i = j := Nat.eq_of_beq_eq_true hij
      subst hij
      obtain ⟨⟨o, K, ho, hs, hK⟩, hr⟩ := hq
      refine ⟨fun k hk => ?_, fun _ h1 => by cases h1⟩
      rcases List.mem_cons.1 hk with rfl | hk
      · refine ⟨f', rfl, ?_⟩
        have hmem : o ∈ ops.toList := List.mem_of_getElem? (by simpa using ho : ops.toList[k]? = some o)
        have hdo : dstOk N o = true := List.all_eq_true.1 hd o hmem
        have fin : ∀ (F1 : Nat → Prop) (T1 : Nat → AV) (h1 : AH) (a1 : Act) (w1 : World) (m1 : AM), Grow F0 F1 w0 m0 h0 → Rel F1 w0 m0 h0 N T1 h1 a1 w1 m1 → anyO P ops (Q .normal) t T1 h1 →
            wpAny P .any ops (Meets F0 w0 m0 h0 N Q) f' (L.setIfInBounds k true) a1 w1 := fun F1 T1 h1 a1 w1 m1 hG1 r1 hq1 => by
          obtain ⟨hA, hE⟩ := anyO_sound hg hd t f' _ _ true F1 T1 h1 a1 w1 m1 hB1 hG1 r1 hq1
          cases f' with
          | zero =>
            have hn : Region.ready .any ops (L.setIfInBounds k true) = [] := by
              cases hc : Region.ready .any ops (L.setIfInBounds k true) with
              | nil => rfl
              | cons x xs =>
                obtain ⟨f2, h2, _⟩ := hA x (by rw [hc]; simp)
                cases h2
            exact ⟨hn, hE rfl hn⟩
          | succ f2 =>
            refine ⟨fun hn => hE rfl hn, fun i hi => ?_⟩
            obtain ⟨f3, h3, h4⟩ := hA i hi
            cases h3
            exact h4
        unfold wpOp
        rw [ho]
        simp only
        unfold seqA at hs
        rcases grd_sound (a := a) (fun g t h1 h2 => by rw [r.sz]; exact guardOk_spec hg hmem g t h1 h2) (fun g t _ _ => r.tm t) hs with ⟨hw, hA⟩ | ⟨hw, hA⟩
        · rw [if_pos hw]
          left
          refine (opA_sound r.st.hp r.tm hA).wp (fun v w' ⟨res, h', m', F1, hk, hG1, hs, hv⟩ => ?_)
          exact fin F1 _ _ _ _ _ (r.grow hG hG1) (r.nextG hdo hG1.1 hs hv) (hK _ _ hk)
        · rw [if_neg (by rw [hw]; simp)]
          exact fin F _ _ _ _ _ hG (r.skip hdo) (hK _ _ hA)
      · exact (anyO_sound hg hd rs _ L al' false F T h a w m hB2 hG r hr).1 k hk
    · cases hB
theorem vc_any {β : BP} {n0 : Nat} {Q : Exit → (Nat → AV) → AH → Prop} {id : Nat} {l : List Oper} (t : OT) (hm : P.follows .mixedOrders = true) (hok : textOk N l.toArray = true) (hB : otOk l.toArray t = true) (hs : anyO P l.toArray (Q .normal) t T h) :
    VC P n0 N (.region id l.toArray true) Q T h := fun F w0 m0 h0 a w m hn r => by
  unfold textOk at hok
  simp only [Bool.and_eq_true] at hok
  refine wp_region_any hm ?_
  have hst := Step.drew r.st.hp
  have r' : Rel F w0 m0 h0 N T h a { w with drawn := w.drawn + 1 } m := ⟨fun d => RV.step hst r.st.hp (r.tm d), r.st.trans hst, r.df, r.sz⟩
  obtain ⟨hA, hE⟩ := anyO_sound (F0 := F) hok.1 hok.2 t _ _ _ true F T h a _ m hB (Grow.refl _ _ _ _) r' hs
  generalize hf : l.toArray.size = f at *
  cases f with
  | zero =>
    have hn : Region.ready .any l.toArray (Array.replicate 0 false) = [] := by
      cases hc : Region.ready .any l.toArray (Array.replicate 0 false) with
      | nil => rfl
      | cons x xs =>
        obtain ⟨f2, h2, _⟩ := hA x (by rw [hc]; simp)
        cases h2
    exact ⟨hn, hE rfl hn⟩
  | succ f2 =>
    refine ⟨fun hn => hE rfl hn, fun i hi => ?_⟩
    obtain ⟨f3, h3, h4⟩ := hA i hi
    cases h3
    exact h4
end
def runO (g : Gd) (tab : List (TypeId × TI)) (ops : List Oper) (Q : List (Nat × AV) → EH → Prop) : OT → List (Nat × AV) → EH → Prop
  | .done, l, h => Q l h
  | .none, _, _ => True
  | .op i t r, l, h => (match nth ops i with
    | some o => runS g tab ops (fun l h => runO g tab ops Q t l h) [o] 0 l h
    | none => False) ∧ runO g tab ops Q r l h
section
variable {P : Program} {n0 N : Nat} {tab : List (TypeId × TI)}
theorem runO_sound {β : BP} (hf : Fits P tab) {ops : Array Oper} {Q : List (Nat × AV) → EH → Prop} : ∀ (t : OT) (l : List (Nat × AV)) (h : EH), runO (G0 P n0 N) tab ops.toList Q t l h → anyO P ops (QH Q) t (lkT l) (toH h)
  | .done, l, h, hp => ⟨l, h, rfl, rfl, hp⟩
  | .none, _, _, _ => trivial
  | .op i t r, l, h, hp => by
    obtain ⟨h1, h2⟩ := hp
    refine ⟨?_, runO_sound hf r l h h2⟩
    split at h1
    · rename_i o ho
      rw [nth_eq, Array.getElem?_toList] at ho
      have h3 := runS_sound hf [o] 0 l h h1
      refine ⟨o, _, ho, h3, fun T h hk => ?_⟩
      obtain ⟨l', eh, rfl, rfl, hq⟩ := hk
      exact runO_sound hf t l' eh hq
    · exact h1.elim
end
end Go.Proofs.YtenbloaopcfdlaaGreat.Am
