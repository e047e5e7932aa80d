/- A part of AM, a framework of the prover own: functions of any program as maps of data. -/
import Derived.Test.YtenbloaopcfdlaaGreatIae
namespace Go.Proofs.YtenbloaopcfdlaaGreat.Am
open Go.RowKit
set_option linter.unusedVariables false
set_option linter.unusedSimpArgs false
section
variable {P : Program} {F : Nat → Prop} {w w0 : World} {m m0 : AM} {h h0 : AH} {N n0 : Nat} {T : Nat → AV} {a : Act} {s : Nat → Option (List (List AC))}
theorem RC.dat {c : AC} {v : Value} (hd : dat c = true) (hc : RC F w m h c v) : RP F w c v := by
  cases c <;> first | (unfold RP; exact hc; done) | exact hc | cases hd
def Weak [BP] (n0 N : Nat) (T : Nat → AV) (h : AH) (l : List (Nat × AV)) (h' : AH) : Prop :=
  ∀ (F : Nat → Prop) (w0 : World) (m0 : AM) (h0 : AH) (a : Act) (w : World) (m : AM), h0.length = n0 → Rel F w0 m0 h0 N T h a w m → ∃ F' m', Grow F F' w0 m0 h0 ∧ Rel F' w0 m0 h0 N (lkT l) h' a w m'
theorem Wk.weak {β : BP} {l : List (Nat × AV)} {h' : AH} {ρ : List (Option Nat)} (hw : Wk n0 T h l h' ρ) : Weak n0 N T h l h' := fun F w0 m0 h0 a w m hn r => ⟨F, _, Grow.refl _ _ _ _, r.rn hn hw⟩
theorem vc_loopW {β : BP} {S : Type} {Q : Exit → (Nat → AV) → AH → Prop} {c : Code} (Tf : S → List (Nat × AV)) (hf : S → AH) (ok : S → Prop) (μ : S → Nat) (s0 : S) (h0 : ok s0) (hw : Weak n0 N T h (Tf s0) (hf s0))
    (body : ∀ s, ok s → VC P n0 N c (thenQ (fun T' h' => ∃ s', ok s' ∧ μ s' < μ s ∧ Weak n0 N T' h' (Tf s') (hf s')) Q) (lkT (Tf s)) (hf s)) : VC P n0 N (.loop c) Q T h := fun F w0 m0 h00 a w m hn r => by
  obtain ⟨F0, m1, hG0, r0⟩ := hw F w0 m0 h00 a w m hn r
  refine wp_loop_ghost (fun k a w => ∃ s m F1, μ s = k ∧ ok s ∧ Grow F F1 w0 m0 h00 ∧ Rel F1 w0 m0 h00 N (lkT (Tf s)) (hf s) a w m) (μ s0) ⟨s0, m1, F0, rfl, h0, hG0, r0⟩ ?_
  rintro k a w ⟨s, m, F1, rfl, hok, hG, r⟩
  refine Code.wp_mono (fun e a' w' ⟨T', h', m', F2, hq, hG2, r'⟩ => ?_) (body s hok F1 w0 m0 h00 a w m hn r)
  have hG3 := hG.comp hG2
  cases e with
  | normal =>
    obtain ⟨s', h1, h2, h3⟩ := hq
    obtain ⟨F4, m4, hG4, r4⟩ := h3 F2 w0 m0 h00 a' w' m' hn r'
    exact ⟨μ s', h2, s', m4, F4, rfl, h1, hG3.comp hG4, r4⟩
  | exit id => exact ⟨T', h', m', F2, hq, hG3, r'⟩
  | goto l => exact ⟨T', h', m', F2, hq, hG3, r'⟩
  | ret => exact ⟨T', h', m', F2, hq, hG3, r'⟩
  | panic c => exact ⟨T', h', m', F2, hq, hG3, r'⟩
  | outgrown => exact ⟨T', h', m', F2, hq, hG3, r'⟩
end
section
variable {P : Program} {tab : List (TypeId × TI)} {n0 N : Nat} {g : Gd} {h : EH} {c : Code} {Q : Exit → List (Nat × AV) → EH → Prop} {l : List (Nat × AV)}
end
def selG (ρ0 : List (Option Nat)) (h' h : AH) : List (Option Nat) → AH → Prop
  | [], [] => True
  | some j :: ρ, e :: es => (∃ ab ab', h[j]? = some (.live ab) ∧ e = .live ab' ∧ ab'.ty = ab.ty ∧ ab'.k = ab.k ∧ ((ab'.es = ab.es ∧ plainE ab.es = true) ∨ rnE ρ0 h' ab'.es ab.es)) ∧ selG ρ0 h' h ρ es
  | none :: ρ, e :: es => (∃ ab', e = .live ab' ∧ ab'.es.length = 0) ∧ selG ρ0 h' h ρ es
  | _, _ => False
theorem selG_len {ρ0 : List (Option Nat)} {h' h : AH} : ∀ (ρ : List (Option Nat)) (es : AH), selG ρ0 h' h ρ es → ρ.length = es.length
  | [], [], _ => rfl
  | some _ :: ρ, e :: es, hs => by simp [selG_len ρ es hs.2]
  | none :: ρ, e :: es, hs => by simp [selG_len ρ es hs.2]
  | [], _ :: _, hs => hs.elim
  | some _ :: _, [], hs => hs.elim
  | none :: _, [], hs => hs.elim
theorem selG_live {ρ0 : List (Option Nat)} {h' h : AH} : ∀ (ρ : List (Option Nat)) (es : AH), selG ρ0 h' h ρ es → ∀ (i j : Nat), ρ[i]? = some (some j) → ∃ ab, h[j]? = some (.live ab)
  | [], _, _, i, j, hi => by simp at hi
  | some k :: ρ, e :: es, hs, 0, j, hi => by
    simp only [List.getElem?_cons_zero, Option.some.injEq] at hi
    subst hi
    obtain ⟨⟨ab, _, h1, _⟩, _⟩ := hs
    exact ⟨ab, h1⟩
  | none :: ρ, e :: es, hs, 0, j, hi => by simp at hi
  | some k :: ρ, e :: es, hs, i + 1, j, hi => selG_live ρ es hs.2 i j (by simpa using hi)
  | none :: ρ, e :: es, hs, i + 1, j, hi => selG_live ρ es hs.2 i j (by simpa using hi)
  | some _ :: _, [], hs, _, _, _ => hs.elim
  | none :: _, [], hs, _, _, _ => hs.elim
theorem selG_rnH {n0 : Nat} {ρ0 : List (Option Nat)} {h' h : AH} (hid : ∀ i, i < n0 → ρ0[i]? = some (some i)) : ∀ (ρ : List (Option Nat)) (es : AH) (pre : List (Option Nat)), pre ++ ρ = ρ0 → selG ρ0 h' h ρ es → rnH n0 ρ0 h' h pre.length es
  | [], [], pre, _, _ => trivial
  | some j :: ρ, e :: es, pre, hp, hs => by
    obtain ⟨⟨ab, ab', h1, rfl, h2, h3, h4⟩, hs2⟩ := hs
    have := selG_rnH hid ρ es (pre ++ [some j]) (by simpa using hp) hs2
    rw [List.length_append, List.length_singleton] at this
    have e1 : ρ0[pre.length]? = some (some j) := by rw [← hp]; simp
    unfold rnH
    refine ⟨fun hi => hid _ hi, ?_, this⟩
    simp only [e1, h1]
    exact ⟨h2, h3, h4⟩
  | none :: ρ, e :: es, pre, hp, hs => by
    obtain ⟨⟨ab', rfl, h2⟩, hs2⟩ := hs
    have := selG_rnH hid ρ es (pre ++ [none]) (by simpa using hp) hs2
    rw [List.length_append, List.length_singleton] at this
    have e1 : ρ0[pre.length]? = some none := by rw [← hp]; simp
    unfold rnH
    refine ⟨fun hi => hid _ hi, ?_, this⟩
    simp only [e1]
    exact h2
  | [], _ :: _, _, _, hs => hs.elim
  | some _ :: _, [], _, _, hs => hs.elim
  | none :: _, [], _, _, hs => hs.elim
theorem wkG {n0 : Nat} {T : Nat → AV} {h h' : AH} {l' : List (Nat × AV)} (ρ : List (Option Nat)) (hk : rnK ρ h' T l') (hs : selG ρ h' h ρ h') (hn : (ρ.filterMap id).Nodup) (hid : ∀ i, i < n0 → ρ[i]? = some (some i)) : Wk n0 T h l' h' ρ := by
  have hl := selG_len ρ h' hs
  refine ⟨?_, fun i hi hg => ?_, hn, selG_rnH hid ρ h' [] rfl hs, hk⟩
  · rcases Nat.eq_zero_or_pos n0 with h0 | h0
    · omega
    · have := (List.getElem?_eq_some_iff.1 (hid (n0 - 1) (by omega))).1
      omega
  · obtain ⟨ab, h1⟩ := selG_live ρ h' hs i i (hid i hi)
    rw [h1] at hg; cases hg
theorem no_lt {p : Nat → Prop} : ∀ i, i < 0 → p i := fun i hi => absurd hi (Nat.not_lt_zero _)
end Go.Proofs.YtenbloaopcfdlaaGreat.Am
