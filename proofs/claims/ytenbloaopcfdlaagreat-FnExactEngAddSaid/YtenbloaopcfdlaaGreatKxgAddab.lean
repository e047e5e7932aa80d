/- A part of AM, a framework of the prover own: functions of any program as maps of data. -/
import Derived.Test.YtenbloaopcfdlaaGreatKxgAddaa
namespace Go.Proofs.YtenbloaopcfdlaaGreat.Am
open Go.RowKit
set_option linter.unusedVariables false
set_option linter.unusedSimpArgs false
section
variable {P : Program} {tab : List (TypeId × TI)} {n0 N : Nat}
end
section
variable {P : Program} {F : Nat → Prop} {w : World} {m : AM} {h : AH} {p : Nat}
end
section
variable {P : Program} {tab : List (TypeId × TI)}
end
section
variable {P : Program} {tab : List (TypeId × TI)} {n0 N : Nat}
end
theorem hand_any {P : Program} {tab : List (TypeId × TI)} {n0 N : Nat} {β : BP} {g : Gd} {hd : HF} (hg : g = G0 P n0 N) (hhd : hd = hd0 P n0 N) (hfit : Fits P tab) {id : Nat} {os : List Oper} (t : OT) (hok : textOk N os.toArray = true) (hB : otOk os.toArray t = true) {Q : Exit → List (Nat × AV) → EH → Prop} {l : List (Nat × AV)} {h : EH}
    (l2 : List (Nat × AV)) (h2 : EH) (hp : ∀ B : List (Nat × AV) → EH → Prop, (∀ l' h', Weak n0 N (lkT l') (toH h') l2 (toH h2) → B l' h') → runO g tab os B t l h) (hq : Q .normal l2 h2) : hd (.region id os.toArray true) Q l h := by
  subst hhd hg
  have hv := runO_sound hfit (ops := os.toArray) t l h (hp _ fun l' h' hw => hw)
  have hvc := vc_any (P := P) (n0 := n0) (id := id) (Q := fun e T h => match e with | .normal => QH (fun l' h' => Weak n0 N (lkT l') (toH h') l2 (toH h2)) T h | _ => False) t hfit.mix hok hB hv
  intro F w0 m0 h0 a w m hn r
  refine Code.wp_mono (fun e a' w' ⟨T', h', m', F1, hw, hG, r'⟩ => ?_) (hvc F w0 m0 h0 a w m hn r)
  cases e <;> first | exact hw.elim | skip
  obtain ⟨l', eh, e1, e2, hw⟩ := hw
  subst e1 e2
  obtain ⟨F2, m2, hG2, r2⟩ := hw F1 w0 m0 h0 a' w' m' hn r'
  exact ⟨_, _, m2, F2, ⟨l2, h2, rfl, rfl, hq⟩, hG.comp hG2, r2⟩
end Go.Proofs.YtenbloaopcfdlaaGreat.Am
