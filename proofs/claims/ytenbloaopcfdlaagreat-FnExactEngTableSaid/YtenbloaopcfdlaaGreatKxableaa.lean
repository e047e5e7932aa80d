/- A part of AM, a framework of the prover own: functions of any program as maps of data. -/
import Derived.Test.YtenbloaopcfdlaaGreatKbg
namespace Go.Proofs.YtenbloaopcfdlaaGreat.Am
open Go.RowKit
set_option linter.unusedVariables false
set_option linter.unusedSimpArgs false
section
variable {P : Program} {w0 : World} {m0 : AM} {h0 : AH} {N : Nat} {ops : Array Oper}
end
section
variable {P : Program} {n0 N : Nat} {tab : List (TypeId × TI)}
end
def keepK (T : Nat → AV) : List (Nat × AV) → Prop
  | [] => True
  | (d, v) :: l => T d = v ∧ keepK T l
theorem keepK_at {T : Nat → AV} : ∀ (l : List (Nat × AV)), keepK T l → ∀ d, lkT l d = .t (.c .dead) ∨ lkT l d = T d
  | [], _, d => .inl rfl
  | (k, v) :: l, h, d => by
    unfold lkT
    split
    · rename_i hb
      rw [hb]
      exact .inr h.1.symm
    · exact keepK_at l h.2 d
theorem weak_keep {β : BP} {n0 N : Nat} {T : Nat → AV} {h : AH} {l : List (Nat × AV)} (hk : keepK T l) : Weak n0 N T h l h := fun F w0 m0 h0 a w m hn r =>
  ⟨F, m, Grow.refl _ _ _ _, ⟨fun d => by
    rcases keepK_at l hk d with h1 | h1 <;> rw [h1]
    · exact (trivial : RC F w m h .dead _)
    · exact r.tm d, r.st, r.df, r.sz⟩⟩
end Go.Proofs.YtenbloaopcfdlaaGreat.Am
