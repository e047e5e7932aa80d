/- Boxes without their edges, spaces of a root, frames in bounds. -/
import Derived.Test.YtenbloaopcfdlaaC4
namespace Go.Proofs.Ytenbloaopcfdlaa
open Go.ChangeShapes Go.WideShapes Go.ChangeAt Go.RowKit Am
set_option linter.unusedVariables false
set_option linter.unusedSimpArgs false
set_option maxRecDepth 100000

theorem argsR_nil {F : Nat → Prop} {w : World} : ∀ (j : Nat) (x : AT), ([] : List AT)[j]? = some x → ∃ v, ([] : List Value)[j]? = some v ∧ RT F w [] [] x v := fun j x h => by simp at h
theorem argsR_cons {F : Nat → Prop} {w : World} {x : AT} {v : Value} {xs : List AT} {vs : List Value} (h1 : RT F w [] [] x v) (h2 : ∀ (j : Nat) (x : AT), xs[j]? = some x → ∃ v, vs[j]? = some v ∧ RT F w [] [] x v) :
    ∀ (j : Nat) (y : AT), (x :: xs)[j]? = some y → ∃ u, (v :: vs)[j]? = some u ∧ RT F w [] [] y u := fun j y h => by
  cases j with
  | zero => simp only [List.getElem?_cons_zero, Option.some.injEq] at h; subst h; exact ⟨v, rfl, h1⟩
  | succ j => exact h2 j y (by simpa using h)
def padW (s : GStyle) (w : Int) : Int := cl (wrap64 (cl w - adE s.border.left s.border.right))
def padH (s : GStyle) (h : Int) : Int := cl (wrap64 (cl h - adE s.border.top s.border.bottom))
def frmB (s : GStyle) (f : GFrame) (w h : Int) : Bool := (bndO s true w f.wide == f.wide) && (bndO s false h f.high == f.high)

end Go.Proofs.Ytenbloaopcfdlaa
