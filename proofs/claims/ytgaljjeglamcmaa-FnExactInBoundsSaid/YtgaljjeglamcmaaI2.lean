/- Contracts of functions over slices of ints, and of those that make one. -/
import Derived.Test.YtgaljjeglamcmaaI1
import Derived.Test.YtgaljjeglamcmaaF2
namespace Go.Proofs.Ytgaljjeglamcmaa
open Go.ChangeShapes Go.WideShapes Go.ChangeAt Go.RowKit
set_option linter.unusedVariables false
set_option linter.unusedSimpArgs false
set_option maxRecDepth 100000

def edgesL (f : GFrame) : List Int := [f.x, f.y, wrap64 (f.x + f.wide), wrap64 (f.y + f.high)]
theorem own_lit {α : Type} {T k : Nat} {c : α → Array Value} {B b : Nat} {w : World} {cur : Array Value} {xs : List α} (hr : w.heap[b]? = some (.cells cur T (0, 0))) (hB : B ≤ b) (hm : xs.length ≤ maxLen) (hs : cur.size = xs.length * k)
    (h : ∀ i (h : i < xs.length) j, j < k → ∃ u, (c xs[i])[j]? = some u ∧ cur[i * k + j]? = some u) : OwnS T k c B w (.slice (some ⟨b, 0, none⟩) xs.length xs.length) xs :=
  .inr ⟨b, _, cur, rfl, hB, hr, Nat.le_refl _, hm, hs, h⟩

noncomputable def pB (p : Prop) : Bool := @decide p (Classical.propDecidable p)
theorem pB_true {p : Prop} (h : p) : pB p = true := by simp [pB, h]
theorem pB_false {p : Prop} (h : ¬ p) : pB p = false := by simp [pB, h]
/-- No place of a list lies before the end of the one ahead of it. -/
def Apart (ps ss : List Int) : Prop := ps.length = ss.length ∧ ∀ i (h : i + 1 < ps.length) (h' : i < ss.length), wrap64 (ps[i] + ss[i]) ≤ ps[i + 1]
def ApartTo (ps ss : List Int) (k : Nat) : Prop := ∀ i (h : i + 1 < ps.length) (h' : i < ss.length), i < k → wrap64 (ps[i] + ss[i]) ≤ ps[i + 1]

end Go.Proofs.Ytgaljjeglamcmaa
