/- Lines: their length, how much they are spread, whether they are filled. -/
import Derived.Test.YtenbloaopcfdlaaC5
namespace Go.Proofs.Ytenbloaopcfdlaa
open Go.ChangeShapes Go.WideShapes Go.ChangeAt Go.RowKit Am
set_option linter.unusedVariables false
set_option linter.unusedSimpArgs false
set_option maxRecDepth 100000

theorem RepS.len {α : Type} {k : Nat} {c : α → Array Value} {w : World} {v : Value} {xs : List α} (h : RepS k c w v xs) : xs.length ≤ 9223372036854775807 := by
  obtain ⟨p, cap, _, h1, h2, _⟩ := h
  exact Nat.le_trans h1 (Nat.le_trans h2 (by decide))
theorem toRow {P : Program} {f : FuncId} {args : List AT} {ab0 : AB} {q : AB → Prop} (hc : PCon P f args fun res rows => ∃ ab, res = .t (.c (.own 0)) ∧ rows = [ab] ∧ q ab ∧ ab = ab0) : PCon P f args fun res rows => res = .t (.c (.own 0)) ∧ rows = [ab0] :=
  Con.mono hc fun res h' ⟨rows, h1, ab, h2, h3, _, h4⟩ => ⟨rows, h1, h2, by rw [h3, h4]⟩
theorem vw_imm {α : Type} (c : α → Array Value) (xs : List α) : immE (vw c xs) = true := by
  simp only [immE, vw, List.all_map, List.all_eq_true]
  intro x _
  simp [lc]
def gapS (gap z : Int) : Int := if 0 < z then gap * (z - 1) else 0
def lenB (x : GItem) : Int := x.before + x.behind
def outer (xs : List GItem) (ys : List Int) (gap : Int) : Int := (xs.map lenB).sum + gapS gap xs.length + (ys.map id).sum
theorem gapS_succ {gap z : Int} (hz : 0 ≤ z) : gapS gap (z + 1) = gapS gap z + if 0 < z then gap else 0 := by
  unfold gapS
  rw [if_pos (by omega)]
  by_cases h : 0 < z
  · rw [if_pos h, if_pos h, show z + 1 - 1 = (z - 1) + 1 by omega, Int.mul_add, Int.mul_one]
  · rw [if_neg h, if_neg h, show z + 1 - 1 = 0 by omega, Int.mul_zero]; rfl

end Go.Proofs.Ytenbloaopcfdlaa
