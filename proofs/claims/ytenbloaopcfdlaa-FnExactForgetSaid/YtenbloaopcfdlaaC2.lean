/- Lines of items: lengths within bounds, sums over a line. -/
import Derived.Test.YtenbloaopcfdlaaC1
namespace Go.Proofs.Ytenbloaopcfdlaa
open Go.ChangeShapes Go.WideShapes Go.ChangeAt Go.RowKit Am
set_option linter.unusedVariables false
set_option linter.unusedSimpArgs false
set_option maxRecDepth 100000

def within (n l m : Int) : Int := if (if m < 0 then n else if m < n then m else n) < l then l else if m < 0 then n else if m < n then m else n
def psum {α : Type} (f : α → Int) (xs : List α) (n : Nat) : Int := ((xs.take n).map f).sum
theorem psum_zero {α : Type} (f : α → Int) (xs : List α) : psum f xs 0 = 0 := by simp [psum]
theorem psum_succ {α : Type} (f : α → Int) {xs : List α} {n : Nat} {x : α} (h : xs[n]? = some x) : psum f xs (n + 1) = psum f xs n + f x := by
  simp [psum, List.take_add_one, h]
theorem psum_all {α : Type} (f : α → Int) {xs : List α} {n : Nat} (h : xs.length ≤ n) : psum f xs n = (xs.map f).sum := by
  rw [psum, List.take_of_length_le h]
theorem wrap_l (a b : Int) : wrap64 (wrap64 a + b) = wrap64 (a + b) := by unfold wrap64; omega
theorem wrap_ls (a b : Int) : wrap64 (wrap64 a - b) = wrap64 (a - b) := by unfold wrap64; omega
theorem wrap_r (a b : Int) : wrap64 (a + wrap64 b) = wrap64 (a + b) := by unfold wrap64; omega
theorem vw_k {α : Type} {c : α → Array Value} {k : Nat} (hk : ∀ x, (c x).size = k) {xs : List α} : ∀ y ∈ vw c xs, y.length = k := by
  intro y hy
  simp only [vw, List.mem_map] at hy
  obtain ⟨x, _, rfl⟩ := hy
  rw [lc_len]; exact hk x
theorem lc_dat (a : Array Value) : (lc a).all dat = true := by simp [lc, dat]
theorem vw_dat {α : Type} {c : α → Array Value} {xs : List α} : ∀ y ∈ vw c xs, y.all dat = true := by
  intro y hy
  simp only [vw, List.mem_map] at hy
  obtain ⟨x, _, rfl⟩ := hy
  exact lc_dat _
def hyp (x : GItem) : Int := within x.base x.least x.most
def spreadE (xs : List GItem) (ys : List Int) : Int := (ys.map id).sum - (xs.map hyp).sum

end Go.Proofs.Ytenbloaopcfdlaa
