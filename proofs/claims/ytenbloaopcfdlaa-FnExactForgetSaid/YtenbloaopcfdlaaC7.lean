/- Frames on a grid: one and all. -/
import Derived.Test.YtenbloaopcfdlaaC6
import Derived.Test.YtenbloaopcfdlaaAmAE
namespace Go.Proofs.Ytenbloaopcfdlaa
open Go.ChangeShapes Go.WideShapes Go.ChangeAt Go.RowKit Am
set_option linter.unusedVariables false
set_option linter.unusedSimpArgs false
set_option maxRecDepth 100000

def snapT (n s : Int) : Int := if (1 ≤ s ∧ s ≤ 4096) ∧ (-1000000000 ≤ n ∧ n ≤ 1000000000) then wrap64 (fdv (wrap64 (wrap64 (2 * n) + s)) (wrap64 (2 * s)) * s) else n
def snapG (s : Int) (f : GFrame) : GFrame := ⟨f.node, snapT f.x s, snapT f.y s, wrap64 (snapT (wrap64 (f.x + f.wide)) s - snapT f.x s), wrap64 (snapT (wrap64 (f.y + f.high)) s - snapT f.y s)⟩
abbrev agF (f : GFrame) : AT := .agg [.imm (.int .i64 f.node), .imm (.int .i64 f.x), .imm (.int .i64 f.y), .imm (.int .i64 f.wide), .imm (.int .i64 f.high)]
/-- A row that is filled by what is put behind. -/
structure Grow (G es : List (List AC)) (z : Int) : Prop where
  z0 : 0 ≤ z
  z1 : z ≤ lenI G
  eq : es = G.take z.toNat
theorem Grow.start (G : List (List AC)) : Grow G [] 0 := ⟨Int.le_refl 0, by rw [lenI_eq]; omega, by simp⟩
theorem Grow.step {G es : List (List AC)} {z : Int} {y : List AC} (h : Grow G es z) (hy : G[z.toNat]? = some y) : Grow G (es ++ [y]) (z + 1) := by
  have h0 := h.z0
  have hl := (List.getElem?_eq_some_iff.1 hy).1
  refine ⟨by omega, by rw [lenI_eq]; omega, ?_⟩
  rw [show (z + 1).toNat = z.toNat + 1 by omega, List.take_add_one, hy, h.eq]
  rfl
theorem Grow.done {G es : List (List AC)} {z : Int} (h : Grow G es z) (hz : ¬ z < lenI G) : es = G := by
  rw [lenI_eq] at hz
  rw [h.eq, List.take_of_length_le (by omega)]
theorem Grow.len {G es : List (List AC)} {z : Int} (h : Grow G es z) : es.length ≤ G.length := by rw [h.eq]; simp; omega
theorem Grow.plain {G es : List (List AC)} {z : Int} (h : Grow G es z) (hp : plainE G = true) : plainE es = true := by
  rw [h.eq, plainE, List.all_eq_true]
  intro x hx
  exact List.all_eq_true.1 hp x (List.mem_of_mem_take hx)
theorem goNA {P : Program} {n0 N : Nat} {g : Gd} (hg : g = G0 P n0 N) {t k by_ : Nat} {es : List (List AC)} {y : List AC} {q : Prop} (hk : y.length = k) (hb : by_ ≤ 65536) (hl : es.length ≤ 1048576) (hq : q) :
    g .N ((∀ x, x ∈ [y] → x.length = k) ∧ ((AB.mk t k es).es.length + [y].length) * by_ ≤ 140737488355328 ∧ (AB.mk t k es).es.length + [y].length ≤ 4611686018427387904) q :=
  goN hg ⟨fun x hx => by rw [List.mem_singleton.1 hx]; exact hk, Nat.le_trans (Nat.mul_le_mul (show es.length + 1 ≤ 1048577 by omega) hb) (by decide), by show es.length + 1 ≤ _; omega⟩ hq

end Go.Proofs.Ytenbloaopcfdlaa
