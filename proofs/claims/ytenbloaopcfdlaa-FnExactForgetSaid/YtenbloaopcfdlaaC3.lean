/- Numbers, lengths, sides and bounds, as maps of data. -/
import Derived.Test.YtenbloaopcfdlaaC2
namespace Go.Proofs.Ytenbloaopcfdlaa
open Go.ChangeShapes Go.WideShapes Go.ChangeAt Go.RowKit Am
set_option linter.unusedVariables false
set_option linter.unusedSimpArgs false
set_option maxRecDepth 100000

def bro (n l m : Int) : Int := if m < l ∨ n < l then l else if m < n then m else n
def cl (n : Int) : Int := bro n 0 1048576
def sg (n : Int) : Int := bro n (-1048576) 1048576
def fdv (a b : Int) : Int := if b < 1 then 0 else if a.tmod b < 0 then wrap64 (wrap64 (a.tdiv b) - 1) else wrap64 (a.tdiv b)
def kn (v : GVal) (base : Int) : Bool := decide (v.kind = 1) || (decide (v.kind = 2) && decide (0 ≤ base))
def lenV (v : GVal) (base : Int) : Int := if kn v base = false then -1 else if v.kind = 1 then v.n else fdv (wrap64 (cl base * bro v.n (-1000000) 1000000)) 100
def sizV (v : GVal) (base : Int) : Int := if kn v base = false then -1 else cl (lenV v base)
def orl (n m : Int) : Int := if n = -1 then m else n
def sideV (s : GSides) (sd : Int) (rtl : Bool) : GVal :=
  if sd = 1 then s.top else if sd = 3 then s.bottom
  else if sd = 0 then (if (if rtl then s.fin else s.start).kind ≠ 0 then (if rtl then s.fin else s.start) else s.left)
  else if sd = 2 then (if (if rtl then s.start else s.fin).kind ≠ 0 then (if rtl then s.start else s.fin) else s.right) else ⟨0, 0⟩
def adE (a b : Int) : Int := cl (wrap64 (cl a + cl b))
def edIn (a b : GEdges) : GEdges := ⟨adE a.left b.left, adE a.top b.top, adE a.right b.right, adE a.bottom b.bottom⟩
def frmO (s : GStyle) : GEdges := edIn s.pad s.border
def frmS (s : GStyle) (wide : Bool) : Int := if wide then adE (frmO s).left (frmO s).right else adE (frmO s).top (frmO s).bottom
def lstO (s : GStyle) (wide : Bool) (base : Int) : Int := if frmS s wide < orl (sizV (if wide then s.minWidth else s.minHeight) base) 0 then orl (sizV (if wide then s.minWidth else s.minHeight) base) 0 else frmS s wide
def mstO (s : GStyle) (wide : Bool) (base : Int) : Int := sizV (if wide then s.maxWidth else s.maxHeight) base
def bndO (s : GStyle) (wide : Bool) (base n : Int) : Int := cl (within n (lstO s wide base) (mstO s wide base))
def fixO (s : GStyle) (wide : Bool) (base : Int) : Int := sizV (if wide then s.width else s.height) base
def rootS (s : GStyle) (wide : Bool) (n : Int) : GSpace := if fixO s wide n ≠ -1 then ⟨3, bndO s wide n (fixO s wide n)⟩ else if n < 0 then ⟨1, 0⟩ else ⟨3, bndO s wide n n⟩
theorem spec_l01In_a (n l m : Int) : PCon Try.prog 68 [ai n, ai l, ai m] fun res rows => res = .t (abl (decide (l ≤ n) && decide (n ≤ m))) ∧ rows = [] := by
  refine pcon_run (c := body Try.f68) fits Try.func68 (by kernel_rfl) (by kernel_rfl) (by rfl) (by kernel_rfl) fun g F hg hF => ?_
  cbv
  repeat' (first | (split <;> rename_i hh <;> (try rw [hh]) <;> (try simp only [goLss hg, goLeq hg, goGtr hg, goGeq hg, goEql hg, goNeq hg, goEqlB hg, goNeqB hg, goAdd hg, goSub hg, goMul hg, goQuo hg, goRem hg, goNg hg, goMn hg, goMx hg, beq_iff_eq, bne_iff_ne, beq_eq_false_iff_ne, bne_eq_false_iff_eq, decide_eq_true_eq, decide_eq_false_iff_not, ne_eq, Decidable.not_not] at hh) <;> cbv))
  all_goals exact fin0b hF (by (try simp only [goLeq hg, goGeq hg]); grind)
theorem impl_in_a (n l m : Int) : PCon Try.prog 74 [ai n, ai l, ai m] fun res rows => res = .t (abl (decide (l ≤ n) && decide (n ≤ m))) ∧ rows = [] := by
  refine pcon_run (c := body Try.f74) fits Try.func74 (by kernel_rfl) (by kernel_rfl) (by rfl) (by kernel_rfl) fun g F hg hF => ?_
  cbv
  repeat' (first | (split <;> rename_i hh <;> (try rw [hh]) <;> (try simp only [goLss hg, goLeq hg, goGtr hg, goGeq hg, goEql hg, goNeq hg, goEqlB hg, goNeqB hg, goAdd hg, goSub hg, goMul hg, goQuo hg, goRem hg, goNg hg, goMn hg, goMx hg, beq_iff_eq, bne_iff_ne, beq_eq_false_iff_ne, bne_eq_false_iff_eq, decide_eq_true_eq, decide_eq_false_iff_not, ne_eq, Decidable.not_not] at hh) <;> cbv))
  all_goals exact fin0b hF (by (try simp only [goLeq hg, goGeq hg]); grind)

end Go.Proofs.Ytenbloaopcfdlaa
