/- Numbers, lengths, sides and bounds, as maps of data. -/
import Derived.Test.YtcohgnecmgcajaaC2
namespace Go.Proofs.Ytcohgnecmgcajaa
open Go.ChangeShapes Go.WideShapes Go.ChangeAt Go.RowKit Am
set_option linter.unusedVariables false
set_option linter.unusedSimpArgs false
set_option maxRecDepth 100000

def bro (n l m : Int) : Int := if m < l ∨ n < l then l else if m < n then m else n
def cl (n : Int) : Int := bro n 0 1048576
def sg (n : Int) : Int := bro n (-1048576) 1048576
def fdv (a b : Int) : Int := if b < 1 then 0 else if a.tmod b < 0 then wrap64 (wrap64 (a.tdiv b) - 1) else wrap64 (a.tdiv b)
def kn (v : GVal) (base : Int) : Bool := decide (v.kind = 1) || (decide (v.kind = 2) && decide (0 ≤ base))
def lenV (v : GVal) (base : Int) : Int := if kn v base = false then -1 else if v.kind = 1 then v.n else fdv (wrap64 (cl base * bro v.n (-1000000) 1000000)) 100
def sizV (v : GVal) (base : Int) : Int := if kn v base = false then -1 else cl (lenV v base)
def orl (n m : Int) : Int := if n = -1 then m else n
def sideV (s : GSides) (sd : Int) (rtl : Bool) : GVal :=
  if sd = 1 then s.top else if sd = 3 then s.bottom
  else if sd = 0 then (if (if rtl then s.fin else s.start).kind ≠ 0 then (if rtl then s.fin else s.start) else s.left)
  else if sd = 2 then (if (if rtl then s.start else s.fin).kind ≠ 0 then (if rtl then s.start else s.fin) else s.right) else ⟨0, 0⟩
def adE (a b : Int) : Int := cl (wrap64 (cl a + cl b))
def edIn (a b : GEdges) : GEdges := ⟨adE a.left b.left, adE a.top b.top, adE a.right b.right, adE a.bottom b.bottom⟩
def frmO (s : GStyle) : GEdges := edIn s.pad s.border
def frmS (s : GStyle) (wide : Bool) : Int := if wide then adE (frmO s).left (frmO s).right else adE (frmO s).top (frmO s).bottom
def lstO (s : GStyle) (wide : Bool) (base : Int) : Int := if frmS s wide < orl (sizV (if wide then s.minWidth else s.minHeight) base) 0 then orl (sizV (if wide then s.minWidth else s.minHeight) base) 0 else frmS s wide
def mstO (s : GStyle) (wide : Bool) (base : Int) : Int := sizV (if wide then s.maxWidth else s.maxHeight) base
def bndO (s : GStyle) (wide : Bool) (base n : Int) : Int := cl (within n (lstO s wide base) (mstO s wide base))
def fixO (s : GStyle) (wide : Bool) (base : Int) : Int := sizV (if wide then s.width else s.height) base
def rootS (s : GStyle) (wide : Bool) (n : Int) : GSpace := if fixO s wide n ≠ -1 then ⟨3, bndO s wide n (fixO s wide n)⟩ else if n < 0 then ⟨1, 0⟩ else ⟨3, bndO s wide n n⟩
theorem spec_Brought_a (n l m : Int) : PCon Try.prog 24 [ai n, ai l, ai m] fun res rows => res = .t (ai (bro n l m)) ∧ rows = [] := by
  refine pcon_run (c := body Try.f24) fits Try.func24 (by kernel_rfl) (by kernel_rfl) (by rfl) (by kernel_rfl) fun g F hg hF => ?_
  cbv
  repeat' (first | (split <;> rename_i hh <;> (try rw [hh]) <;> (try simp only [goLss hg, goLeq hg, goGtr hg, goGeq hg, goEql hg, goNeq hg, goEqlB hg, goNeqB hg, goAdd hg, goSub hg, goMul hg, goQuo hg, goRem hg, goNg hg, goMn hg, goMx hg, beq_iff_eq, bne_iff_ne, beq_eq_false_iff_ne, bne_eq_false_iff_eq, decide_eq_true_eq, decide_eq_false_iff_not, ne_eq, Decidable.not_not] at hh) <;> cbv))
  all_goals exact fin0i hF (by unfold bro; grind)
theorem impl_Brought_a (n l m : Int) : PCon Try.prog 79 [ai n, ai l, ai m] fun res rows => res = .t (ai (bro n l m)) ∧ rows = [] := by
  refine pcon_run (c := body Try.f79) fits Try.func79 (by kernel_rfl) (by kernel_rfl) (by rfl) (by kernel_rfl) fun g F hg hF => ?_
  cbv
  repeat' (first | (split <;> rename_i hh <;> (try rw [hh]) <;> (try simp only [goLss hg, goLeq hg, goGtr hg, goGeq hg, goEql hg, goNeq hg, goEqlB hg, goNeqB hg, goAdd hg, goSub hg, goMul hg, goQuo hg, goRem hg, goNg hg, goMn hg, goMx hg, beq_iff_eq, bne_iff_ne, beq_eq_false_iff_ne, bne_eq_false_iff_eq, decide_eq_true_eq, decide_eq_false_iff_not, ne_eq, Decidable.not_not] at hh) <;> cbv))
  all_goals exact fin0i hF (by unfold bro; grind)
theorem spec_l01In_a (n l m : Int) : PCon Try.prog 59 [ai n, ai l, ai m] fun res rows => res = .t (abl (decide (l ≤ n) && decide (n ≤ m))) ∧ rows = [] := by
  refine pcon_run (c := body Try.f59) fits Try.func59 (by kernel_rfl) (by kernel_rfl) (by rfl) (by kernel_rfl) fun g F hg hF => ?_
  cbv
  repeat' (first | (split <;> rename_i hh <;> (try rw [hh]) <;> (try simp only [goLss hg, goLeq hg, goGtr hg, goGeq hg, goEql hg, goNeq hg, goEqlB hg, goNeqB hg, goAdd hg, goSub hg, goMul hg, goQuo hg, goRem hg, goNg hg, goMn hg, goMx hg, beq_iff_eq, bne_iff_ne, beq_eq_false_iff_ne, bne_eq_false_iff_eq, decide_eq_true_eq, decide_eq_false_iff_not, ne_eq, Decidable.not_not] at hh) <;> cbv))
  all_goals exact fin0b hF (by (try simp only [goLeq hg, goGeq hg]); grind)
theorem impl_in_a (n l m : Int) : PCon Try.prog 51 [ai n, ai l, ai m] fun res rows => res = .t (abl (decide (l ≤ n) && decide (n ≤ m))) ∧ rows = [] := by
  refine pcon_run (c := body Try.f51) fits Try.func51 (by kernel_rfl) (by kernel_rfl) (by rfl) (by kernel_rfl) fun g F hg hF => ?_
  cbv
  repeat' (first | (split <;> rename_i hh <;> (try rw [hh]) <;> (try simp only [goLss hg, goLeq hg, goGtr hg, goGeq hg, goEql hg, goNeq hg, goEqlB hg, goNeqB hg, goAdd hg, goSub hg, goMul hg, goQuo hg, goRem hg, goNg hg, goMn hg, goMx hg, beq_iff_eq, bne_iff_ne, beq_eq_false_iff_ne, bne_eq_false_iff_eq, decide_eq_true_eq, decide_eq_false_iff_not, ne_eq, Decidable.not_not] at hh) <;> cbv))
  all_goals exact fin0b hF (by (try simp only [goLeq hg, goGeq hg]); grind)
theorem spec_Clamped_a (n : Int) : PCon Try.prog 78 [ai n] fun res rows => res = .t (ai (cl n)) ∧ rows = [] := by
  refine pcon_run (c := body Try.f78) fits Try.func78 (by kernel_rfl) (by kernel_rfl) (by rfl) (by kernel_rfl) fun g F hg hF => ?_
  cbv
  repeat' (first | (refine callI hg (spec_Brought_a _ _ _) rfl (fun R0 hR0 => ?_); cbv) | (refine callIP hg (spec_Brought_a _ _ _) rfl (fun R0 hR0 => ?_); cbv) | (split <;> rename_i hh <;> (try rw [hh]) <;> (try simp only [goLss hg, goLeq hg, goGtr hg, goGeq hg, goEql hg, goNeq hg, goEqlB hg, goNeqB hg, goAdd hg, goSub hg, goMul hg, goQuo hg, goRem hg, goNg hg, goMn hg, goMx hg, beq_iff_eq, bne_iff_ne, beq_eq_false_iff_ne, bne_eq_false_iff_eq, decide_eq_true_eq, decide_eq_false_iff_not, ne_eq, Decidable.not_not] at hh) <;> cbv))
  all_goals exact fin0i hF (by subst_vars; rfl)
theorem impl_Clamped_a (n : Int) : PCon Try.prog 67 [ai n] fun res rows => res = .t (ai (cl n)) ∧ rows = [] := by
  refine pcon_run (c := body Try.f67) fits Try.func67 (by kernel_rfl) (by kernel_rfl) (by rfl) (by kernel_rfl) fun g F hg hF => ?_
  cbv
  repeat' (first | (refine callI hg (impl_Brought_a _ _ _) rfl (fun R0 hR0 => ?_); cbv) | (refine callIP hg (impl_Brought_a _ _ _) rfl (fun R0 hR0 => ?_); cbv) | (split <;> rename_i hh <;> (try rw [hh]) <;> (try simp only [goLss hg, goLeq hg, goGtr hg, goGeq hg, goEql hg, goNeq hg, goEqlB hg, goNeqB hg, goAdd hg, goSub hg, goMul hg, goQuo hg, goRem hg, goNg hg, goMn hg, goMx hg, beq_iff_eq, bne_iff_ne, beq_eq_false_iff_ne, bne_eq_false_iff_eq, decide_eq_true_eq, decide_eq_false_iff_not, ne_eq, Decidable.not_not] at hh) <;> cbv))
  all_goals exact fin0i hF (by subst_vars; rfl)
theorem spec_l02Len_a (n : Int) : PCon Try.prog 70 [ai n] fun res rows => res = .t (ai (sg n)) ∧ rows = [] := by
  refine pcon_run (c := body Try.f70) fits Try.func70 (by kernel_rfl) (by kernel_rfl) (by rfl) (by kernel_rfl) fun g F hg hF => ?_
  cbv
  repeat' (first | (refine callI hg (spec_Brought_a _ _ _) rfl (fun R0 hR0 => ?_); cbv) | (refine callIP hg (spec_Brought_a _ _ _) rfl (fun R0 hR0 => ?_); cbv) | (split <;> rename_i hh <;> (try rw [hh]) <;> (try simp only [goLss hg, goLeq hg, goGtr hg, goGeq hg, goEql hg, goNeq hg, goEqlB hg, goNeqB hg, goAdd hg, goSub hg, goMul hg, goQuo hg, goRem hg, goNg hg, goMn hg, goMx hg, beq_iff_eq, bne_iff_ne, beq_eq_false_iff_ne, bne_eq_false_iff_eq, decide_eq_true_eq, decide_eq_false_iff_not, ne_eq, Decidable.not_not] at hh) <;> cbv))
  all_goals exact fin0i hF (by subst_vars; rfl)
theorem impl_signed_a (n : Int) : PCon Try.prog 65 [ai n] fun res rows => res = .t (ai (sg n)) ∧ rows = [] := by
  refine pcon_run (c := body Try.f65) fits Try.func65 (by kernel_rfl) (by kernel_rfl) (by rfl) (by kernel_rfl) fun g F hg hF => ?_
  cbv
  repeat' (first | (refine callI hg (impl_Brought_a _ _ _) rfl (fun R0 hR0 => ?_); cbv) | (refine callIP hg (impl_Brought_a _ _ _) rfl (fun R0 hR0 => ?_); cbv) | (split <;> rename_i hh <;> (try rw [hh]) <;> (try simp only [goLss hg, goLeq hg, goGtr hg, goGeq hg, goEql hg, goNeq hg, goEqlB hg, goNeqB hg, goAdd hg, goSub hg, goMul hg, goQuo hg, goRem hg, goNg hg, goMn hg, goMx hg, beq_iff_eq, bne_iff_ne, beq_eq_false_iff_ne, bne_eq_false_iff_eq, decide_eq_true_eq, decide_eq_false_iff_not, ne_eq, Decidable.not_not] at hh) <;> cbv))
  all_goals exact fin0i hF (by subst_vars; rfl)
theorem spec_FloorDiv_a (a b : Int) : PCon Try.prog 82 [ai a, ai b] fun res rows => res = .t (ai (fdv a b)) ∧ rows = [] := by
  refine pcon_run (c := body Try.f82) fits Try.func82 (by kernel_rfl) (by kernel_rfl) (by rfl) (by kernel_rfl) fun g F hg hF => ?_
  cbv
  by_cases hb : b < 1
  · have h0 : g .q .lss b 1 = true := by rw [goLss hg]; simpa using hb
    rw [h0]
    cbv
    all_goals exact fin0i hF (by unfold fdv; rw [if_pos hb])
  · have h0 : g .q .lss b 1 = false := by rw [goLss hg]; simpa using hb
    rw [h0]
    cbv
    refine goNZ hg (by omega) ?_
    cbv
    refine goNZ hg (by omega) ?_
    cbv
    repeat' (first | (split <;> rename_i hh <;> (try rw [hh]) <;> (try simp only [goLss hg, goLeq hg, goGtr hg, goGeq hg, goEql hg, goNeq hg, goEqlB hg, goNeqB hg, goAdd hg, goSub hg, goMul hg, goQuo hg, goRem hg, goNg hg, goMn hg, goMx hg, beq_iff_eq, bne_iff_ne, beq_eq_false_iff_ne, bne_eq_false_iff_eq, decide_eq_true_eq, decide_eq_false_iff_not, ne_eq, Decidable.not_not] at hh) <;> cbv))
    all_goals exact fin0i hF (by unfold fdv; simp only [goRem hg, goQuo hg, goSub hg] at *; grind)
theorem impl_FloorDiv_a (a b : Int) : PCon Try.prog 81 [ai a, ai b] fun res rows => res = .t (ai (fdv a b)) ∧ rows = [] := by
  refine pcon_run (c := body Try.f81) fits Try.func81 (by kernel_rfl) (by kernel_rfl) (by rfl) (by kernel_rfl) fun g F hg hF => ?_
  cbv
  by_cases hb : b < 1
  · have h0 : g .q .lss b 1 = true := by rw [goLss hg]; simpa using hb
    rw [h0]
    cbv
    all_goals exact fin0i hF (by unfold fdv; rw [if_pos hb])
  · have h0 : g .q .lss b 1 = false := by rw [goLss hg]; simpa using hb
    rw [h0]
    cbv
    refine goNZ hg (by omega) ?_
    cbv
    refine goNZ hg (by omega) ?_
    cbv
    repeat' (first | (split <;> rename_i hh <;> (try rw [hh]) <;> (try simp only [goLss hg, goLeq hg, goGtr hg, goGeq hg, goEql hg, goNeq hg, goEqlB hg, goNeqB hg, goAdd hg, goSub hg, goMul hg, goQuo hg, goRem hg, goNg hg, goMn hg, goMx hg, beq_iff_eq, bne_iff_ne, beq_eq_false_iff_ne, bne_eq_false_iff_eq, decide_eq_true_eq, decide_eq_false_iff_not, ne_eq, Decidable.not_not] at hh) <;> cbv))
    all_goals exact fin0i hF (by unfold fdv; simp only [goRem hg, goQuo hg, goSub hg] at *; grind)

end Go.Proofs.Ytcohgnecmgcajaa
