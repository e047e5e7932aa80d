/- Numbers, lengths, sides and bounds, as maps of data. -/
import Derived.Test.YtdnnffbbhijmkaaGreatC2
namespace Go.Proofs.YtdnnffbbhijmkaaGreat
open Go.ChangeShapes Go.WideShapes Go.ChangeAt Go.RowKit Am
set_option linter.unusedVariables false
set_option linter.unusedSimpArgs false
set_option maxRecDepth 100000

def bro (n l m : Int) : Int := if m < l ∨ n < l then l else if m < n then m else n
def cl (n : Int) : Int := bro n 0 1048576
def sg (n : Int) : Int := bro n (-1048576) 1048576
def fdv (a b : Int) : Int := if b < 1 then 0 else if a.tmod b < 0 then wrap64 (wrap64 (a.tdiv b) - 1) else wrap64 (a.tdiv b)
def kn (v : GVal) (base : Int) : Bool := decide (v.kind = 1) || (decide (v.kind = 2) && decide (0 ≤ base))
def lenV (v : GVal) (base : Int) : Int := if kn v base = false then -1 else if v.kind = 1 then v.n else fdv (wrap64 (cl base * bro v.n (-1000000) 1000000)) 100
def sizV (v : GVal) (base : Int) : Int := if kn v base = false then -1 else cl (lenV v base)
def orl (n m : Int) : Int := if n = -1 then m else n
def sideV (s : GSides) (sd : Int) (rtl : Bool) : GVal :=
  if sd = 1 then s.top else if sd = 3 then s.bottom
  else if sd = 0 then (if (if rtl then s.fin else s.start).kind ≠ 0 then (if rtl then s.fin else s.start) else s.left)
  else if sd = 2 then (if (if rtl then s.start else s.fin).kind ≠ 0 then (if rtl then s.start else s.fin) else s.right) else ⟨0, 0⟩
def adE (a b : Int) : Int := cl (wrap64 (cl a + cl b))
def edIn (a b : GEdges) : GEdges := ⟨adE a.left b.left, adE a.top b.top, adE a.right b.right, adE a.bottom b.bottom⟩
def frmO (s : GStyle) : GEdges := edIn s.pad s.border
def frmS (s : GStyle) (wide : Bool) : Int := if wide then adE (frmO s).left (frmO s).right else adE (frmO s).top (frmO s).bottom
def lstO (s : GStyle) (wide : Bool) (base : Int) : Int := if frmS s wide < orl (sizV (if wide then s.minWidth else s.minHeight) base) 0 then orl (sizV (if wide then s.minWidth else s.minHeight) base) 0 else frmS s wide
def mstO (s : GStyle) (wide : Bool) (base : Int) : Int := sizV (if wide then s.maxWidth else s.maxHeight) base
def bndO (s : GStyle) (wide : Bool) (base n : Int) : Int := cl (within n (lstO s wide base) (mstO s wide base))
def fixO (s : GStyle) (wide : Bool) (base : Int) : Int := sizV (if wide then s.width else s.height) base
def rootS (s : GStyle) (wide : Bool) (n : Int) : GSpace := if fixO s wide n ≠ -1 then ⟨3, bndO s wide n (fixO s wide n)⟩ else if n < 0 then ⟨1, 0⟩ else ⟨3, bndO s wide n n⟩
theorem spec_Brought_a (n l m : Int) : PCon Tryz.prog 282 [ai n, ai l, ai m] fun res rows => res = .t (ai (bro n l m)) ∧ rows = [] := by
  refine pcon_run (c := body Tryz.f282) fits Tryz.func282 (by kernel_rfl) (by kernel_rfl) (by rfl) (by kernel_rfl) fun g F hg hF => ?_
  cbv
  repeat' (first | (split <;> rename_i hh <;> (try rw [hh]) <;> (try simp only [goLss hg, goLeq hg, goGtr hg, goGeq hg, goEql hg, goNeq hg, goEqlB hg, goNeqB hg, goAdd hg, goSub hg, goMul hg, goQuo hg, goRem hg, goNg hg, goMn hg, goMx hg, beq_iff_eq, bne_iff_ne, beq_eq_false_iff_ne, bne_eq_false_iff_eq, decide_eq_true_eq, decide_eq_false_iff_not, ne_eq, Decidable.not_not] at hh) <;> cbv))
  all_goals exact fin0i hF (by unfold bro; grind)
theorem impl_Brought_a (n l m : Int) : PCon Tryz.prog 298 [ai n, ai l, ai m] fun res rows => res = .t (ai (bro n l m)) ∧ rows = [] := by
  refine pcon_run (c := body Tryz.f298) fits Tryz.func298 (by kernel_rfl) (by kernel_rfl) (by rfl) (by kernel_rfl) fun g F hg hF => ?_
  cbv
  repeat' (first | (split <;> rename_i hh <;> (try rw [hh]) <;> (try simp only [goLss hg, goLeq hg, goGtr hg, goGeq hg, goEql hg, goNeq hg, goEqlB hg, goNeqB hg, goAdd hg, goSub hg, goMul hg, goQuo hg, goRem hg, goNg hg, goMn hg, goMx hg, beq_iff_eq, bne_iff_ne, beq_eq_false_iff_ne, bne_eq_false_iff_eq, decide_eq_true_eq, decide_eq_false_iff_not, ne_eq, Decidable.not_not] at hh) <;> cbv))
  all_goals exact fin0i hF (by unfold bro; grind)
theorem spec_l01In_a (n l m : Int) : PCon Tryz.prog 149 [ai n, ai l, ai m] fun res rows => res = .t (abl (decide (l ≤ n) && decide (n ≤ m))) ∧ rows = [] := by
  refine pcon_run (c := body Tryz.f149) fits Tryz.func149 (by kernel_rfl) (by kernel_rfl) (by rfl) (by kernel_rfl) fun g F hg hF => ?_
  cbv
  repeat' (first | (split <;> rename_i hh <;> (try rw [hh]) <;> (try simp only [goLss hg, goLeq hg, goGtr hg, goGeq hg, goEql hg, goNeq hg, goEqlB hg, goNeqB hg, goAdd hg, goSub hg, goMul hg, goQuo hg, goRem hg, goNg hg, goMn hg, goMx hg, beq_iff_eq, bne_iff_ne, beq_eq_false_iff_ne, bne_eq_false_iff_eq, decide_eq_true_eq, decide_eq_false_iff_not, ne_eq, Decidable.not_not] at hh) <;> cbv))
  all_goals exact fin0b hF (by (try simp only [goLeq hg, goGeq hg]); grind)
theorem impl_in_a (n l m : Int) : PCon Tryz.prog 154 [ai n, ai l, ai m] fun res rows => res = .t (abl (decide (l ≤ n) && decide (n ≤ m))) ∧ rows = [] := by
  refine pcon_run (c := body Tryz.f154) fits Tryz.func154 (by kernel_rfl) (by kernel_rfl) (by rfl) (by kernel_rfl) fun g F hg hF => ?_
  cbv
  repeat' (first | (split <;> rename_i hh <;> (try rw [hh]) <;> (try simp only [goLss hg, goLeq hg, goGtr hg, goGeq hg, goEql hg, goNeq hg, goEqlB hg, goNeqB hg, goAdd hg, goSub hg, goMul hg, goQuo hg, goRem hg, goNg hg, goMn hg, goMx hg, beq_iff_eq, bne_iff_ne, beq_eq_false_iff_ne, bne_eq_false_iff_eq, decide_eq_true_eq, decide_eq_false_iff_not, ne_eq, Decidable.not_not] at hh) <;> cbv))
  all_goals exact fin0b hF (by (try simp only [goLeq hg, goGeq hg]); grind)
theorem spec_Clamped_a (n : Int) : PCon Tryz.prog 200 [ai n] fun res rows => res = .t (ai (cl n)) ∧ rows = [] := by
  refine pcon_run (c := body Tryz.f200) fits Tryz.func200 (by kernel_rfl) (by kernel_rfl) (by rfl) (by kernel_rfl) fun g F hg hF => ?_
  cbv
  repeat' (first | (refine callI hg (spec_Brought_a _ _ _) rfl (fun R0 hR0 => ?_); cbv) | (refine callIP hg (spec_Brought_a _ _ _) rfl (fun R0 hR0 => ?_); cbv) | (split <;> rename_i hh <;> (try rw [hh]) <;> (try simp only [goLss hg, goLeq hg, goGtr hg, goGeq hg, goEql hg, goNeq hg, goEqlB hg, goNeqB hg, goAdd hg, goSub hg, goMul hg, goQuo hg, goRem hg, goNg hg, goMn hg, goMx hg, beq_iff_eq, bne_iff_ne, beq_eq_false_iff_ne, bne_eq_false_iff_eq, decide_eq_true_eq, decide_eq_false_iff_not, ne_eq, Decidable.not_not] at hh) <;> cbv))
  all_goals exact fin0i hF (by subst_vars; rfl)
theorem impl_Clamped_a (n : Int) : PCon Tryz.prog 213 [ai n] fun res rows => res = .t (ai (cl n)) ∧ rows = [] := by
  refine pcon_run (c := body Tryz.f213) fits Tryz.func213 (by kernel_rfl) (by kernel_rfl) (by rfl) (by kernel_rfl) fun g F hg hF => ?_
  cbv
  repeat' (first | (refine callI hg (impl_Brought_a _ _ _) rfl (fun R0 hR0 => ?_); cbv) | (refine callIP hg (impl_Brought_a _ _ _) rfl (fun R0 hR0 => ?_); cbv) | (split <;> rename_i hh <;> (try rw [hh]) <;> (try simp only [goLss hg, goLeq hg, goGtr hg, goGeq hg, goEql hg, goNeq hg, goEqlB hg, goNeqB hg, goAdd hg, goSub hg, goMul hg, goQuo hg, goRem hg, goNg hg, goMn hg, goMx hg, beq_iff_eq, bne_iff_ne, beq_eq_false_iff_ne, bne_eq_false_iff_eq, decide_eq_true_eq, decide_eq_false_iff_not, ne_eq, Decidable.not_not] at hh) <;> cbv))
  all_goals exact fin0i hF (by subst_vars; rfl)
theorem spec_l02Len_a (n : Int) : PCon Tryz.prog 281 [ai n] fun res rows => res = .t (ai (sg n)) ∧ rows = [] := by
  refine pcon_run (c := body Tryz.f281) fits Tryz.func281 (by kernel_rfl) (by kernel_rfl) (by rfl) (by kernel_rfl) fun g F hg hF => ?_
  cbv
  repeat' (first | (refine callI hg (spec_Brought_a _ _ _) rfl (fun R0 hR0 => ?_); cbv) | (refine callIP hg (spec_Brought_a _ _ _) rfl (fun R0 hR0 => ?_); cbv) | (split <;> rename_i hh <;> (try rw [hh]) <;> (try simp only [goLss hg, goLeq hg, goGtr hg, goGeq hg, goEql hg, goNeq hg, goEqlB hg, goNeqB hg, goAdd hg, goSub hg, goMul hg, goQuo hg, goRem hg, goNg hg, goMn hg, goMx hg, beq_iff_eq, bne_iff_ne, beq_eq_false_iff_ne, bne_eq_false_iff_eq, decide_eq_true_eq, decide_eq_false_iff_not, ne_eq, Decidable.not_not] at hh) <;> cbv))
  all_goals exact fin0i hF (by subst_vars; rfl)
theorem impl_signed_a (n : Int) : PCon Tryz.prog 299 [ai n] fun res rows => res = .t (ai (sg n)) ∧ rows = [] := by
  refine pcon_run (c := body Tryz.f299) fits Tryz.func299 (by kernel_rfl) (by kernel_rfl) (by rfl) (by kernel_rfl) fun g F hg hF => ?_
  cbv
  repeat' (first | (refine callI hg (impl_Brought_a _ _ _) rfl (fun R0 hR0 => ?_); cbv) | (refine callIP hg (impl_Brought_a _ _ _) rfl (fun R0 hR0 => ?_); cbv) | (split <;> rename_i hh <;> (try rw [hh]) <;> (try simp only [goLss hg, goLeq hg, goGtr hg, goGeq hg, goEql hg, goNeq hg, goEqlB hg, goNeqB hg, goAdd hg, goSub hg, goMul hg, goQuo hg, goRem hg, goNg hg, goMn hg, goMx hg, beq_iff_eq, bne_iff_ne, beq_eq_false_iff_ne, bne_eq_false_iff_eq, decide_eq_true_eq, decide_eq_false_iff_not, ne_eq, Decidable.not_not] at hh) <;> cbv))
  all_goals exact fin0i hF (by subst_vars; rfl)
theorem spec_l04N_a (n : Int) : PCon Tryz.prog 304 [ai n] fun res rows => res = .t (ai (bro n (-1000000) 1000000)) ∧ rows = [] := by
  refine pcon_run (c := body Tryz.f304) fits Tryz.func304 (by kernel_rfl) (by kernel_rfl) (by rfl) (by kernel_rfl) fun g F hg hF => ?_
  cbv
  repeat' (first | (refine callI hg (spec_Brought_a _ _ _) rfl (fun R0 hR0 => ?_); cbv) | (refine callIP hg (spec_Brought_a _ _ _) rfl (fun R0 hR0 => ?_); cbv) | (split <;> rename_i hh <;> (try rw [hh]) <;> (try simp only [goLss hg, goLeq hg, goGtr hg, goGeq hg, goEql hg, goNeq hg, goEqlB hg, goNeqB hg, goAdd hg, goSub hg, goMul hg, goQuo hg, goRem hg, goNg hg, goMn hg, goMx hg, beq_iff_eq, bne_iff_ne, beq_eq_false_iff_ne, bne_eq_false_iff_eq, decide_eq_true_eq, decide_eq_false_iff_not, ne_eq, Decidable.not_not] at hh) <;> cbv))
  all_goals exact fin0i hF (by subst_vars; rfl)
theorem spec_FloorDiv_a (a b : Int) : PCon Tryz.prog 225 [ai a, ai b] fun res rows => res = .t (ai (fdv a b)) ∧ rows = [] := by
  refine pcon_run (c := body Tryz.f225) fits Tryz.func225 (by kernel_rfl) (by kernel_rfl) (by rfl) (by kernel_rfl) fun g F hg hF => ?_
  cbv
  by_cases hb : b < 1
  · have h0 : g .q .lss b 1 = true := by rw [goLss hg]; simpa using hb
    rw [h0]
    cbv
    all_goals exact fin0i hF (by unfold fdv; rw [if_pos hb])
  · have h0 : g .q .lss b 1 = false := by rw [goLss hg]; simpa using hb
    rw [h0]
    cbv
    refine goNZ hg (by omega) ?_
    cbv
    refine goNZ hg (by omega) ?_
    cbv
    repeat' (first | (split <;> rename_i hh <;> (try rw [hh]) <;> (try simp only [goLss hg, goLeq hg, goGtr hg, goGeq hg, goEql hg, goNeq hg, goEqlB hg, goNeqB hg, goAdd hg, goSub hg, goMul hg, goQuo hg, goRem hg, goNg hg, goMn hg, goMx hg, beq_iff_eq, bne_iff_ne, beq_eq_false_iff_ne, bne_eq_false_iff_eq, decide_eq_true_eq, decide_eq_false_iff_not, ne_eq, Decidable.not_not] at hh) <;> cbv))
    all_goals exact fin0i hF (by unfold fdv; simp only [goRem hg, goQuo hg, goSub hg] at *; grind)
theorem impl_FloorDiv_a (a b : Int) : PCon Tryz.prog 228 [ai a, ai b] fun res rows => res = .t (ai (fdv a b)) ∧ rows = [] := by
  refine pcon_run (c := body Tryz.f228) fits Tryz.func228 (by kernel_rfl) (by kernel_rfl) (by rfl) (by kernel_rfl) fun g F hg hF => ?_
  cbv
  by_cases hb : b < 1
  · have h0 : g .q .lss b 1 = true := by rw [goLss hg]; simpa using hb
    rw [h0]
    cbv
    all_goals exact fin0i hF (by unfold fdv; rw [if_pos hb])
  · have h0 : g .q .lss b 1 = false := by rw [goLss hg]; simpa using hb
    rw [h0]
    cbv
    refine goNZ hg (by omega) ?_
    cbv
    refine goNZ hg (by omega) ?_
    cbv
    repeat' (first | (split <;> rename_i hh <;> (try rw [hh]) <;> (try simp only [goLss hg, goLeq hg, goGtr hg, goGeq hg, goEql hg, goNeq hg, goEqlB hg, goNeqB hg, goAdd hg, goSub hg, goMul hg, goQuo hg, goRem hg, goNg hg, goMn hg, goMx hg, beq_iff_eq, bne_iff_ne, beq_eq_false_iff_ne, bne_eq_false_iff_eq, decide_eq_true_eq, decide_eq_false_iff_not, ne_eq, Decidable.not_not] at hh) <;> cbv))
    all_goals exact fin0i hF (by unfold fdv; simp only [goRem hg, goQuo hg, goSub hg] at *; grind)
theorem spec_Known_a (k n b : Int) : PCon Tryz.prog 223 [.agg [.imm (.int .i64 k), .imm (.int .i64 n)], ai b] fun res rows => res = .t (abl (kn ⟨k, n⟩ b)) ∧ rows = [] := by
  refine pcon_run (c := body Tryz.f223) fits Tryz.func223 (by kernel_rfl) (by kernel_rfl) (by rfl) (by kernel_rfl) fun g F hg hF => ?_
  cbv
  repeat' (first | (split <;> rename_i hh <;> (try rw [hh]) <;> (try simp only [goLss hg, goLeq hg, goGtr hg, goGeq hg, goEql hg, goNeq hg, goEqlB hg, goNeqB hg, goAdd hg, goSub hg, goMul hg, goQuo hg, goRem hg, goNg hg, goMn hg, goMx hg, beq_iff_eq, bne_iff_ne, beq_eq_false_iff_ne, bne_eq_false_iff_eq, decide_eq_true_eq, decide_eq_false_iff_not, ne_eq, Decidable.not_not] at hh) <;> cbv))
  all_goals exact fin0b hF (by (try simp only [goLeq hg, goGeq hg, goEql hg]); simp only [kn]; grind)
theorem impl_Known_a (k n b : Int) : PCon Tryz.prog 226 [.agg [.imm (.int .i64 k), .imm (.int .i64 n)], ai b] fun res rows => res = .t (abl (kn ⟨k, n⟩ b)) ∧ rows = [] := by
  refine pcon_run (c := body Tryz.f226) fits Tryz.func226 (by kernel_rfl) (by kernel_rfl) (by rfl) (by kernel_rfl) fun g F hg hF => ?_
  cbv
  repeat' (first | (split <;> rename_i hh <;> (try rw [hh]) <;> (try simp only [goLss hg, goLeq hg, goGtr hg, goGeq hg, goEql hg, goNeq hg, goEqlB hg, goNeqB hg, goAdd hg, goSub hg, goMul hg, goQuo hg, goRem hg, goNg hg, goMn hg, goMx hg, beq_iff_eq, bne_iff_ne, beq_eq_false_iff_ne, bne_eq_false_iff_eq, decide_eq_true_eq, decide_eq_false_iff_not, ne_eq, Decidable.not_not] at hh) <;> cbv))
  all_goals exact fin0b hF (by (try simp only [goLeq hg, goGeq hg, goEql hg]); simp only [kn]; grind)
theorem spec_LengthOf_a (k n b : Int) : PCon Tryz.prog 224 [.agg [.imm (.int .i64 k), .imm (.int .i64 n)], ai b] fun res rows => res = .t (ai (lenV ⟨k, n⟩ b)) ∧ rows = [] := by
  refine pcon_run (c := body Tryz.f224) fits Tryz.func224 (by kernel_rfl) (by kernel_rfl) (by rfl) (by kernel_rfl) fun g F hg hF => ?_
  cbv
  repeat' (first | (refine callB hg (spec_Known_a _ _ _) rfl (fun R0 hR0 => ?_); cases R0 <;> cbv) | (refine callBP hg (spec_Known_a _ _ _) rfl (fun R0 hR0 => ?_); cases R0 <;> cbv) | (refine callI hg (spec_Clamped_a _) rfl (fun R0 hR0 => ?_); cbv) | (refine callIP hg (spec_Clamped_a _) rfl (fun R0 hR0 => ?_); cbv) | (refine callI hg (spec_l04N_a _) rfl (fun R0 hR0 => ?_); cbv) | (refine callIP hg (spec_l04N_a _) rfl (fun R0 hR0 => ?_); cbv) | (refine callI hg (spec_FloorDiv_a _ _) rfl (fun R0 hR0 => ?_); cbv) | (refine callIP hg (spec_FloorDiv_a _ _) rfl (fun R0 hR0 => ?_); cbv) | (split <;> rename_i hh <;> (try rw [hh]) <;> (try simp only [goLss hg, goLeq hg, goGtr hg, goGeq hg, goEql hg, goNeq hg, goEqlB hg, goNeqB hg, goAdd hg, goSub hg, goMul hg, goQuo hg, goRem hg, goNg hg, goMn hg, goMx hg, beq_iff_eq, bne_iff_ne, beq_eq_false_iff_ne, bne_eq_false_iff_eq, decide_eq_true_eq, decide_eq_false_iff_not, ne_eq, Decidable.not_not] at hh) <;> cbv))
  all_goals exact fin0i hF (by (try simp only [goMul hg] at *); simp only [lenV]; grind)
theorem impl_LengthOf_a (k n b : Int) : PCon Tryz.prog 227 [.agg [.imm (.int .i64 k), .imm (.int .i64 n)], ai b] fun res rows => res = .t (ai (lenV ⟨k, n⟩ b)) ∧ rows = [] := by
  refine pcon_run (c := body Tryz.f227) fits Tryz.func227 (by kernel_rfl) (by kernel_rfl) (by rfl) (by kernel_rfl) fun g F hg hF => ?_
  cbv
  repeat' (first | (refine callB hg (impl_Known_a _ _ _) rfl (fun R0 hR0 => ?_); cases R0 <;> cbv) | (refine callBP hg (impl_Known_a _ _ _) rfl (fun R0 hR0 => ?_); cases R0 <;> cbv) | (refine callI hg (impl_Clamped_a _) rfl (fun R0 hR0 => ?_); cbv) | (refine callIP hg (impl_Clamped_a _) rfl (fun R0 hR0 => ?_); cbv) | (refine callI hg (impl_Brought_a _ _ _) rfl (fun R0 hR0 => ?_); cbv) | (refine callIP hg (impl_Brought_a _ _ _) rfl (fun R0 hR0 => ?_); cbv) | (refine callI hg (impl_FloorDiv_a _ _) rfl (fun R0 hR0 => ?_); cbv) | (refine callIP hg (impl_FloorDiv_a _ _) rfl (fun R0 hR0 => ?_); cbv) | (split <;> rename_i hh <;> (try rw [hh]) <;> (try simp only [goLss hg, goLeq hg, goGtr hg, goGeq hg, goEql hg, goNeq hg, goEqlB hg, goNeqB hg, goAdd hg, goSub hg, goMul hg, goQuo hg, goRem hg, goNg hg, goMn hg, goMx hg, beq_iff_eq, bne_iff_ne, beq_eq_false_iff_ne, bne_eq_false_iff_eq, decide_eq_true_eq, decide_eq_false_iff_not, ne_eq, Decidable.not_not] at hh) <;> cbv))
  all_goals exact fin0i hF (by (try simp only [goMul hg] at *); simp only [lenV]; grind)
theorem spec_SizeOf_a (k n b : Int) : PCon Tryz.prog 140 [.agg [.imm (.int .i64 k), .imm (.int .i64 n)], ai b] fun res rows => res = .t (ai (sizV ⟨k, n⟩ b)) ∧ rows = [] := by
  refine pcon_run (c := body Tryz.f140) fits Tryz.func140 (by kernel_rfl) (by kernel_rfl) (by rfl) (by kernel_rfl) fun g F hg hF => ?_
  cbv
  repeat' (first | (refine callB hg (spec_Known_a _ _ _) rfl (fun R0 hR0 => ?_); cases R0 <;> cbv) | (refine callBP hg (spec_Known_a _ _ _) rfl (fun R0 hR0 => ?_); cases R0 <;> cbv) | (refine callI hg (spec_Clamped_a _) rfl (fun R0 hR0 => ?_); cbv) | (refine callIP hg (spec_Clamped_a _) rfl (fun R0 hR0 => ?_); cbv) | (refine callI hg (spec_LengthOf_a _ _ _) rfl (fun R0 hR0 => ?_); cbv) | (refine callIP hg (spec_LengthOf_a _ _ _) rfl (fun R0 hR0 => ?_); cbv) | (split <;> rename_i hh <;> (try rw [hh]) <;> (try simp only [goLss hg, goLeq hg, goGtr hg, goGeq hg, goEql hg, goNeq hg, goEqlB hg, goNeqB hg, goAdd hg, goSub hg, goMul hg, goQuo hg, goRem hg, goNg hg, goMn hg, goMx hg, beq_iff_eq, bne_iff_ne, beq_eq_false_iff_ne, bne_eq_false_iff_eq, decide_eq_true_eq, decide_eq_false_iff_not, ne_eq, Decidable.not_not] at hh) <;> cbv))
  all_goals exact fin0i hF (by simp only [sizV]; grind)
theorem impl_SizeOf_a (k n b : Int) : PCon Tryz.prog 143 [.agg [.imm (.int .i64 k), .imm (.int .i64 n)], ai b] fun res rows => res = .t (ai (sizV ⟨k, n⟩ b)) ∧ rows = [] := by
  refine pcon_run (c := body Tryz.f143) fits Tryz.func143 (by kernel_rfl) (by kernel_rfl) (by rfl) (by kernel_rfl) fun g F hg hF => ?_
  cbv
  repeat' (first | (refine callB hg (impl_Known_a _ _ _) rfl (fun R0 hR0 => ?_); cases R0 <;> cbv) | (refine callBP hg (impl_Known_a _ _ _) rfl (fun R0 hR0 => ?_); cases R0 <;> cbv) | (refine callI hg (impl_Clamped_a _) rfl (fun R0 hR0 => ?_); cbv) | (refine callIP hg (impl_Clamped_a _) rfl (fun R0 hR0 => ?_); cbv) | (refine callI hg (impl_LengthOf_a _ _ _) rfl (fun R0 hR0 => ?_); cbv) | (refine callIP hg (impl_LengthOf_a _ _ _) rfl (fun R0 hR0 => ?_); cbv) | (split <;> rename_i hh <;> (try rw [hh]) <;> (try simp only [goLss hg, goLeq hg, goGtr hg, goGeq hg, goEql hg, goNeq hg, goEqlB hg, goNeqB hg, goAdd hg, goSub hg, goMul hg, goQuo hg, goRem hg, goNg hg, goMn hg, goMx hg, beq_iff_eq, bne_iff_ne, beq_eq_false_iff_ne, bne_eq_false_iff_eq, decide_eq_true_eq, decide_eq_false_iff_not, ne_eq, Decidable.not_not] at hh) <;> cbv))
  all_goals exact fin0i hF (by simp only [sizV]; grind)
theorem spec_OrElse_a (n m : Int) : PCon Tryz.prog 139 [ai n, ai m] fun res rows => res = .t (ai (orl n m)) ∧ rows = [] := by
  refine pcon_run (c := body Tryz.f139) fits Tryz.func139 (by kernel_rfl) (by kernel_rfl) (by rfl) (by kernel_rfl) fun g F hg hF => ?_
  cbv
  repeat' (first | (split <;> rename_i hh <;> (try rw [hh]) <;> (try simp only [goLss hg, goLeq hg, goGtr hg, goGeq hg, goEql hg, goNeq hg, goEqlB hg, goNeqB hg, goAdd hg, goSub hg, goMul hg, goQuo hg, goRem hg, goNg hg, goMn hg, goMx hg, beq_iff_eq, bne_iff_ne, beq_eq_false_iff_ne, bne_eq_false_iff_eq, decide_eq_true_eq, decide_eq_false_iff_not, ne_eq, Decidable.not_not] at hh) <;> cbv))
  all_goals exact fin0i hF (by simp only [orl]; grind)
theorem impl_OrElse_a (n m : Int) : PCon Tryz.prog 258 [ai n, ai m] fun res rows => res = .t (ai (orl n m)) ∧ rows = [] := by
  refine pcon_run (c := body Tryz.f258) fits Tryz.func258 (by kernel_rfl) (by kernel_rfl) (by rfl) (by kernel_rfl) fun g F hg hF => ?_
  cbv
  repeat' (first | (split <;> rename_i hh <;> (try rw [hh]) <;> (try simp only [goLss hg, goLeq hg, goGtr hg, goGeq hg, goEql hg, goNeq hg, goEqlB hg, goNeqB hg, goAdd hg, goSub hg, goMul hg, goQuo hg, goRem hg, goNg hg, goMn hg, goMx hg, beq_iff_eq, bne_iff_ne, beq_eq_false_iff_ne, bne_eq_false_iff_eq, decide_eq_true_eq, decide_eq_false_iff_not, ne_eq, Decidable.not_not] at hh) <;> cbv))
  all_goals exact fin0i hF (by simp only [orl]; grind)

end Go.Proofs.YtdnnffbbhijmkaaGreat
