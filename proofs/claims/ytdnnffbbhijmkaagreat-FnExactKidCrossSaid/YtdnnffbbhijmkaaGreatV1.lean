/- Axes, gaps, spaces, sides: the small functions of the layout. -/
import Derived.Test.YtdnnffbbhijmkaaGreatN9
namespace Go.Proofs.YtdnnffbbhijmkaaGreat
open Go.ChangeShapes Go.WideShapes Go.ChangeAt Go.RowKit Am
set_option linter.unusedVariables false
set_option linter.unusedSimpArgs false
set_option maxRecDepth 100000

def rowB (s : GStyle) : Bool := decide (s.dir = 1) || decide (s.dir = 3)
def mBack (s : GStyle) (rtl : Bool) : Bool := if s.dir = 1 then rtl else if s.dir = 3 then !rtl else decide (s.dir = 4)
def cBack (s : GStyle) (rtl : Bool) : Bool := xor (decide (s.wrap = 3)) (rtl && !rowB s)
def sd1 (row back : Bool) : Int := if row then (if back then 2 else 0) else (if back then 3 else 1)
def sd2 (row back : Bool) : Int := if row then (if back then 0 else 2) else (if back then 1 else 3)
def algn (s k : GStyle) : Int := if (if k.self = 0 then s.items else k.self) = 5 ∧ rowB s = false then 2 else (if k.self = 0 then s.items else k.self)
def mirr (inner at_ size : Int) (back : Bool) : Int := if back then wrap64 (wrap64 (inner - at_) - size) else at_
def gapO (s : GStyle) (wide : Bool) : Int := if wide then cl s.colGap else cl s.rowGap
def autS (m : GSides) (sd : Int) (rtl : Bool) : Bool := decide ((sideV m sd rtl).kind = 3)
def tak (s : GSpace) (n : Int) : Int := if s.mode = 3 ∨ (s.mode = 2 ∧ s.n < n) then cl s.n else cl n
def rooN (s : GSpace) : Int := if s.mode = 2 ∨ s.mode = 3 then s.n else -1
def loos (s : GSpace) : GSpace := if s.mode = 3 then ⟨2, s.n⟩ else s
def knS (s : GSpace) : Int := if s.mode = 3 then s.n else -1
def spOk (s : GSpace) : Bool := if s.mode = 1 then decide (s.n = 0) else (decide (s.mode = 2) || decide (s.mode = 3)) && rng s.n 0 1048576
def jusO (c : Int) : Int := if c = 3 then 2 else if c = 4 then 3 else if c = 5 then 4 else if c = 6 then 5 else 1
def siOk (x : GSide) : Bool := rng x.size 0 1048576 && (rng x.base 0 1048576 && (rng x.before (-1048576) 1048576 && (rng x.behind (-1048576) 1048576 && rng x.align 1 5)))
def onB (x : GSide) : Bool := decide (x.align = 5) && (!x.autoBefore && !x.autoBehind)
def filB (x : GSide) : Bool := decide (x.align = 1) && (!x.autoBefore && !x.autoBehind)
def plcA (x : GSide) (cross base : Int) : Int :=
  if siOk x = false then 0 else
  let free := wrap64 (wrap64 (wrap64 (cross - x.size) - x.before) - x.behind)
  if x.autoBefore || x.autoBehind then (if free ≤ 0 ∨ x.autoBefore = false then x.before else if x.autoBehind then wrap64 (x.before + fdv free 2) else wrap64 (x.before + free))
  else if x.align = 3 then wrap64 (x.before + free) else if x.align = 4 then wrap64 (x.before + fdv free 2) else if x.align = 5 then wrap64 (base - x.base) else x.before
set_option maxHeartbeats 4000000 in
theorem spec_IsRow_a (s : GStyle) : PCon Tryz.prog 117 [.agg (lc (GStyle.c s))] fun res rows => res = .t (abl (rowB s)) ∧ rows = [] := by
  refine pcon_run (c := body Tryz.f117) fits Tryz.func117 (by kernel_rfl) (by kernel_rfl) (by rfl) (by kernel_rfl) fun g F hg hF => ?_
  cbv
  repeat' (first | (split <;> rename_i hh <;> (try rw [hh]) <;> (try simp only [goLss hg, goLeq hg, goGtr hg, goGeq hg, goEql hg, goNeq hg, goEqlB hg, goNeqB hg, goAdd hg, goSub hg, goMul hg, goQuo hg, goRem hg, goNg hg, goMn hg, goMx hg, beq_iff_eq, bne_iff_ne, beq_eq_false_iff_ne, bne_eq_false_iff_eq, decide_eq_true_eq, decide_eq_false_iff_not, ne_eq, Decidable.not_not] at hh) <;> cbv))
  all_goals exact fin0b hF (by (try simp only [goEql hg, goNeqB hg, Bool.beq_eq_decide_eq]); clear hF hg; simp_all [rowB])
set_option maxHeartbeats 4000000 in
theorem impl_IsRow_a (s : GStyle) : PCon Tryz.prog 134 [.agg (lc (GStyle.c s))] fun res rows => res = .t (abl (rowB s)) ∧ rows = [] := by
  refine pcon_run (c := body Tryz.f134) fits Tryz.func134 (by kernel_rfl) (by kernel_rfl) (by rfl) (by kernel_rfl) fun g F hg hF => ?_
  cbv
  repeat' (first | (split <;> rename_i hh <;> (try rw [hh]) <;> (try simp only [goLss hg, goLeq hg, goGtr hg, goGeq hg, goEql hg, goNeq hg, goEqlB hg, goNeqB hg, goAdd hg, goSub hg, goMul hg, goQuo hg, goRem hg, goNg hg, goMn hg, goMx hg, beq_iff_eq, bne_iff_ne, beq_eq_false_iff_ne, bne_eq_false_iff_eq, decide_eq_true_eq, decide_eq_false_iff_not, ne_eq, Decidable.not_not] at hh) <;> cbv))
  all_goals exact fin0b hF (by (try simp only [goEql hg, goNeqB hg, Bool.beq_eq_decide_eq]); clear hF hg; simp_all [rowB])
set_option maxHeartbeats 4000000 in
theorem spec_MainBack_a (s : GStyle) (rtl : Bool) : PCon Tryz.prog 279 [.agg (lc (GStyle.c s)), abl rtl] fun res rows => res = .t (abl (mBack s rtl)) ∧ rows = [] := by
  cases rtl <;> (refine pcon_run (c := body Tryz.f279) fits Tryz.func279 (by kernel_rfl) (by kernel_rfl) (by rfl) (by kernel_rfl) fun g F hg hF => ?_; cbv; repeat' (first | (split <;> rename_i hh <;> (try rw [hh]) <;> (try simp only [goLss hg, goLeq hg, goGtr hg, goGeq hg, goEql hg, goNeq hg, goEqlB hg, goNeqB hg, goAdd hg, goSub hg, goMul hg, goQuo hg, goRem hg, goNg hg, goMn hg, goMx hg, beq_iff_eq, bne_iff_ne, beq_eq_false_iff_ne, bne_eq_false_iff_eq, decide_eq_true_eq, decide_eq_false_iff_not, ne_eq, Decidable.not_not] at hh) <;> cbv)))
  all_goals exact fin0b hF (by (try simp only [goEql hg, goNeqB hg, Bool.beq_eq_decide_eq]); clear hF hg; simp_all [mBack])
set_option maxHeartbeats 4000000 in
theorem impl_MainBack_a (s : GStyle) (rtl : Bool) : PCon Tryz.prog 229 [.agg (lc (GStyle.c s)), abl rtl] fun res rows => res = .t (abl (mBack s rtl)) ∧ rows = [] := by
  cases rtl <;> (refine pcon_run (c := body Tryz.f229) fits Tryz.func229 (by kernel_rfl) (by kernel_rfl) (by rfl) (by kernel_rfl) fun g F hg hF => ?_; cbv; repeat' (first | (split <;> rename_i hh <;> (try rw [hh]) <;> (try simp only [goLss hg, goLeq hg, goGtr hg, goGeq hg, goEql hg, goNeq hg, goEqlB hg, goNeqB hg, goAdd hg, goSub hg, goMul hg, goQuo hg, goRem hg, goNg hg, goMn hg, goMx hg, beq_iff_eq, bne_iff_ne, beq_eq_false_iff_ne, bne_eq_false_iff_eq, decide_eq_true_eq, decide_eq_false_iff_not, ne_eq, Decidable.not_not] at hh) <;> cbv)))
  all_goals exact fin0b hF (by (try simp only [goEql hg, goNeqB hg, Bool.beq_eq_decide_eq]); clear hF hg; simp_all [mBack])
set_option maxHeartbeats 4000000 in
theorem spec_CrossBack_a (s : GStyle) (rtl : Bool) : PCon Tryz.prog 278 [.agg (lc (GStyle.c s)), abl rtl] fun res rows => res = .t (abl (cBack s rtl)) ∧ rows = [] := by
  have c1 := spec_IsRow_a s
  cases rtl <;> (refine pcon_run (c := body Tryz.f278) fits Tryz.func278 (by kernel_rfl) (by kernel_rfl) (by rfl) (by kernel_rfl) fun g F hg hF => ?_; cbv; repeat' (first | (refine callB hg c1 rfl (fun R0 hR0 => ?_); cases R0 <;> cbv) | (refine callBP hg c1 rfl (fun R0 hR0 => ?_); cases R0 <;> cbv) | (split <;> rename_i hh <;> (try rw [hh]) <;> (try simp only [goLss hg, goLeq hg, goGtr hg, goGeq hg, goEql hg, goNeq hg, goEqlB hg, goNeqB hg, goAdd hg, goSub hg, goMul hg, goQuo hg, goRem hg, goNg hg, goMn hg, goMx hg, beq_iff_eq, bne_iff_ne, beq_eq_false_iff_ne, bne_eq_false_iff_eq, decide_eq_true_eq, decide_eq_false_iff_not, ne_eq, Decidable.not_not] at hh) <;> cbv)))
  all_goals exact fin0b hF (by (try simp only [goEql hg, goNeqB hg, Bool.beq_eq_decide_eq]); clear hF hg; simp_all [cBack])
set_option maxHeartbeats 4000000 in
theorem impl_CrossBack_a (s : GStyle) (rtl : Bool) : PCon Tryz.prog 216 [.agg (lc (GStyle.c s)), abl rtl] fun res rows => res = .t (abl (cBack s rtl)) ∧ rows = [] := by
  have c1 := impl_IsRow_a s
  cases rtl <;> (refine pcon_run (c := body Tryz.f216) fits Tryz.func216 (by kernel_rfl) (by kernel_rfl) (by rfl) (by kernel_rfl) fun g F hg hF => ?_; cbv; repeat' (first | (refine callB hg c1 rfl (fun R0 hR0 => ?_); cases R0 <;> cbv) | (refine callBP hg c1 rfl (fun R0 hR0 => ?_); cases R0 <;> cbv) | (split <;> rename_i hh <;> (try rw [hh]) <;> (try simp only [goLss hg, goLeq hg, goGtr hg, goGeq hg, goEql hg, goNeq hg, goEqlB hg, goNeqB hg, goAdd hg, goSub hg, goMul hg, goQuo hg, goRem hg, goNg hg, goMn hg, goMx hg, beq_iff_eq, bne_iff_ne, beq_eq_false_iff_ne, bne_eq_false_iff_eq, decide_eq_true_eq, decide_eq_false_iff_not, ne_eq, Decidable.not_not] at hh) <;> cbv)))
  all_goals exact fin0b hF (by (try simp only [goEql hg, goNeqB hg, Bool.beq_eq_decide_eq]); clear hF hg; simp_all [cBack])
theorem spec_l07Sides_a (row back : Bool) : PCon Tryz.prog 277 [abl row, abl back] fun res rows => res = .tup [ai (sd1 row back), ai (sd2 row back)] ∧ rows = [] := by
  cases row <;> cases back <;> (refine pcon_run (c := body Tryz.f277) fits Tryz.func277 (by kernel_rfl) (by kernel_rfl) (by rfl) (by kernel_rfl) fun g F hg hF => ?_; cbv)
  all_goals exact fin0p hF (by exact ⟨rfl, rfl⟩)
theorem impl_sidesOf_a (row back : Bool) : PCon Tryz.prog 215 [abl row, abl back] fun res rows => res = .tup [ai (sd1 row back), ai (sd2 row back)] ∧ rows = [] := by
  cases row <;> cases back <;> (refine pcon_run (c := body Tryz.f215) fits Tryz.func215 (by kernel_rfl) (by kernel_rfl) (by rfl) (by kernel_rfl) fun g F hg hF => ?_; cbv)
  all_goals exact fin0p hF (by exact ⟨rfl, rfl⟩)
set_option maxHeartbeats 4000000 in
theorem spec_MainSides_a (s : GStyle) (rtl : Bool) : PCon Tryz.prog 196 [.agg (lc (GStyle.c s)), abl rtl] fun res rows => res = .tup [ai (sd1 (rowB s) (mBack s rtl)), ai (sd2 (rowB s) (mBack s rtl))] ∧ rows = [] := by
  have c1 := spec_IsRow_a s
  have c2 := spec_MainBack_a s rtl
  have c3 := spec_l07Sides_a
  refine pcon_run (c := body Tryz.f196) fits Tryz.func196 (by kernel_rfl) (by kernel_rfl) (by rfl) (by kernel_rfl) fun g F hg hF => ?_
  cbv
  repeat' (first | (refine callB hg c1 rfl (fun R0 hR0 => ?_); cases R0 <;> cbv) | (refine callBP hg c1 rfl (fun R0 hR0 => ?_); cases R0 <;> cbv) | (refine callB hg c2 rfl (fun R0 hR0 => ?_); cases R0 <;> cbv) | (refine callBP hg c2 rfl (fun R0 hR0 => ?_); cases R0 <;> cbv) | (refine callP hg (c3 _ _) rfl (fun R0 R1 hR0 hR1 => ?_); cbv) | (refine callPP hg (c3 _ _) rfl (fun R0 R1 hR0 hR1 => ?_); cbv) | (split <;> rename_i hh <;> (try rw [hh]) <;> (try simp only [goLss hg, goLeq hg, goGtr hg, goGeq hg, goEql hg, goNeq hg, goEqlB hg, goNeqB hg, goAdd hg, goSub hg, goMul hg, goQuo hg, goRem hg, goNg hg, goMn hg, goMx hg, beq_iff_eq, bne_iff_ne, beq_eq_false_iff_ne, bne_eq_false_iff_eq, decide_eq_true_eq, decide_eq_false_iff_not, ne_eq, Decidable.not_not] at hh) <;> cbv))
  all_goals exact fin0p hF (by subst_vars; simp_all)
set_option maxHeartbeats 4000000 in
theorem impl_MainSides_a (s : GStyle) (rtl : Bool) : PCon Tryz.prog 145 [.agg (lc (GStyle.c s)), abl rtl] fun res rows => res = .tup [ai (sd1 (rowB s) (mBack s rtl)), ai (sd2 (rowB s) (mBack s rtl))] ∧ rows = [] := by
  have c1 := impl_IsRow_a s
  have c2 := impl_MainBack_a s rtl
  have c3 := impl_sidesOf_a
  refine pcon_run (c := body Tryz.f145) fits Tryz.func145 (by kernel_rfl) (by kernel_rfl) (by rfl) (by kernel_rfl) fun g F hg hF => ?_
  cbv
  repeat' (first | (refine callB hg c1 rfl (fun R0 hR0 => ?_); cases R0 <;> cbv) | (refine callBP hg c1 rfl (fun R0 hR0 => ?_); cases R0 <;> cbv) | (refine callB hg c2 rfl (fun R0 hR0 => ?_); cases R0 <;> cbv) | (refine callBP hg c2 rfl (fun R0 hR0 => ?_); cases R0 <;> cbv) | (refine callP hg (c3 _ _) rfl (fun R0 R1 hR0 hR1 => ?_); cbv) | (refine callPP hg (c3 _ _) rfl (fun R0 R1 hR0 hR1 => ?_); cbv) | (split <;> rename_i hh <;> (try rw [hh]) <;> (try simp only [goLss hg, goLeq hg, goGtr hg, goGeq hg, goEql hg, goNeq hg, goEqlB hg, goNeqB hg, goAdd hg, goSub hg, goMul hg, goQuo hg, goRem hg, goNg hg, goMn hg, goMx hg, beq_iff_eq, bne_iff_ne, beq_eq_false_iff_ne, bne_eq_false_iff_eq, decide_eq_true_eq, decide_eq_false_iff_not, ne_eq, Decidable.not_not] at hh) <;> cbv))
  all_goals exact fin0p hF (by subst_vars; simp_all)
set_option maxHeartbeats 4000000 in
theorem spec_CrossSides_a (s : GStyle) (rtl : Bool) : PCon Tryz.prog 195 [.agg (lc (GStyle.c s)), abl rtl] fun res rows => res = .tup [ai (sd1 (!rowB s) (cBack s rtl)), ai (sd2 (!rowB s) (cBack s rtl))] ∧ rows = [] := by
  have c1 := spec_IsRow_a s
  have c2 := spec_CrossBack_a s rtl
  have c3 := spec_l07Sides_a
  refine pcon_run (c := body Tryz.f195) fits Tryz.func195 (by kernel_rfl) (by kernel_rfl) (by rfl) (by kernel_rfl) fun g F hg hF => ?_
  cbv
  repeat' (first | (refine callB hg c1 rfl (fun R0 hR0 => ?_); cases R0 <;> cbv) | (refine callBP hg c1 rfl (fun R0 hR0 => ?_); cases R0 <;> cbv) | (refine callB hg c2 rfl (fun R0 hR0 => ?_); cases R0 <;> cbv) | (refine callBP hg c2 rfl (fun R0 hR0 => ?_); cases R0 <;> cbv) | (refine callP hg (c3 _ _) rfl (fun R0 R1 hR0 hR1 => ?_); cbv) | (refine callPP hg (c3 _ _) rfl (fun R0 R1 hR0 hR1 => ?_); cbv) | (split <;> rename_i hh <;> (try rw [hh]) <;> (try simp only [goLss hg, goLeq hg, goGtr hg, goGeq hg, goEql hg, goNeq hg, goEqlB hg, goNeqB hg, goAdd hg, goSub hg, goMul hg, goQuo hg, goRem hg, goNg hg, goMn hg, goMx hg, beq_iff_eq, bne_iff_ne, beq_eq_false_iff_ne, bne_eq_false_iff_eq, decide_eq_true_eq, decide_eq_false_iff_not, ne_eq, Decidable.not_not] at hh) <;> cbv))
  all_goals exact fin0p hF (by subst_vars; simp_all)
set_option maxHeartbeats 4000000 in
theorem impl_CrossSides_a (s : GStyle) (rtl : Bool) : PCon Tryz.prog 128 [.agg (lc (GStyle.c s)), abl rtl] fun res rows => res = .tup [ai (sd1 (!rowB s) (cBack s rtl)), ai (sd2 (!rowB s) (cBack s rtl))] ∧ rows = [] := by
  have c1 := impl_IsRow_a s
  have c2 := impl_CrossBack_a s rtl
  have c3 := impl_sidesOf_a
  refine pcon_run (c := body Tryz.f128) fits Tryz.func128 (by kernel_rfl) (by kernel_rfl) (by rfl) (by kernel_rfl) fun g F hg hF => ?_
  cbv
  repeat' (first | (refine callB hg c1 rfl (fun R0 hR0 => ?_); cases R0 <;> cbv) | (refine callBP hg c1 rfl (fun R0 hR0 => ?_); cases R0 <;> cbv) | (refine callB hg c2 rfl (fun R0 hR0 => ?_); cases R0 <;> cbv) | (refine callBP hg c2 rfl (fun R0 hR0 => ?_); cases R0 <;> cbv) | (refine callP hg (c3 _ _) rfl (fun R0 R1 hR0 hR1 => ?_); cbv) | (refine callPP hg (c3 _ _) rfl (fun R0 R1 hR0 hR1 => ?_); cbv) | (split <;> rename_i hh <;> (try rw [hh]) <;> (try simp only [goLss hg, goLeq hg, goGtr hg, goGeq hg, goEql hg, goNeq hg, goEqlB hg, goNeqB hg, goAdd hg, goSub hg, goMul hg, goQuo hg, goRem hg, goNg hg, goMn hg, goMx hg, beq_iff_eq, bne_iff_ne, beq_eq_false_iff_ne, bne_eq_false_iff_eq, decide_eq_true_eq, decide_eq_false_iff_not, ne_eq, Decidable.not_not] at hh) <;> cbv))
  all_goals exact fin0p hF (by subst_vars; simp_all)
set_option maxHeartbeats 4000000 in
theorem spec_AlignOf_a (s k : GStyle) : PCon Tryz.prog 112 [.agg (lc (GStyle.c s)), .agg (lc (GStyle.c k))] fun res rows => res = .t (ai (algn s k)) ∧ rows = [] := by
  have c1 := spec_IsRow_a s
  refine pcon_run (c := body Tryz.f112) fits Tryz.func112 (by kernel_rfl) (by kernel_rfl) (by rfl) (by kernel_rfl) fun g F hg hF => ?_
  cbv
  repeat' (first | (refine callB hg c1 rfl (fun R0 hR0 => ?_); cases R0 <;> cbv) | (refine callBP hg c1 rfl (fun R0 hR0 => ?_); cases R0 <;> cbv) | (split <;> rename_i hh <;> (try rw [hh]) <;> (try simp only [goLss hg, goLeq hg, goGtr hg, goGeq hg, goEql hg, goNeq hg, goEqlB hg, goNeqB hg, goAdd hg, goSub hg, goMul hg, goQuo hg, goRem hg, goNg hg, goMn hg, goMx hg, beq_iff_eq, bne_iff_ne, beq_eq_false_iff_ne, bne_eq_false_iff_eq, decide_eq_true_eq, decide_eq_false_iff_not, ne_eq, Decidable.not_not] at hh) <;> cbv))
  all_goals exact fin0i hF (by simp only [algn]; grind)
set_option maxHeartbeats 4000000 in
theorem impl_AlignOf_a (s k : GStyle) : PCon Tryz.prog 131 [.agg (lc (GStyle.c s)), .agg (lc (GStyle.c k))] fun res rows => res = .t (ai (algn s k)) ∧ rows = [] := by
  have c1 := impl_IsRow_a s
  refine pcon_run (c := body Tryz.f131) fits Tryz.func131 (by kernel_rfl) (by kernel_rfl) (by rfl) (by kernel_rfl) fun g F hg hF => ?_
  cbv
  repeat' (first | (refine callB hg c1 rfl (fun R0 hR0 => ?_); cases R0 <;> cbv) | (refine callBP hg c1 rfl (fun R0 hR0 => ?_); cases R0 <;> cbv) | (split <;> rename_i hh <;> (try rw [hh]) <;> (try simp only [goLss hg, goLeq hg, goGtr hg, goGeq hg, goEql hg, goNeq hg, goEqlB hg, goNeqB hg, goAdd hg, goSub hg, goMul hg, goQuo hg, goRem hg, goNg hg, goMn hg, goMx hg, beq_iff_eq, bne_iff_ne, beq_eq_false_iff_ne, bne_eq_false_iff_eq, decide_eq_true_eq, decide_eq_false_iff_not, ne_eq, Decidable.not_not] at hh) <;> cbv))
  all_goals exact fin0i hF (by simp only [algn]; grind)
theorem spec_Mirrored_a (i a s : Int) (b : Bool) : PCon Tryz.prog 320 [ai i, ai a, ai s, abl b] fun res rows => res = .t (ai (mirr i a s b)) ∧ rows = [] := by
  cases b <;> (refine pcon_run (c := body Tryz.f320) fits Tryz.func320 (by kernel_rfl) (by kernel_rfl) (by rfl) (by kernel_rfl) fun g F hg hF => ?_; cbv)
  all_goals exact fin0i hF (by (try simp only [goSub hg]); rfl)
theorem impl_Mirrored_a (i a s : Int) (b : Bool) : PCon Tryz.prog 270 [ai i, ai a, ai s, abl b] fun res rows => res = .t (ai (mirr i a s b)) ∧ rows = [] := by
  cases b <;> (refine pcon_run (c := body Tryz.f270) fits Tryz.func270 (by kernel_rfl) (by kernel_rfl) (by rfl) (by kernel_rfl) fun g F hg hF => ?_; cbv)
  all_goals exact fin0i hF (by (try simp only [goSub hg]); rfl)
theorem spec_GapOf_a (s : GStyle) (w : Bool) : PCon Tryz.prog 169 [.agg (lc (GStyle.c s)), abl w] fun res rows => res = .t (ai (gapO s w)) ∧ rows = [] := by
  cases w <;> (refine pcon_run (c := body Tryz.f169) fits Tryz.func169 (by kernel_rfl) (by kernel_rfl) (by rfl) (by kernel_rfl) fun g F hg hF => ?_; cbv; repeat' (first | (refine callI hg (spec_Clamped_a _) rfl (fun R0 hR0 => ?_); cbv) | (refine callIP hg (spec_Clamped_a _) rfl (fun R0 hR0 => ?_); cbv) | (split <;> rename_i hh <;> (try rw [hh]) <;> (try simp only [goLss hg, goLeq hg, goGtr hg, goGeq hg, goEql hg, goNeq hg, goEqlB hg, goNeqB hg, goAdd hg, goSub hg, goMul hg, goQuo hg, goRem hg, goNg hg, goMn hg, goMx hg, beq_iff_eq, bne_iff_ne, beq_eq_false_iff_ne, bne_eq_false_iff_eq, decide_eq_true_eq, decide_eq_false_iff_not, ne_eq, Decidable.not_not] at hh) <;> cbv)))
  all_goals exact fin0i hF (by subst_vars; rfl)
theorem impl_GapOf_a (s : GStyle) (w : Bool) : PCon Tryz.prog 174 [.agg (lc (GStyle.c s)), abl w] fun res rows => res = .t (ai (gapO s w)) ∧ rows = [] := by
  cases w <;> (refine pcon_run (c := body Tryz.f174) fits Tryz.func174 (by kernel_rfl) (by kernel_rfl) (by rfl) (by kernel_rfl) fun g F hg hF => ?_; cbv; repeat' (first | (refine callI hg (impl_Clamped_a _) rfl (fun R0 hR0 => ?_); cbv) | (refine callIP hg (impl_Clamped_a _) rfl (fun R0 hR0 => ?_); cbv) | (split <;> rename_i hh <;> (try rw [hh]) <;> (try simp only [goLss hg, goLeq hg, goGtr hg, goGeq hg, goEql hg, goNeq hg, goEqlB hg, goNeqB hg, goAdd hg, goSub hg, goMul hg, goQuo hg, goRem hg, goNg hg, goMn hg, goMx hg, beq_iff_eq, bne_iff_ne, beq_eq_false_iff_ne, bne_eq_false_iff_eq, decide_eq_true_eq, decide_eq_false_iff_not, ne_eq, Decidable.not_not] at hh) <;> cbv)))
  all_goals exact fin0i hF (by subst_vars; rfl)
set_option maxHeartbeats 4000000 in
theorem spec_AutoSide_a (s : GSides) (sd : Int) (rtl : Bool) : PCon Tryz.prog 198 [.agg (lc (GSides.c s)), ai sd, abl rtl] fun res rows => res = .t (abl (autS s sd rtl)) ∧ rows = [] := by
  have c1 := spec_SideOf_a s sd rtl
  refine pcon_run (c := body Tryz.f198) fits Tryz.func198 (by kernel_rfl) (by kernel_rfl) (by rfl) (by kernel_rfl) fun g F hg hF => ?_
  cbv
  repeat' (first | (refine callV hg c1 rfl (fun R0 R1 hR0 hR1 => ?_); cbv) | (refine callVP hg c1 rfl (fun R0 R1 hR0 hR1 => ?_); cbv) | (split <;> rename_i hh <;> (try rw [hh]) <;> (try simp only [goLss hg, goLeq hg, goGtr hg, goGeq hg, goEql hg, goNeq hg, goEqlB hg, goNeqB hg, goAdd hg, goSub hg, goMul hg, goQuo hg, goRem hg, goNg hg, goMn hg, goMx hg, beq_iff_eq, bne_iff_ne, beq_eq_false_iff_ne, bne_eq_false_iff_eq, decide_eq_true_eq, decide_eq_false_iff_not, ne_eq, Decidable.not_not] at hh) <;> cbv))
  all_goals exact fin0b hF (by (try simp only [goEql hg]); subst_vars; simp [autS]; try exact (Bool.beq_eq_decide_eq _ _))
set_option maxHeartbeats 4000000 in
theorem impl_AutoSide_a (s : GSides) (sd : Int) (rtl : Bool) : PCon Tryz.prog 130 [.agg (lc (GSides.c s)), ai sd, abl rtl] fun res rows => res = .t (abl (autS s sd rtl)) ∧ rows = [] := by
  have c1 := impl_SideOf_a s sd rtl
  refine pcon_run (c := body Tryz.f130) fits Tryz.func130 (by kernel_rfl) (by kernel_rfl) (by rfl) (by kernel_rfl) fun g F hg hF => ?_
  cbv
  repeat' (first | (refine callV hg c1 rfl (fun R0 R1 hR0 hR1 => ?_); cbv) | (refine callVP hg c1 rfl (fun R0 R1 hR0 hR1 => ?_); cbv) | (split <;> rename_i hh <;> (try rw [hh]) <;> (try simp only [goLss hg, goLeq hg, goGtr hg, goGeq hg, goEql hg, goNeq hg, goEqlB hg, goNeqB hg, goAdd hg, goSub hg, goMul hg, goQuo hg, goRem hg, goNg hg, goMn hg, goMx hg, beq_iff_eq, bne_iff_ne, beq_eq_false_iff_ne, bne_eq_false_iff_eq, decide_eq_true_eq, decide_eq_false_iff_not, ne_eq, Decidable.not_not] at hh) <;> cbv))
  all_goals exact fin0b hF (by (try simp only [goEql hg]); subst_vars; simp [autS]; try exact (Bool.beq_eq_decide_eq _ _))
set_option maxHeartbeats 4000000 in
theorem spec_Taken_a (m n k : Int) : PCon Tryz.prog 249 [.agg [.imm (.int .i64 m), .imm (.int .i64 n)], ai k] fun res rows => res = .t (ai (tak ⟨m, n⟩ k)) ∧ rows = [] := by
  refine pcon_run (c := body Tryz.f249) fits Tryz.func249 (by kernel_rfl) (by kernel_rfl) (by rfl) (by kernel_rfl) fun g F hg hF => ?_
  cbv
  repeat' (first | (refine callI hg (spec_Clamped_a _) rfl (fun R0 hR0 => ?_); cbv) | (refine callIP hg (spec_Clamped_a _) rfl (fun R0 hR0 => ?_); cbv) | (split <;> rename_i hh <;> (try rw [hh]) <;> (try simp only [goLss hg, goLeq hg, goGtr hg, goGeq hg, goEql hg, goNeq hg, goEqlB hg, goNeqB hg, goAdd hg, goSub hg, goMul hg, goQuo hg, goRem hg, goNg hg, goMn hg, goMx hg, beq_iff_eq, bne_iff_ne, beq_eq_false_iff_ne, bne_eq_false_iff_eq, decide_eq_true_eq, decide_eq_false_iff_not, ne_eq, Decidable.not_not] at hh) <;> cbv))
  all_goals exact fin0i hF (by simp only [tak]; subst_vars; grind)
set_option maxHeartbeats 4000000 in
theorem impl_Taken_a (m n k : Int) : PCon Tryz.prog 176 [.agg [.imm (.int .i64 m), .imm (.int .i64 n)], ai k] fun res rows => res = .t (ai (tak ⟨m, n⟩ k)) ∧ rows = [] := by
  refine pcon_run (c := body Tryz.f176) fits Tryz.func176 (by kernel_rfl) (by kernel_rfl) (by rfl) (by kernel_rfl) fun g F hg hF => ?_
  cbv
  repeat' (first | (refine callI hg (impl_Clamped_a _) rfl (fun R0 hR0 => ?_); cbv) | (refine callIP hg (impl_Clamped_a _) rfl (fun R0 hR0 => ?_); cbv) | (split <;> rename_i hh <;> (try rw [hh]) <;> (try simp only [goLss hg, goLeq hg, goGtr hg, goGeq hg, goEql hg, goNeq hg, goEqlB hg, goNeqB hg, goAdd hg, goSub hg, goMul hg, goQuo hg, goRem hg, goNg hg, goMn hg, goMx hg, beq_iff_eq, bne_iff_ne, beq_eq_false_iff_ne, bne_eq_false_iff_eq, decide_eq_true_eq, decide_eq_false_iff_not, ne_eq, Decidable.not_not] at hh) <;> cbv))
  all_goals exact fin0i hF (by simp only [tak]; subst_vars; grind)
set_option maxHeartbeats 4000000 in
theorem spec_RoomOf_a (m n : Int) : PCon Tryz.prog 170 [.agg [.imm (.int .i64 m), .imm (.int .i64 n)]] fun res rows => res = .t (ai (rooN ⟨m, n⟩)) ∧ rows = [] := by
  refine pcon_run (c := body Tryz.f170) fits Tryz.func170 (by kernel_rfl) (by kernel_rfl) (by rfl) (by kernel_rfl) fun g F hg hF => ?_
  cbv
  repeat' (first | (split <;> rename_i hh <;> (try rw [hh]) <;> (try simp only [goLss hg, goLeq hg, goGtr hg, goGeq hg, goEql hg, goNeq hg, goEqlB hg, goNeqB hg, goAdd hg, goSub hg, goMul hg, goQuo hg, goRem hg, goNg hg, goMn hg, goMx hg, beq_iff_eq, bne_iff_ne, beq_eq_false_iff_ne, bne_eq_false_iff_eq, decide_eq_true_eq, decide_eq_false_iff_not, ne_eq, Decidable.not_not] at hh) <;> cbv))
  all_goals exact fin0i hF (by simp only [rooN]; grind)
set_option maxHeartbeats 4000000 in
theorem impl_RoomOf_a (m n : Int) : PCon Tryz.prog 175 [.agg [.imm (.int .i64 m), .imm (.int .i64 n)]] fun res rows => res = .t (ai (rooN ⟨m, n⟩)) ∧ rows = [] := by
  refine pcon_run (c := body Tryz.f175) fits Tryz.func175 (by kernel_rfl) (by kernel_rfl) (by rfl) (by kernel_rfl) fun g F hg hF => ?_
  cbv
  repeat' (first | (split <;> rename_i hh <;> (try rw [hh]) <;> (try simp only [goLss hg, goLeq hg, goGtr hg, goGeq hg, goEql hg, goNeq hg, goEqlB hg, goNeqB hg, goAdd hg, goSub hg, goMul hg, goQuo hg, goRem hg, goNg hg, goMn hg, goMx hg, beq_iff_eq, bne_iff_ne, beq_eq_false_iff_ne, bne_eq_false_iff_eq, decide_eq_true_eq, decide_eq_false_iff_not, ne_eq, Decidable.not_not] at hh) <;> cbv))
  all_goals exact fin0i hF (by simp only [rooN]; grind)
set_option maxHeartbeats 4000000 in
theorem spec_Loosened_a (m n : Int) : PCon Tryz.prog 115 [.agg [.imm (.int .i64 m), .imm (.int .i64 n)]] fun res rows => res = .t (agP (loos ⟨m, n⟩)) ∧ rows = [] := by
  refine pcon_run (c := body Tryz.f115) fits Tryz.func115 (by kernel_rfl) (by kernel_rfl) (by rfl) (by kernel_rfl) fun g F hg hF => ?_
  cbv
  repeat' (first | (split <;> rename_i hh <;> (try rw [hh]) <;> (try simp only [goLss hg, goLeq hg, goGtr hg, goGeq hg, goEql hg, goNeq hg, goEqlB hg, goNeqB hg, goAdd hg, goSub hg, goMul hg, goQuo hg, goRem hg, goNg hg, goMn hg, goMx hg, beq_iff_eq, bne_iff_ne, beq_eq_false_iff_ne, bne_eq_false_iff_eq, decide_eq_true_eq, decide_eq_false_iff_not, ne_eq, Decidable.not_not] at hh) <;> cbv))
  all_goals exact fin0v hF (by simp only [loos]; grind)
set_option maxHeartbeats 4000000 in
theorem impl_Loosened_a (m n : Int) : PCon Tryz.prog 132 [.agg [.imm (.int .i64 m), .imm (.int .i64 n)]] fun res rows => res = .t (agP (loos ⟨m, n⟩)) ∧ rows = [] := by
  refine pcon_run (c := body Tryz.f132) fits Tryz.func132 (by kernel_rfl) (by kernel_rfl) (by rfl) (by kernel_rfl) fun g F hg hF => ?_
  cbv
  repeat' (first | (split <;> rename_i hh <;> (try rw [hh]) <;> (try simp only [goLss hg, goLeq hg, goGtr hg, goGeq hg, goEql hg, goNeq hg, goEqlB hg, goNeqB hg, goAdd hg, goSub hg, goMul hg, goQuo hg, goRem hg, goNg hg, goMn hg, goMx hg, beq_iff_eq, bne_iff_ne, beq_eq_false_iff_ne, bne_eq_false_iff_eq, decide_eq_true_eq, decide_eq_false_iff_not, ne_eq, Decidable.not_not] at hh) <;> cbv))
  all_goals exact fin0v hF (by simp only [loos]; grind)
set_option maxHeartbeats 4000000 in
theorem spec_l18Known_a (m n : Int) : PCon Tryz.prog 108 [.agg [.imm (.int .i64 m), .imm (.int .i64 n)]] fun res rows => res = .t (ai (knS ⟨m, n⟩)) ∧ rows = [] := by
  refine pcon_run (c := body Tryz.f108) fits Tryz.func108 (by kernel_rfl) (by kernel_rfl) (by rfl) (by kernel_rfl) fun g F hg hF => ?_
  cbv
  repeat' (first | (split <;> rename_i hh <;> (try rw [hh]) <;> (try simp only [goLss hg, goLeq hg, goGtr hg, goGeq hg, goEql hg, goNeq hg, goEqlB hg, goNeqB hg, goAdd hg, goSub hg, goMul hg, goQuo hg, goRem hg, goNg hg, goMn hg, goMx hg, beq_iff_eq, bne_iff_ne, beq_eq_false_iff_ne, bne_eq_false_iff_eq, decide_eq_true_eq, decide_eq_false_iff_not, ne_eq, Decidable.not_not] at hh) <;> cbv))
  all_goals exact fin0i hF (by simp only [knS]; grind)
set_option maxHeartbeats 4000000 in
theorem impl_knownOf_a (m n : Int) : PCon Tryz.prog 124 [.agg [.imm (.int .i64 m), .imm (.int .i64 n)]] fun res rows => res = .t (ai (knS ⟨m, n⟩)) ∧ rows = [] := by
  refine pcon_run (c := body Tryz.f124) fits Tryz.func124 (by kernel_rfl) (by kernel_rfl) (by rfl) (by kernel_rfl) fun g F hg hF => ?_
  cbv
  repeat' (first | (split <;> rename_i hh <;> (try rw [hh]) <;> (try simp only [goLss hg, goLeq hg, goGtr hg, goGeq hg, goEql hg, goNeq hg, goEqlB hg, goNeqB hg, goAdd hg, goSub hg, goMul hg, goQuo hg, goRem hg, goNg hg, goMn hg, goMx hg, beq_iff_eq, bne_iff_ne, beq_eq_false_iff_ne, bne_eq_false_iff_eq, decide_eq_true_eq, decide_eq_false_iff_not, ne_eq, Decidable.not_not] at hh) <;> cbv))
  all_goals exact fin0i hF (by simp only [knS]; grind)
set_option maxHeartbeats 4000000 in
theorem spec_SpaceOk_a (m n : Int) : PCon Tryz.prog 106 [.agg [.imm (.int .i64 m), .imm (.int .i64 n)]] fun res rows => res = .t (abl (spOk ⟨m, n⟩)) ∧ rows = [] := by
  refine pcon_run (c := body Tryz.f106) fits Tryz.func106 (by kernel_rfl) (by kernel_rfl) (by rfl) (by kernel_rfl) fun g F hg hF => ?_
  cbv
  repeat' (first | (refine callB hg (spec_l01In_r _ _ _) rfl (fun R0 hR0 => ?_); cases R0 <;> cbv) | (refine callBP hg (spec_l01In_r _ _ _) rfl (fun R0 hR0 => ?_); cases R0 <;> cbv) | (split <;> rename_i hh <;> (try rw [hh]) <;> (try simp only [goLss hg, goLeq hg, goGtr hg, goGeq hg, goEql hg, goNeq hg, goEqlB hg, goNeqB hg, goAdd hg, goSub hg, goMul hg, goQuo hg, goRem hg, goNg hg, goMn hg, goMx hg, beq_iff_eq, bne_iff_ne, beq_eq_false_iff_ne, bne_eq_false_iff_eq, decide_eq_true_eq, decide_eq_false_iff_not, ne_eq, Decidable.not_not] at hh) <;> cbv))
  all_goals exact fin0b hF (by (try simp only [goEql hg, Bool.beq_eq_decide_eq] at *); clear hF hg; simp_all [spOk, rng]; try grind)
set_option maxHeartbeats 4000000 in
theorem impl_SpaceOk_a (m n : Int) : PCon Tryz.prog 120 [.agg [.imm (.int .i64 m), .imm (.int .i64 n)]] fun res rows => res = .t (abl (spOk ⟨m, n⟩)) ∧ rows = [] := by
  refine pcon_run (c := body Tryz.f120) fits Tryz.func120 (by kernel_rfl) (by kernel_rfl) (by rfl) (by kernel_rfl) fun g F hg hF => ?_
  cbv
  repeat' (first | (refine callB hg (impl_in_r _ _ _) rfl (fun R0 hR0 => ?_); cases R0 <;> cbv) | (refine callBP hg (impl_in_r _ _ _) rfl (fun R0 hR0 => ?_); cases R0 <;> cbv) | (split <;> rename_i hh <;> (try rw [hh]) <;> (try simp only [goLss hg, goLeq hg, goGtr hg, goGeq hg, goEql hg, goNeq hg, goEqlB hg, goNeqB hg, goAdd hg, goSub hg, goMul hg, goQuo hg, goRem hg, goNg hg, goMn hg, goMx hg, beq_iff_eq, bne_iff_ne, beq_eq_false_iff_ne, bne_eq_false_iff_eq, decide_eq_true_eq, decide_eq_false_iff_not, ne_eq, Decidable.not_not] at hh) <;> cbv))
  all_goals exact fin0b hF (by (try simp only [goEql hg, Bool.beq_eq_decide_eq] at *); clear hF hg; simp_all [spOk, rng]; try grind)
set_option maxHeartbeats 4000000 in
theorem spec_l16Justify_a (c : Int) : PCon Tryz.prog 353 [ai c] fun res rows => res = .t (ai (jusO c)) ∧ rows = [] := by
  refine pcon_run (c := body Tryz.f353) fits Tryz.func353 (by kernel_rfl) (by kernel_rfl) (by rfl) (by kernel_rfl) fun g F hg hF => ?_
  cbv
  repeat' (first | (split <;> rename_i hh <;> (try rw [hh]) <;> (try simp only [goLss hg, goLeq hg, goGtr hg, goGeq hg, goEql hg, goNeq hg, goEqlB hg, goNeqB hg, goAdd hg, goSub hg, goMul hg, goQuo hg, goRem hg, goNg hg, goMn hg, goMx hg, beq_iff_eq, bne_iff_ne, beq_eq_false_iff_ne, bne_eq_false_iff_eq, decide_eq_true_eq, decide_eq_false_iff_not, ne_eq, Decidable.not_not] at hh) <;> cbv))
  all_goals exact fin0i hF (by simp only [jusO]; grind)
set_option maxHeartbeats 4000000 in
theorem impl_justifyOf_a (c : Int) : PCon Tryz.prog 328 [ai c] fun res rows => res = .t (ai (jusO c)) ∧ rows = [] := by
  refine pcon_run (c := body Tryz.f328) fits Tryz.func328 (by kernel_rfl) (by kernel_rfl) (by rfl) (by kernel_rfl) fun g F hg hF => ?_
  cbv
  repeat' (first | (split <;> rename_i hh <;> (try rw [hh]) <;> (try simp only [goLss hg, goLeq hg, goGtr hg, goGeq hg, goEql hg, goNeq hg, goEqlB hg, goNeqB hg, goAdd hg, goSub hg, goMul hg, goQuo hg, goRem hg, goNg hg, goMn hg, goMx hg, beq_iff_eq, bne_iff_ne, beq_eq_false_iff_ne, bne_eq_false_iff_eq, decide_eq_true_eq, decide_eq_false_iff_not, ne_eq, Decidable.not_not] at hh) <;> cbv))
  all_goals exact fin0i hF (by simp only [jusO]; grind)
set_option maxHeartbeats 4000000 in
theorem spec_SideOk_a (x : GSide) : PCon Tryz.prog 357 [.agg (lc (GSide.c x))] fun res rows => res = .t (abl (siOk x)) ∧ rows = [] := by
  refine pcon_run (c := body Tryz.f357) fits Tryz.func357 (by kernel_rfl) (by kernel_rfl) (by rfl) (by kernel_rfl) fun g F hg hF => ?_
  cbv
  repeat' (first | (refine callB hg (spec_l01In_r _ _ _) rfl (fun R0 hR0 => ?_); cases R0 <;> cbv) | (refine callBP hg (spec_l01In_r _ _ _) rfl (fun R0 hR0 => ?_); cases R0 <;> cbv) | (split <;> rename_i hh <;> (try rw [hh]) <;> (try simp only [goLss hg, goLeq hg, goGtr hg, goGeq hg, goEql hg, goNeq hg, goEqlB hg, goNeqB hg, goAdd hg, goSub hg, goMul hg, goQuo hg, goRem hg, goNg hg, goMn hg, goMx hg, beq_iff_eq, bne_iff_ne, beq_eq_false_iff_ne, bne_eq_false_iff_eq, decide_eq_true_eq, decide_eq_false_iff_not, ne_eq, Decidable.not_not] at hh) <;> cbv))
  all_goals exact fin0b hF (by (try simp only [goEql hg, goNeqB hg, Bool.beq_eq_decide_eq]); clear hF hg; simp_all [siOk])
set_option maxHeartbeats 4000000 in
theorem impl_SideOk_a (x : GSide) : PCon Tryz.prog 333 [.agg (lc (GSide.c x))] fun res rows => res = .t (abl (siOk x)) ∧ rows = [] := by
  refine pcon_run (c := body Tryz.f333) fits Tryz.func333 (by kernel_rfl) (by kernel_rfl) (by rfl) (by kernel_rfl) fun g F hg hF => ?_
  cbv
  repeat' (first | (refine callB hg (impl_in_r _ _ _) rfl (fun R0 hR0 => ?_); cases R0 <;> cbv) | (refine callBP hg (impl_in_r _ _ _) rfl (fun R0 hR0 => ?_); cases R0 <;> cbv) | (split <;> rename_i hh <;> (try rw [hh]) <;> (try simp only [goLss hg, goLeq hg, goGtr hg, goGeq hg, goEql hg, goNeq hg, goEqlB hg, goNeqB hg, goAdd hg, goSub hg, goMul hg, goQuo hg, goRem hg, goNg hg, goMn hg, goMx hg, beq_iff_eq, bne_iff_ne, beq_eq_false_iff_ne, bne_eq_false_iff_eq, decide_eq_true_eq, decide_eq_false_iff_not, ne_eq, Decidable.not_not] at hh) <;> cbv))
  all_goals exact fin0b hF (by (try simp only [goEql hg, goNeqB hg, Bool.beq_eq_decide_eq]); clear hF hg; simp_all [siOk])
theorem spec_l17Auto_a (x : GSide) : PCon Tryz.prog 202 [.agg (lc (GSide.c x))] fun res rows => res = .t (abl (x.autoBefore || x.autoBehind)) ∧ rows = [] := by
  obtain ⟨s, b, c, p, q, a, e⟩ := x
  cases p <;> cases q <;> (refine pcon_run (c := body Tryz.f202) fits Tryz.func202 (by kernel_rfl) (by kernel_rfl) (by rfl) (by kernel_rfl) fun g F hg hF => ?_; cbv)
  all_goals exact fin0b hF rfl
set_option maxHeartbeats 4000000 in
theorem impl_OnBase_a (x : GSide) : PCon Tryz.prog 332 [.agg (lc (GSide.c x))] fun res rows => res = .t (abl (onB x)) ∧ rows = [] := by
  obtain ⟨s, b, c, p, q, a, e⟩ := x
  cases p <;> cases q <;> (refine pcon_run (c := body Tryz.f332) fits Tryz.func332 (by kernel_rfl) (by kernel_rfl) (by rfl) (by kernel_rfl) fun g F hg hF => ?_; cbv; repeat' (first | (split <;> rename_i hh <;> (try rw [hh]) <;> (try simp only [goLss hg, goLeq hg, goGtr hg, goGeq hg, goEql hg, goNeq hg, goEqlB hg, goNeqB hg, goAdd hg, goSub hg, goMul hg, goQuo hg, goRem hg, goNg hg, goMn hg, goMx hg, beq_iff_eq, bne_iff_ne, beq_eq_false_iff_ne, bne_eq_false_iff_eq, decide_eq_true_eq, decide_eq_false_iff_not, ne_eq, Decidable.not_not] at hh) <;> cbv)))
  all_goals exact fin0b hF (by (try simp only [goEql hg, goNeqB hg, Bool.beq_eq_decide_eq]); clear hF hg; simp_all [onB, filB])
set_option maxHeartbeats 4000000 in
theorem impl_Fills_a (x : GSide) : PCon Tryz.prog 266 [.agg (lc (GSide.c x))] fun res rows => res = .t (abl (filB x)) ∧ rows = [] := by
  obtain ⟨s, b, c, p, q, a, e⟩ := x
  cases p <;> cases q <;> (refine pcon_run (c := body Tryz.f266) fits Tryz.func266 (by kernel_rfl) (by kernel_rfl) (by rfl) (by kernel_rfl) fun g F hg hF => ?_; cbv; repeat' (first | (split <;> rename_i hh <;> (try rw [hh]) <;> (try simp only [goLss hg, goLeq hg, goGtr hg, goGeq hg, goEql hg, goNeq hg, goEqlB hg, goNeqB hg, goAdd hg, goSub hg, goMul hg, goQuo hg, goRem hg, goNg hg, goMn hg, goMx hg, beq_iff_eq, bne_iff_ne, beq_eq_false_iff_ne, bne_eq_false_iff_eq, decide_eq_true_eq, decide_eq_false_iff_not, ne_eq, Decidable.not_not] at hh) <;> cbv)))
  all_goals exact fin0b hF (by (try simp only [goEql hg, goNeqB hg, Bool.beq_eq_decide_eq]); clear hF hg; simp_all [onB, filB])
set_option maxHeartbeats 4000000 in
theorem spec_OnBase_a (x : GSide) : PCon Tryz.prog 356 [.agg (lc (GSide.c x))] fun res rows => res = .t (abl (onB x)) ∧ rows = [] := by
  have c1 := spec_l17Auto_a x
  obtain ⟨s, b, c, p, q, a, e⟩ := x
  cases p <;> cases q <;> (refine pcon_run (c := body Tryz.f356) fits Tryz.func356 (by kernel_rfl) (by kernel_rfl) (by rfl) (by kernel_rfl) fun g F hg hF => ?_; cbv; repeat' (first | (refine callB hg c1 rfl (fun R0 hR0 => ?_); cases R0 <;> cbv) | (refine callBP hg c1 rfl (fun R0 hR0 => ?_); cases R0 <;> cbv) | (split <;> rename_i hh <;> (try rw [hh]) <;> (try simp only [goLss hg, goLeq hg, goGtr hg, goGeq hg, goEql hg, goNeq hg, goEqlB hg, goNeqB hg, goAdd hg, goSub hg, goMul hg, goQuo hg, goRem hg, goNg hg, goMn hg, goMx hg, beq_iff_eq, bne_iff_ne, beq_eq_false_iff_ne, bne_eq_false_iff_eq, decide_eq_true_eq, decide_eq_false_iff_not, ne_eq, Decidable.not_not] at hh) <;> cbv)))
  all_goals exact fin0b hF (by (try simp only [goEql hg, goNeqB hg, Bool.beq_eq_decide_eq]); clear hF hg c1; simp_all [onB, filB])
set_option maxHeartbeats 4000000 in
theorem spec_Fills_a (x : GSide) : PCon Tryz.prog 113 [.agg (lc (GSide.c x))] fun res rows => res = .t (abl (filB x)) ∧ rows = [] := by
  have c1 := spec_l17Auto_a x
  obtain ⟨s, b, c, p, q, a, e⟩ := x
  cases p <;> cases q <;> (refine pcon_run (c := body Tryz.f113) fits Tryz.func113 (by kernel_rfl) (by kernel_rfl) (by rfl) (by kernel_rfl) fun g F hg hF => ?_; cbv; repeat' (first | (refine callB hg c1 rfl (fun R0 hR0 => ?_); cases R0 <;> cbv) | (refine callBP hg c1 rfl (fun R0 hR0 => ?_); cases R0 <;> cbv) | (split <;> rename_i hh <;> (try rw [hh]) <;> (try simp only [goLss hg, goLeq hg, goGtr hg, goGeq hg, goEql hg, goNeq hg, goEqlB hg, goNeqB hg, goAdd hg, goSub hg, goMul hg, goQuo hg, goRem hg, goNg hg, goMn hg, goMx hg, beq_iff_eq, bne_iff_ne, beq_eq_false_iff_ne, bne_eq_false_iff_eq, decide_eq_true_eq, decide_eq_false_iff_not, ne_eq, Decidable.not_not] at hh) <;> cbv)))
  all_goals exact fin0b hF (by (try simp only [goEql hg, goNeqB hg, Bool.beq_eq_decide_eq]); clear hF hg c1; simp_all [onB, filB])
theorem spec_l17Less_a (a b : Int) : PCon Tryz.prog 184 [ai a, ai b] fun res rows => res = .t (ai (if b < a then b else a)) ∧ rows = [] := by
  refine pcon_run (c := body Tryz.f184) fits Tryz.func184 (by kernel_rfl) (by kernel_rfl) (by rfl) (by kernel_rfl) fun g F hg hF => ?_
  cbv
  repeat' (first | (split <;> rename_i hh <;> (try rw [hh]) <;> (try simp only [goLss hg, goLeq hg, goGtr hg, goGeq hg, goEql hg, goNeq hg, goEqlB hg, goNeqB hg, goAdd hg, goSub hg, goMul hg, goQuo hg, goRem hg, goNg hg, goMn hg, goMx hg, beq_iff_eq, bne_iff_ne, beq_eq_false_iff_ne, bne_eq_false_iff_eq, decide_eq_true_eq, decide_eq_false_iff_not, ne_eq, Decidable.not_not] at hh) <;> cbv))
  all_goals exact fin0i hF (by grind)
theorem spec_l18Both_a (x : GSide) : PCon Tryz.prog 114 [.agg (lc (GSide.c x))] fun res rows => res = .t (ai (wrap64 (x.before + x.behind))) ∧ rows = [] := by
  refine pcon_run (c := body Tryz.f114) fits Tryz.func114 (by kernel_rfl) (by kernel_rfl) (by rfl) (by kernel_rfl) fun g F hg hF => ?_
  cbv
  all_goals exact fin0i hF (by rw [goAdd hg])
set_option maxHeartbeats 8000000 in
theorem spec_PlaceAcross_a (x : GSide) (cross base : Int) : PCon Tryz.prog 321 [.agg (lc (GSide.c x)), ai cross, ai base] fun res rows => res = .t (ai (plcA x cross base)) ∧ rows = [] := by
  have c1 := spec_l17Auto_a x
  have c2 := spec_SideOk_a x
  obtain ⟨s, b, c, p, q, a, e⟩ := x
  cases p <;> cases q <;> (refine pcon_run (c := body Tryz.f321) fits Tryz.func321 (by kernel_rfl) (by kernel_rfl) (by rfl) (by kernel_rfl) fun g F hg hF => ?_; cbv; repeat' (first | (refine callB hg c1 rfl (fun R0 hR0 => ?_); cases R0 <;> cbv) | (refine callBP hg c1 rfl (fun R0 hR0 => ?_); cases R0 <;> cbv) | (refine callB hg c2 rfl (fun R0 hR0 => ?_); cases R0 <;> cbv) | (refine callBP hg c2 rfl (fun R0 hR0 => ?_); cases R0 <;> cbv) | (refine callI hg (spec_FloorDiv_a _ _) rfl (fun R0 hR0 => ?_); cbv) | (refine callIP hg (spec_FloorDiv_a _ _) rfl (fun R0 hR0 => ?_); cbv) | (split <;> rename_i hh <;> (try rw [hh]) <;> (try simp only [goLss hg, goLeq hg, goGtr hg, goGeq hg, goEql hg, goNeq hg, goEqlB hg, goNeqB hg, goAdd hg, goSub hg, goMul hg, goQuo hg, goRem hg, goNg hg, goMn hg, goMx hg, beq_iff_eq, bne_iff_ne, beq_eq_false_iff_ne, bne_eq_false_iff_eq, decide_eq_true_eq, decide_eq_false_iff_not, ne_eq, Decidable.not_not] at hh) <;> cbv)))
  all_goals exact fin0i hF (by (try simp only [goSub hg, goAdd hg] at *); (try clear c1); clear c2 hF hg; simp only [plcA]; grind)
set_option maxHeartbeats 8000000 in
theorem impl_PlaceAcross_a (x : GSide) (cross base : Int) : PCon Tryz.prog 272 [.agg (lc (GSide.c x)), ai cross, ai base] fun res rows => res = .t (ai (plcA x cross base)) ∧ rows = [] := by
  have c2 := impl_SideOk_a x
  obtain ⟨s, b, c, p, q, a, e⟩ := x
  cases p <;> cases q <;> (refine pcon_run (c := body Tryz.f272) fits Tryz.func272 (by kernel_rfl) (by kernel_rfl) (by rfl) (by kernel_rfl) fun g F hg hF => ?_; cbv; repeat' (first | (refine callB hg c2 rfl (fun R0 hR0 => ?_); cases R0 <;> cbv) | (refine callBP hg c2 rfl (fun R0 hR0 => ?_); cases R0 <;> cbv) | (refine callI hg (impl_FloorDiv_a _ _) rfl (fun R0 hR0 => ?_); cbv) | (refine callIP hg (impl_FloorDiv_a _ _) rfl (fun R0 hR0 => ?_); cbv) | (split <;> rename_i hh <;> (try rw [hh]) <;> (try simp only [goLss hg, goLeq hg, goGtr hg, goGeq hg, goEql hg, goNeq hg, goEqlB hg, goNeqB hg, goAdd hg, goSub hg, goMul hg, goQuo hg, goRem hg, goNg hg, goMn hg, goMx hg, beq_iff_eq, bne_iff_ne, beq_eq_false_iff_ne, bne_eq_false_iff_eq, decide_eq_true_eq, decide_eq_false_iff_not, ne_eq, Decidable.not_not] at hh) <;> cbv)))
  all_goals exact fin0i hF (by (try simp only [goSub hg, goAdd hg] at *); (try clear c1); clear c2 hF hg; simp only [plcA]; grind)

end Go.Proofs.YtdnnffbbhijmkaaGreat
