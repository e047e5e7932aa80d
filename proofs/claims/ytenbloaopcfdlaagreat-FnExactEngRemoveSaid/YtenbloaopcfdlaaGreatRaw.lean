/- Valid values, sides, styles. -/
import Derived.Test.YtenbloaopcfdlaaGreatRav
namespace Go.Proofs.YtenbloaopcfdlaaGreat
open Go.ChangeShapes Go.WideShapes Go.ChangeAt Go.RowKit Am
set_option linter.unusedVariables false
set_option linter.unusedSimpArgs false
set_option maxRecDepth 100000
def rng (n l m : Int) : Bool := decide (l ≤ n) && decide (n ≤ m)
def vOk (v : GVal) : Bool := if v.kind = 0 ∨ v.kind = 3 then decide (v.n = 0) else if v.kind = 1 then rng v.n (-1048576) 1048576 else if v.kind = 2 then rng v.n (-1000) 1000 else false
def zOk (v : GVal) : Bool := vOk v && decide (0 ≤ v.n)
def sdOk (s : GSides) : Bool := vOk s.left && (vOk s.top && (vOk s.right && (vOk s.bottom && (vOk s.start && vOk s.fin))))
def edOk (e : GEdges) : Bool := rng e.left 0 1048576 && (rng e.top 0 1048576 && (rng e.right 0 1048576 && rng e.bottom 0 1048576))
def stV (s : GStyle) : List GVal := [s.basis, s.width, s.height, s.minWidth, s.minHeight, s.maxWidth, s.maxHeight]
def stN (s : GStyle) : Bool := rng s.dir 1 4 && (rng s.wrap 1 3 && (rng s.justify 1 6 && (rng s.items 1 5 && (rng s.self 0 5 && (rng s.content 1 6 && (rng s.order (-1000) 1000 && (rng s.grow 0 1000 && (rng s.shrink 0 1000 && (rng s.ratio 0 6400 && (rng s.rowGap 0 1048576 && rng s.colGap 0 1048576))))))))))
def stOk (s : GStyle) : Bool := stN s && ((stV s).all zOk && (sdOk s.margin && (sdOk s.inset && (edOk s.pad && edOk s.border))))
theorem spec_l01In_r (n l m : Int) : PCon Tryz.prog 97 [ai n, ai l, ai m] fun res rows => res = .t (abl (rng n l m)) ∧ rows = [] := spec_l01In_a n l m
theorem impl_in_r (n l m : Int) : PCon Tryz.prog 102 [ai n, ai l, ai m] fun res rows => res = .t (abl (rng n l m)) ∧ rows = [] := impl_in_a n l m
theorem spec_ValueOk_a (k n : Int) : PCon Tryz.prog 134 [.agg [.imm (.int .i64 k), .imm (.int .i64 n)]] fun res rows => res = .t (abl (vOk ⟨k, n⟩)) ∧ rows = [] := by
  refine pcon_run (c := body Tryz.f134) fits Tryz.func134 (by kernel_rfl) (by kernel_rfl) (by rfl) (by kernel_rfl) fun g F hg hF => ?_
  cbv
  repeat' (first | (refine callB hg (spec_l01In_r _ _ _) rfl (fun R0 hR0 => ?_); cases R0 <;> cbv) | (refine callBP hg (spec_l01In_r _ _ _) rfl (fun R0 hR0 => ?_); cases R0 <;> cbv) | (split <;> rename_i hh <;> (try rw [hh]) <;> (try simp only [goLss hg, goLeq hg, goGtr hg, goGeq hg, goEql hg, goNeq hg, goEqlB hg, goNeqB hg, goAdd hg, goSub hg, goMul hg, goQuo hg, goRem hg, goNg hg, goMn hg, goMx hg, beq_iff_eq, bne_iff_ne, beq_eq_false_iff_ne, bne_eq_false_iff_eq, decide_eq_true_eq, decide_eq_false_iff_not, ne_eq, Decidable.not_not] at hh) <;> cbv))
  all_goals exact fin0b hF (by (try simp only [goEql hg]); simp only [vOk]; grind)
theorem impl_ValueOk_a (k n : Int) : PCon Tryz.prog 138 [.agg [.imm (.int .i64 k), .imm (.int .i64 n)]] fun res rows => res = .t (abl (vOk ⟨k, n⟩)) ∧ rows = [] := by
  refine pcon_run (c := body Tryz.f138) fits Tryz.func138 (by kernel_rfl) (by kernel_rfl) (by rfl) (by kernel_rfl) fun g F hg hF => ?_
  cbv
  repeat' (first | (refine callB hg (impl_in_r _ _ _) rfl (fun R0 hR0 => ?_); cases R0 <;> cbv) | (refine callBP hg (impl_in_r _ _ _) rfl (fun R0 hR0 => ?_); cases R0 <;> cbv) | (split <;> rename_i hh <;> (try rw [hh]) <;> (try simp only [goLss hg, goLeq hg, goGtr hg, goGeq hg, goEql hg, goNeq hg, goEqlB hg, goNeqB hg, goAdd hg, goSub hg, goMul hg, goQuo hg, goRem hg, goNg hg, goMn hg, goMx hg, beq_iff_eq, bne_iff_ne, beq_eq_false_iff_ne, bne_eq_false_iff_eq, decide_eq_true_eq, decide_eq_false_iff_not, ne_eq, Decidable.not_not] at hh) <;> cbv))
  all_goals exact fin0b hF (by (try simp only [goEql hg]); simp only [vOk]; grind)
theorem spec_l06Size_a (k n : Int) : PCon Tryz.prog 116 [.agg [.imm (.int .i64 k), .imm (.int .i64 n)]] fun res rows => res = .t (abl (zOk ⟨k, n⟩)) ∧ rows = [] := by
  refine pcon_run (c := body Tryz.f116) fits Tryz.func116 (by kernel_rfl) (by kernel_rfl) (by rfl) (by kernel_rfl) fun g F hg hF => ?_
  cbv
  repeat' (first | (refine callB hg (spec_ValueOk_a _ _) rfl (fun R0 hR0 => ?_); cases R0 <;> cbv) | (refine callBP hg (spec_ValueOk_a _ _) rfl (fun R0 hR0 => ?_); cases R0 <;> cbv) | (split <;> rename_i hh <;> (try rw [hh]) <;> (try simp only [goLss hg, goLeq hg, goGtr hg, goGeq hg, goEql hg, goNeq hg, goEqlB hg, goNeqB hg, goAdd hg, goSub hg, goMul hg, goQuo hg, goRem hg, goNg hg, goMn hg, goMx hg, beq_iff_eq, bne_iff_ne, beq_eq_false_iff_ne, bne_eq_false_iff_eq, decide_eq_true_eq, decide_eq_false_iff_not, ne_eq, Decidable.not_not] at hh) <;> cbv))
  all_goals exact fin0b hF (by (try simp only [goGeq hg]); simp only [zOk]; grind)
theorem impl_sizeOk_a (k n : Int) : PCon Tryz.prog 123 [.agg [.imm (.int .i64 k), .imm (.int .i64 n)]] fun res rows => res = .t (abl (zOk ⟨k, n⟩)) ∧ rows = [] := by
  refine pcon_run (c := body Tryz.f123) fits Tryz.func123 (by kernel_rfl) (by kernel_rfl) (by rfl) (by kernel_rfl) fun g F hg hF => ?_
  cbv
  repeat' (first | (refine callB hg (impl_ValueOk_a _ _) rfl (fun R0 hR0 => ?_); cases R0 <;> cbv) | (refine callBP hg (impl_ValueOk_a _ _) rfl (fun R0 hR0 => ?_); cases R0 <;> cbv) | (split <;> rename_i hh <;> (try rw [hh]) <;> (try simp only [goLss hg, goLeq hg, goGtr hg, goGeq hg, goEql hg, goNeq hg, goEqlB hg, goNeqB hg, goAdd hg, goSub hg, goMul hg, goQuo hg, goRem hg, goNg hg, goMn hg, goMx hg, beq_iff_eq, bne_iff_ne, beq_eq_false_iff_ne, bne_eq_false_iff_eq, decide_eq_true_eq, decide_eq_false_iff_not, ne_eq, Decidable.not_not] at hh) <;> cbv))
  all_goals exact fin0b hF (by (try simp only [goGeq hg]); simp only [zOk]; grind)
theorem spec_SidesOk_a (s : GSides) : PCon Tryz.prog 117 [.agg (lc (GSides.c s))] fun res rows => res = .t (abl (sdOk s)) ∧ rows = [] := by
  obtain ⟨⟨a0, a1⟩, ⟨a2, a3⟩, ⟨a4, a5⟩, ⟨a6, a7⟩, ⟨a8, a9⟩, ⟨a10, a11⟩⟩ := s
  refine pcon_run (c := body Tryz.f117) fits Tryz.func117 (by kernel_rfl) (by kernel_rfl) (by rfl) (by kernel_rfl) fun g F hg hF => ?_
  cbv
  repeat' (first | (refine callB hg (spec_ValueOk_a _ _) rfl (fun R0 hR0 => ?_); cases R0 <;> cbv) | (refine callBP hg (spec_ValueOk_a _ _) rfl (fun R0 hR0 => ?_); cases R0 <;> cbv) | (split <;> rename_i hh <;> (try rw [hh]) <;> (try simp only [goLss hg, goLeq hg, goGtr hg, goGeq hg, goEql hg, goNeq hg, goEqlB hg, goNeqB hg, goAdd hg, goSub hg, goMul hg, goQuo hg, goRem hg, goNg hg, goMn hg, goMx hg, beq_iff_eq, bne_iff_ne, beq_eq_false_iff_ne, bne_eq_false_iff_eq, decide_eq_true_eq, decide_eq_false_iff_not, ne_eq, Decidable.not_not] at hh) <;> cbv))
  all_goals exact fin0b hF (by simp only [sdOk]; simp_all)
theorem impl_SidesOk_a (s : GSides) : PCon Tryz.prog 124 [.agg (lc (GSides.c s))] fun res rows => res = .t (abl (sdOk s)) ∧ rows = [] := by
  obtain ⟨⟨a0, a1⟩, ⟨a2, a3⟩, ⟨a4, a5⟩, ⟨a6, a7⟩, ⟨a8, a9⟩, ⟨a10, a11⟩⟩ := s
  refine pcon_run (c := body Tryz.f124) fits Tryz.func124 (by kernel_rfl) (by kernel_rfl) (by rfl) (by kernel_rfl) fun g F hg hF => ?_
  cbv
  repeat' (first | (refine callB hg (impl_ValueOk_a _ _) rfl (fun R0 hR0 => ?_); cases R0 <;> cbv) | (refine callBP hg (impl_ValueOk_a _ _) rfl (fun R0 hR0 => ?_); cases R0 <;> cbv) | (split <;> rename_i hh <;> (try rw [hh]) <;> (try simp only [goLss hg, goLeq hg, goGtr hg, goGeq hg, goEql hg, goNeq hg, goEqlB hg, goNeqB hg, goAdd hg, goSub hg, goMul hg, goQuo hg, goRem hg, goNg hg, goMn hg, goMx hg, beq_iff_eq, bne_iff_ne, beq_eq_false_iff_ne, bne_eq_false_iff_eq, decide_eq_true_eq, decide_eq_false_iff_not, ne_eq, Decidable.not_not] at hh) <;> cbv))
  all_goals exact fin0b hF (by simp only [sdOk]; simp_all)
theorem spec_EdgesOk_a (s : GEdges) : PCon Tryz.prog 118 [.agg (lc (GEdges.c s))] fun res rows => res = .t (abl (edOk s)) ∧ rows = [] := by
  obtain ⟨a0, a1, a2, a3⟩ := s
  refine pcon_run (c := body Tryz.f118) fits Tryz.func118 (by kernel_rfl) (by kernel_rfl) (by rfl) (by kernel_rfl) fun g F hg hF => ?_
  cbv
  repeat' (first | (refine callB hg (spec_l01In_r _ _ _) rfl (fun R0 hR0 => ?_); cases R0 <;> cbv) | (refine callBP hg (spec_l01In_r _ _ _) rfl (fun R0 hR0 => ?_); cases R0 <;> cbv) | (split <;> rename_i hh <;> (try rw [hh]) <;> (try simp only [goLss hg, goLeq hg, goGtr hg, goGeq hg, goEql hg, goNeq hg, goEqlB hg, goNeqB hg, goAdd hg, goSub hg, goMul hg, goQuo hg, goRem hg, goNg hg, goMn hg, goMx hg, beq_iff_eq, bne_iff_ne, beq_eq_false_iff_ne, bne_eq_false_iff_eq, decide_eq_true_eq, decide_eq_false_iff_not, ne_eq, Decidable.not_not] at hh) <;> cbv))
  all_goals exact fin0b hF (by simp only [edOk]; simp_all)
theorem impl_EdgesOk_a (s : GEdges) : PCon Tryz.prog 125 [.agg (lc (GEdges.c s))] fun res rows => res = .t (abl (edOk s)) ∧ rows = [] := by
  obtain ⟨a0, a1, a2, a3⟩ := s
  refine pcon_run (c := body Tryz.f125) fits Tryz.func125 (by kernel_rfl) (by kernel_rfl) (by rfl) (by kernel_rfl) fun g F hg hF => ?_
  cbv
  repeat' (first | (refine callB hg (impl_in_r _ _ _) rfl (fun R0 hR0 => ?_); cases R0 <;> cbv) | (refine callBP hg (impl_in_r _ _ _) rfl (fun R0 hR0 => ?_); cases R0 <;> cbv) | (split <;> rename_i hh <;> (try rw [hh]) <;> (try simp only [goLss hg, goLeq hg, goGtr hg, goGeq hg, goEql hg, goNeq hg, goEqlB hg, goNeqB hg, goAdd hg, goSub hg, goMul hg, goQuo hg, goRem hg, goNg hg, goMn hg, goMx hg, beq_iff_eq, bne_iff_ne, beq_eq_false_iff_ne, bne_eq_false_iff_eq, decide_eq_true_eq, decide_eq_false_iff_not, ne_eq, Decidable.not_not] at hh) <;> cbv))
  all_goals exact fin0b hF (by simp only [edOk]; simp_all)
set_option maxHeartbeats 8000000 in
theorem spec_StyleOk_a (s : GStyle) : PCon Tryz.prog 79 [.agg (lc (GStyle.c s))] fun res rows => res = .t (abl (stOk s)) ∧ rows = [] := by
  obtain ⟨a0, a1, a2, a3, a4, a5, a6, a7, a8, a9, a10, ⟨a11, a12⟩, ⟨a13, a14⟩, ⟨a15, a16⟩, ⟨a17, a18⟩, ⟨a19, a20⟩, ⟨a21, a22⟩, ⟨a23, a24⟩, a25, ⟨⟨a26, a27⟩, ⟨a28, a29⟩, ⟨a30, a31⟩, ⟨a32, a33⟩, ⟨a34, a35⟩, ⟨a36, a37⟩⟩, ⟨⟨a38, a39⟩, ⟨a40, a41⟩, ⟨a42, a43⟩, ⟨a44, a45⟩, ⟨a46, a47⟩, ⟨a48, a49⟩⟩, ⟨a50, a51, a52, a53⟩, ⟨a54, a55, a56, a57⟩, a58, a59⟩ := s
  refine pcon_run (c := body Tryz.f79) fits Tryz.func79 (by kernel_rfl) (by kernel_rfl) (by rfl) (by kernel_rfl) fun g F hg hF => ?_
  cbv
  repeat' (first | (refine callB hg (spec_l01In_r _ _ _) rfl (fun R0 hR0 => ?_); cases R0 <;> cbv) | (refine callBP hg (spec_l01In_r _ _ _) rfl (fun R0 hR0 => ?_); cases R0 <;> cbv) | (refine callB hg (spec_l06Size_a _ _) rfl (fun R0 hR0 => ?_); cases R0 <;> cbv) | (refine callBP hg (spec_l06Size_a _ _) rfl (fun R0 hR0 => ?_); cases R0 <;> cbv) | (refine callB hg (spec_SidesOk_a (⟨⟨a26, a27⟩, ⟨a28, a29⟩, ⟨a30, a31⟩, ⟨a32, a33⟩, ⟨a34, a35⟩, ⟨a36, a37⟩⟩ : GSides)) rfl (fun R0 hR0 => ?_); cases R0 <;> cbv) | (refine callBP hg (spec_SidesOk_a (⟨⟨a26, a27⟩, ⟨a28, a29⟩, ⟨a30, a31⟩, ⟨a32, a33⟩, ⟨a34, a35⟩, ⟨a36, a37⟩⟩ : GSides)) rfl (fun R0 hR0 => ?_); cases R0 <;> cbv) | (refine callB hg (spec_SidesOk_a (⟨⟨a38, a39⟩, ⟨a40, a41⟩, ⟨a42, a43⟩, ⟨a44, a45⟩, ⟨a46, a47⟩, ⟨a48, a49⟩⟩ : GSides)) rfl (fun R0 hR0 => ?_); cases R0 <;> cbv) | (refine callBP hg (spec_SidesOk_a (⟨⟨a38, a39⟩, ⟨a40, a41⟩, ⟨a42, a43⟩, ⟨a44, a45⟩, ⟨a46, a47⟩, ⟨a48, a49⟩⟩ : GSides)) rfl (fun R0 hR0 => ?_); cases R0 <;> cbv) | (refine callB hg (spec_EdgesOk_a (⟨a50, a51, a52, a53⟩ : GEdges)) rfl (fun R0 hR0 => ?_); cases R0 <;> cbv) | (refine callBP hg (spec_EdgesOk_a (⟨a50, a51, a52, a53⟩ : GEdges)) rfl (fun R0 hR0 => ?_); cases R0 <;> cbv) | (refine callB hg (spec_EdgesOk_a (⟨a54, a55, a56, a57⟩ : GEdges)) rfl (fun R0 hR0 => ?_); cases R0 <;> cbv) | (refine callBP hg (spec_EdgesOk_a (⟨a54, a55, a56, a57⟩ : GEdges)) rfl (fun R0 hR0 => ?_); cases R0 <;> cbv) | (split <;> rename_i hh <;> (try rw [hh]) <;> (try simp only [goLss hg, goLeq hg, goGtr hg, goGeq hg, goEql hg, goNeq hg, goEqlB hg, goNeqB hg, goAdd hg, goSub hg, goMul hg, goQuo hg, goRem hg, goNg hg, goMn hg, goMx hg, beq_iff_eq, bne_iff_ne, beq_eq_false_iff_ne, bne_eq_false_iff_eq, decide_eq_true_eq, decide_eq_false_iff_not, ne_eq, Decidable.not_not] at hh) <;> cbv))
  all_goals exact fin0b hF (by clear hF; simp only [stOk, stN, stV, List.all_cons, List.all_nil]; simp_all)
theorem lt_via7 {a b z : Int} (h : a = b) (hz : z < a) : z < b := h ▸ hz
theorem all_to {xs : List GVal} {z M : Int} (hM : M = (xs.length : Int)) (hz : M ≤ z) (h : ∀ (i : Nat) (v : GVal), i < z.toNat → xs[i]? = some v → zOk v = true) : xs.all zOk = true := by
  rw [List.all_eq_true]
  exact all_upto hM hz h
theorem all_no {xs : List GVal} {i : Nat} {v : GVal} (h : xs[i]? = some v) (hv : zOk v = false) : xs.all zOk = false := by
  rw [List.all_eq_false]
  exact ⟨v, List.mem_of_getElem? h, by rw [hv]; decide⟩
set_option maxHeartbeats 8000000 in
theorem impl_StyleOk_a (s : GStyle) : PCon Tryz.prog 86 [.agg (lc (GStyle.c s))] fun res rows => res = .t (abl (stOk s)) ∧ rows = [] := by
  obtain ⟨W, hW⟩ : ∃ W, W = stV s := ⟨_, rfl⟩
  have hWl : (7 : Int) = (W.length : Int) := by rw [hW]; rfl
  obtain ⟨V, hV⟩ : ∃ V, V = vw GVal.c W := ⟨_, rfl⟩
  have kV : ∀ y ∈ V, y.length = 2 := by rw [hV]; exact vw_k (c := GVal.c) (k := 2) fun _ => rfl
  have pV : plainE V = true := by rw [hV]; exact vw_plain _ _
  have hVl : lenI V = 7 := by rw [lenI_eq, hV, vw_length, ← hWl]
  obtain ⟨a0, a1, a2, a3, a4, a5, a6, a7, a8, a9, a10, ⟨a11, a12⟩, ⟨a13, a14⟩, ⟨a15, a16⟩, ⟨a17, a18⟩, ⟨a19, a20⟩, ⟨a21, a22⟩, ⟨a23, a24⟩, a25, ⟨⟨a26, a27⟩, ⟨a28, a29⟩, ⟨a30, a31⟩, ⟨a32, a33⟩, ⟨a34, a35⟩, ⟨a36, a37⟩⟩, ⟨⟨a38, a39⟩, ⟨a40, a41⟩, ⟨a42, a43⟩, ⟨a44, a45⟩, ⟨a46, a47⟩, ⟨a48, a49⟩⟩, ⟨a50, a51, a52, a53⟩, ⟨a54, a55, a56, a57⟩, a58, a59⟩ := s
  have hVL : V = [[.imm (.int .i64 a11), .imm (.int .i64 a12)], [.imm (.int .i64 a13), .imm (.int .i64 a14)], [.imm (.int .i64 a15), .imm (.int .i64 a16)], [.imm (.int .i64 a17), .imm (.int .i64 a18)], [.imm (.int .i64 a19), .imm (.int .i64 a20)], [.imm (.int .i64 a21), .imm (.int .i64 a22)], [.imm (.int .i64 a23), .imm (.int .i64 a24)]] := by rw [hV, hW]; rfl
  refine pcon_run (c := body Tryz.f86) fits Tryz.func86 (by kernel_rfl) (by kernel_rfl) (by rfl) (by kernel_rfl) fun g F hg hF => ?_
  cbv
  repeat' (first | (refine callB hg (impl_in_r _ _ _) rfl (fun R0 hR0 => ?_); cases R0 <;> cbv) | (refine callBP hg (impl_in_r _ _ _) rfl (fun R0 hR0 => ?_); cases R0 <;> cbv))
  all_goals (try exact fin0b hF (by clear hF; simp only [stOk, stN]; simp_all))
  have hN : stN ⟨a0, a1, a2, a3, a4, a5, a6, a7, a8, a9, a10, ⟨a11, a12⟩, ⟨a13, a14⟩, ⟨a15, a16⟩, ⟨a17, a18⟩, ⟨a19, a20⟩, ⟨a21, a22⟩, ⟨a23, a24⟩, a25, ⟨⟨a26, a27⟩, ⟨a28, a29⟩, ⟨a30, a31⟩, ⟨a32, a33⟩, ⟨a34, a35⟩, ⟨a36, a37⟩⟩, ⟨⟨a38, a39⟩, ⟨a40, a41⟩, ⟨a42, a43⟩, ⟨a44, a45⟩, ⟨a46, a47⟩, ⟨a48, a49⟩⟩, ⟨a50, a51, a52, a53⟩, ⟨a54, a55, a56, a57⟩, a58, a59⟩ = true := by clear hF; simp only [stN]; simp_all
  have hOk : stOk ⟨a0, a1, a2, a3, a4, a5, a6, a7, a8, a9, a10, ⟨a11, a12⟩, ⟨a13, a14⟩, ⟨a15, a16⟩, ⟨a17, a18⟩, ⟨a19, a20⟩, ⟨a21, a22⟩, ⟨a23, a24⟩, a25, ⟨⟨a26, a27⟩, ⟨a28, a29⟩, ⟨a30, a31⟩, ⟨a32, a33⟩, ⟨a34, a35⟩, ⟨a36, a37⟩⟩, ⟨⟨a38, a39⟩, ⟨a40, a41⟩, ⟨a42, a43⟩, ⟨a44, a45⟩, ⟨a46, a47⟩, ⟨a48, a49⟩⟩, ⟨a50, a51, a52, a53⟩, ⟨a54, a55, a56, a57⟩, a58, a59⟩ = (W.all zOk && (sdOk ⟨⟨a26, a27⟩, ⟨a28, a29⟩, ⟨a30, a31⟩, ⟨a32, a33⟩, ⟨a34, a35⟩, ⟨a36, a37⟩⟩ && (sdOk ⟨⟨a38, a39⟩, ⟨a40, a41⟩, ⟨a42, a43⟩, ⟨a44, a45⟩, ⟨a46, a47⟩, ⟨a48, a49⟩⟩ && (edOk ⟨a50, a51, a52, a53⟩ && edOk ⟨a54, a55, a56, a57⟩)))) := by rw [stOk, hN, hW]; rfl
  rw [hOk] at hF
  clear hN hOk
  rw [← hVL]
  refine loop_run hg fits (by kernel_rfl) (fun z : Int => [(1, .t (.c (.ptr 0 0 0))), (87, .t (.c (.own 1))), (88, .t (ai (g .ln V))), (89, .t (ai z))]) (fun _ => [.bx 59 60 (lc (GStyle.c ⟨a0, a1, a2, a3, a4, a5, a6, a7, a8, a9, a10, ⟨a11, a12⟩, ⟨a13, a14⟩, ⟨a15, a16⟩, ⟨a17, a18⟩, ⟨a19, a20⟩, ⟨a21, a22⟩, ⟨a23, a24⟩, a25, ⟨⟨a26, a27⟩, ⟨a28, a29⟩, ⟨a30, a31⟩, ⟨a32, a33⟩, ⟨a34, a35⟩, ⟨a36, a37⟩⟩, ⟨⟨a38, a39⟩, ⟨a40, a41⟩, ⟨a42, a43⟩, ⟨a44, a45⟩, ⟨a46, a47⟩, ⟨a48, a49⟩⟩, ⟨a50, a51, a52, a53⟩, ⟨a54, a55, a56, a57⟩, a58, a59⟩)), .rw ⟨54, 2, V⟩]) (fun z => 0 ≤ z ∧ z ≤ 7 ∧ ∀ (i : Nat) (v : GVal), i < z.toNat → W[i]? = some v → zOk v = true) (fun z => (7 : Int).toNat - z.toNat)
    0 [some 0, some 1] ⟨Int.le_refl 0, by omega, fun i v hi => by simp at hi⟩ (wkS [0, 1] (by decide) ⟨⟨_, rfl, rfl, rfl⟩, ⟨_, rfl, rfl, pV⟩, trivial⟩ ⟨rfl, rfl, rfl, rfl, trivial⟩) (fun z B hs hB => ?_)
  obtain ⟨h0, h1, h2⟩ := hs
  cbv
  cases hc : g .q .lss z (g .ln V)
  · rw [goLss hg, goLn hg, hVl, decide_eq_false_iff_not] at hc
    have hall := all_to hWl (by omega) h2
    cbv
    repeat' (first | (refine callB hg (impl_SidesOk_a (⟨⟨a26, a27⟩, ⟨a28, a29⟩, ⟨a30, a31⟩, ⟨a32, a33⟩, ⟨a34, a35⟩, ⟨a36, a37⟩⟩ : GSides)) rfl (fun R0 hR0 => ?_); cases R0 <;> cbv) | (refine callBP hg (impl_SidesOk_a (⟨⟨a26, a27⟩, ⟨a28, a29⟩, ⟨a30, a31⟩, ⟨a32, a33⟩, ⟨a34, a35⟩, ⟨a36, a37⟩⟩ : GSides)) rfl (fun R0 hR0 => ?_); cases R0 <;> cbv) | (refine callB hg (impl_SidesOk_a (⟨⟨a38, a39⟩, ⟨a40, a41⟩, ⟨a42, a43⟩, ⟨a44, a45⟩, ⟨a46, a47⟩, ⟨a48, a49⟩⟩ : GSides)) rfl (fun R0 hR0 => ?_); cases R0 <;> cbv) | (refine callBP hg (impl_SidesOk_a (⟨⟨a38, a39⟩, ⟨a40, a41⟩, ⟨a42, a43⟩, ⟨a44, a45⟩, ⟨a46, a47⟩, ⟨a48, a49⟩⟩ : GSides)) rfl (fun R0 hR0 => ?_); cases R0 <;> cbv) | (refine callB hg (impl_EdgesOk_a (⟨a50, a51, a52, a53⟩ : GEdges)) rfl (fun R0 hR0 => ?_); cases R0 <;> cbv) | (refine callBP hg (impl_EdgesOk_a (⟨a50, a51, a52, a53⟩ : GEdges)) rfl (fun R0 hR0 => ?_); cases R0 <;> cbv) | (refine callB hg (impl_EdgesOk_a (⟨a54, a55, a56, a57⟩ : GEdges)) rfl (fun R0 hR0 => ?_); cases R0 <;> cbv) | (refine callBP hg (impl_EdgesOk_a (⟨a54, a55, a56, a57⟩ : GEdges)) rfl (fun R0 hR0 => ?_); cases R0 <;> cbv))
    all_goals exact fin0b hF (by clear hF; simp_all)
  · rw [goLss hg, goLn hg, hVl, decide_eq_true_eq] at hc
    cbv
    obtain ⟨x, hx⟩ := at_z (xs := W) h0 (lt_via7 hWl hc)
    have hyy : V[z.toNat]? = some (lc (GVal.c x)) := by rw [hV]; exact vw_at hx
    obtain ⟨j, hj⟩ : ∃ j, j = z.toNat := ⟨_, rfl⟩
    obtain ⟨x0, x1⟩ := x
    refine goYk hg h0 hj (lt_lenJ h0 (by rw [hVl]; exact hc) hj) ?_
    cbv
    rw [← hj] at hyy
    refine ⟨_, hyy, ?_⟩
    cbv
    refine callB hg (impl_sizeOk_a x0 x1) rfl (fun R hR => ?_)
    cases R
    · cbv
      exact fin0b hF (by rw [all_no hx hR.symm]; rfl)
    · cbv
      have e1 : g .w .add .i64 z 1 = z + 1 := by rw [goAdd hg, wrap_small _ (by omega)]
      rw [e1]
      refine back hB (z + 1) [some 0, some 1] (wkS [0, 1] (by decide) ⟨⟨_, rfl, rfl, rfl⟩, ⟨_, rfl, rfl, pV⟩, trivial⟩ ⟨rfl, rfl, rfl, rfl, trivial⟩) ⟨by omega, by omega, fun i v hi hv => ?_⟩ (by omega)
      by_cases hi2 : i < z.toNat
      · exact h2 i v hi2 hv
      · rw [show i = z.toNat by omega, hx] at hv
        cases hv
        exact hR.symm
end Go.Proofs.YtenbloaopcfdlaaGreat
