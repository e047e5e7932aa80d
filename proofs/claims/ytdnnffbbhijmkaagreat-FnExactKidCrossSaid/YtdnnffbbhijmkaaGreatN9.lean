/- Boxes that are placed apart: their margins, insets, spaces. -/
import Derived.Test.YtdnnffbbhijmkaaGreatC11
import Derived.Test.YtdnnffbbhijmkaaGreatN4
import Derived.Test.YtdnnffbbhijmkaaGreatAmAE
namespace Go.Proofs.YtdnnffbbhijmkaaGreat
open Go.ChangeShapes Go.WideShapes Go.ChangeAt Go.RowKit Am
set_option linter.unusedVariables false
set_option linter.unusedSimpArgs false
set_option maxRecDepth 100000

def marN (s : GSides) (sd : Int) (rtl : Bool) (base : Int) : Int := if kn (sideV s sd rtl) base = false then 0 else sg (lenV (sideV s sd rtl) base)
def innS (s : GSpace) (less : Int) : GSpace := if s.mode = 1 then s else ⟨s.mode, cl (wrap64 (cl s.n - cl less))⟩
def ratS (s : GStyle) (w : Bool) (o : Int) : Int := if s.ratio ≤ 0 ∨ o < 0 then -1 else if w then cl (fdv (wrap64 (cl o * cl s.ratio)) 64) else cl (fdv (wrap64 (cl o * 64)) (cl s.ratio))
def marS (s : GStyle) (w rtl : Bool) (base : Int) : Int := if w then wrap64 (marN s.margin 0 rtl base + marN s.margin 2 rtl base) else wrap64 (marN s.margin 1 rtl base + marN s.margin 3 rtl base)
def betN (s : GStyle) (a b : Int) (rtl : Bool) (base mb : Int) : Int := if insB s a rtl base = false ∨ insB s b rtl base = false then -1 else cl (wrap64 (base - insN s a rtl base - insN s b rtl base - marN s.margin a rtl mb - marN s.margin b rtl mb))
def knoN (s : GStyle) (w rtl : Bool) (base mb : Int) : Int := if fixO s w base = -1 then (if w then betN s 0 2 rtl base mb else betN s 1 3 rtl base mb) else fixO s w base
def rooS (s : GStyle) (w : Bool) (base n m : Int) : GSpace := if n = -1 then innS ⟨2, base⟩ m else ⟨3, bndO s w base n⟩
def apW (s : GStyle) (rtl : Bool) (wide high : Int) : Int := if knoN s true rtl wide wide = -1 then ratS s true (knoN s false rtl high wide) else knoN s true rtl wide wide
def apH (s : GStyle) (rtl : Bool) (wide high : Int) : Int := if knoN s false rtl high wide = -1 then ratS s false (apW s rtl wide high) else knoN s false rtl high wide
def apX (s : GStyle) (rtl : Bool) (wide high : Int) : GSpace := rooS s true wide (apW s rtl wide high) (marS s true rtl wide)
def apY (s : GStyle) (rtl : Bool) (wide high : Int) : GSpace := rooS s false high (apH s rtl wide high) (marS s false rtl wide)
/-- A box apart: its parent's style, its own, and what else it holds. -/
def apC (p s : GStyle) (rtl : Bool) (wide high : Int) : List AC := lc (GStyle.c p) ++ (lc (GStyle.c s) ++ [.imm (.bool rtl), .imm (.int .i64 wide), .imm (.int .i64 high)])
theorem wrap_bet (a b c d e : Int) : wrap64 (wrap64 (wrap64 (wrap64 (a - b) - c) - d) - e) = wrap64 (a - b - c - d - e) := by unfold wrap64; omega
theorem wrap_bet2 (a b c d e : Int) : wrap64 (wrap64 (wrap64 (a - b) - c) - wrap64 (d + e)) = wrap64 (a - b - c - d - e) := by
  unfold wrap64; omega
set_option maxHeartbeats 4000000 in
theorem spec_MarginOf_a (s : GSides) (sd : Int) (rtl : Bool) (base : Int) : PCon Tryz.prog 197 [.agg (lc (GSides.c s)), ai sd, abl rtl, ai base] fun res rows => res = .t (ai (marN s sd rtl base)) ∧ rows = [] := by
  obtain ⟨⟨a0, a1⟩, ⟨a2, a3⟩, ⟨a4, a5⟩, ⟨a6, a7⟩, ⟨a8, a9⟩, ⟨a10, a11⟩⟩ := s
  refine pcon_run (c := body Tryz.f197) fits Tryz.func197 (by kernel_rfl) (by kernel_rfl) (by rfl) (by kernel_rfl) fun g F hg hF => ?_
  cbv
  repeat' (first | (refine callV hg (spec_SideOf_a (⟨⟨a0, a1⟩, ⟨a2, a3⟩, ⟨a4, a5⟩, ⟨a6, a7⟩, ⟨a8, a9⟩, ⟨a10, a11⟩⟩ : GSides) _ _) rfl (fun R0 R1 hR0 hR1 => ?_); cbv) | (refine callVP hg (spec_SideOf_a (⟨⟨a0, a1⟩, ⟨a2, a3⟩, ⟨a4, a5⟩, ⟨a6, a7⟩, ⟨a8, a9⟩, ⟨a10, a11⟩⟩ : GSides) _ _) rfl (fun R0 R1 hR0 hR1 => ?_); cbv) | (refine callB hg (spec_Known_a _ _ _) rfl (fun R0 hR0 => ?_); cases R0 <;> cbv) | (refine callBP hg (spec_Known_a _ _ _) rfl (fun R0 hR0 => ?_); cases R0 <;> cbv) | (refine callI hg (spec_LengthOf_a _ _ _) rfl (fun R0 hR0 => ?_); cbv) | (refine callIP hg (spec_LengthOf_a _ _ _) rfl (fun R0 hR0 => ?_); cbv) | (refine callI hg (spec_l02Len_a _) rfl (fun R0 hR0 => ?_); cbv) | (refine callIP hg (spec_l02Len_a _) rfl (fun R0 hR0 => ?_); cbv) | (split <;> rename_i hh <;> (try rw [hh]) <;> (try simp only [goLss hg, goLeq hg, goGtr hg, goGeq hg, goEql hg, goNeq hg, goEqlB hg, goNeqB hg, goAdd hg, goSub hg, goMul hg, goQuo hg, goRem hg, goNg hg, goMn hg, goMx hg, beq_iff_eq, bne_iff_ne, beq_eq_false_iff_ne, bne_eq_false_iff_eq, decide_eq_true_eq, decide_eq_false_iff_not, ne_eq, Decidable.not_not] at hh) <;> cbv))
  all_goals exact fin0i hF (by simp only [marN]; subst_vars; simp_all)
set_option maxHeartbeats 4000000 in
theorem impl_MarginOf_a (s : GSides) (sd : Int) (rtl : Bool) (base : Int) : PCon Tryz.prog 217 [.agg (lc (GSides.c s)), ai sd, abl rtl, ai base] fun res rows => res = .t (ai (marN s sd rtl base)) ∧ rows = [] := by
  obtain ⟨⟨a0, a1⟩, ⟨a2, a3⟩, ⟨a4, a5⟩, ⟨a6, a7⟩, ⟨a8, a9⟩, ⟨a10, a11⟩⟩ := s
  refine pcon_run (c := body Tryz.f217) fits Tryz.func217 (by kernel_rfl) (by kernel_rfl) (by rfl) (by kernel_rfl) fun g F hg hF => ?_
  cbv
  repeat' (first | (refine callV hg (impl_SideOf_a (⟨⟨a0, a1⟩, ⟨a2, a3⟩, ⟨a4, a5⟩, ⟨a6, a7⟩, ⟨a8, a9⟩, ⟨a10, a11⟩⟩ : GSides) _ _) rfl (fun R0 R1 hR0 hR1 => ?_); cbv) | (refine callVP hg (impl_SideOf_a (⟨⟨a0, a1⟩, ⟨a2, a3⟩, ⟨a4, a5⟩, ⟨a6, a7⟩, ⟨a8, a9⟩, ⟨a10, a11⟩⟩ : GSides) _ _) rfl (fun R0 R1 hR0 hR1 => ?_); cbv) | (refine callB hg (impl_Known_a _ _ _) rfl (fun R0 hR0 => ?_); cases R0 <;> cbv) | (refine callBP hg (impl_Known_a _ _ _) rfl (fun R0 hR0 => ?_); cases R0 <;> cbv) | (refine callI hg (impl_LengthOf_a _ _ _) rfl (fun R0 hR0 => ?_); cbv) | (refine callIP hg (impl_LengthOf_a _ _ _) rfl (fun R0 hR0 => ?_); cbv) | (refine callI hg (impl_signed_a _) rfl (fun R0 hR0 => ?_); cbv) | (refine callIP hg (impl_signed_a _) rfl (fun R0 hR0 => ?_); cbv) | (split <;> rename_i hh <;> (try rw [hh]) <;> (try simp only [goLss hg, goLeq hg, goGtr hg, goGeq hg, goEql hg, goNeq hg, goEqlB hg, goNeqB hg, goAdd hg, goSub hg, goMul hg, goQuo hg, goRem hg, goNg hg, goMn hg, goMx hg, beq_iff_eq, bne_iff_ne, beq_eq_false_iff_ne, bne_eq_false_iff_eq, decide_eq_true_eq, decide_eq_false_iff_not, ne_eq, Decidable.not_not] at hh) <;> cbv))
  all_goals exact fin0i hF (by simp only [marN]; subst_vars; simp_all)
set_option maxHeartbeats 4000000 in
theorem spec_InnerOf_a (m n less : Int) : PCon Tryz.prog 116 [.agg [.imm (.int .i64 m), .imm (.int .i64 n)], ai less] fun res rows => res = .t (agP (innS ⟨m, n⟩ less)) ∧ rows = [] := by
  refine pcon_run (c := body Tryz.f116) fits Tryz.func116 (by kernel_rfl) (by kernel_rfl) (by rfl) (by kernel_rfl) fun g F hg hF => ?_
  cbv
  repeat' (first | (refine callI hg (spec_Clamped_a _) rfl (fun R0 hR0 => ?_); cbv) | (refine callIP hg (spec_Clamped_a _) rfl (fun R0 hR0 => ?_); cbv) | (split <;> rename_i hh <;> (try rw [hh]) <;> (try simp only [goLss hg, goLeq hg, goGtr hg, goGeq hg, goEql hg, goNeq hg, goEqlB hg, goNeqB hg, goAdd hg, goSub hg, goMul hg, goQuo hg, goRem hg, goNg hg, goMn hg, goMx hg, beq_iff_eq, bne_iff_ne, beq_eq_false_iff_ne, bne_eq_false_iff_eq, decide_eq_true_eq, decide_eq_false_iff_not, ne_eq, Decidable.not_not] at hh) <;> cbv))
  all_goals exact fin0v hF (by simp only [innS, (goSub hg)] at *; subst_vars; simp_all)
set_option maxHeartbeats 4000000 in
theorem impl_InnerOf_a (m n less : Int) : PCon Tryz.prog 133 [.agg [.imm (.int .i64 m), .imm (.int .i64 n)], ai less] fun res rows => res = .t (agP (innS ⟨m, n⟩ less)) ∧ rows = [] := by
  refine pcon_run (c := body Tryz.f133) fits Tryz.func133 (by kernel_rfl) (by kernel_rfl) (by rfl) (by kernel_rfl) fun g F hg hF => ?_
  cbv
  repeat' (first | (refine callI hg (impl_Clamped_a _) rfl (fun R0 hR0 => ?_); cbv) | (refine callIP hg (impl_Clamped_a _) rfl (fun R0 hR0 => ?_); cbv) | (split <;> rename_i hh <;> (try rw [hh]) <;> (try simp only [goLss hg, goLeq hg, goGtr hg, goGeq hg, goEql hg, goNeq hg, goEqlB hg, goNeqB hg, goAdd hg, goSub hg, goMul hg, goQuo hg, goRem hg, goNg hg, goMn hg, goMx hg, beq_iff_eq, bne_iff_ne, beq_eq_false_iff_ne, bne_eq_false_iff_eq, decide_eq_true_eq, decide_eq_false_iff_not, ne_eq, Decidable.not_not] at hh) <;> cbv))
  all_goals exact fin0v hF (by simp only [innS, (goSub hg)] at *; subst_vars; simp_all)
set_option maxHeartbeats 4000000 in
theorem spec_ByRatio_a (s : GStyle) (w : Bool) (o : Int) : PCon Tryz.prog 141 [.agg (lc (GStyle.c s)), abl w, ai o] fun res rows => res = .t (ai (ratS s w o)) ∧ rows = [] := by
  obtain ⟨a0, a1, a2, a3, a4, a5, a6, a7, a8, a9, a10, ⟨a11, a12⟩, ⟨a13, a14⟩, ⟨a15, a16⟩, ⟨a17, a18⟩, ⟨a19, a20⟩, ⟨a21, a22⟩, ⟨a23, a24⟩, a25, ⟨⟨a26, a27⟩, ⟨a28, a29⟩, ⟨a30, a31⟩, ⟨a32, a33⟩, ⟨a34, a35⟩, ⟨a36, a37⟩⟩, ⟨⟨a38, a39⟩, ⟨a40, a41⟩, ⟨a42, a43⟩, ⟨a44, a45⟩, ⟨a46, a47⟩, ⟨a48, a49⟩⟩, ⟨a50, a51, a52, a53⟩, ⟨a54, a55, a56, a57⟩, a58, a59⟩ := s
  cases w <;> (refine pcon_run (c := body Tryz.f141) fits Tryz.func141 (by kernel_rfl) (by kernel_rfl) (by rfl) (by kernel_rfl) fun g F hg hF => ?_; cbv; repeat' (first | (refine callI hg (spec_Clamped_a _) rfl (fun R0 hR0 => ?_); cbv) | (refine callIP hg (spec_Clamped_a _) rfl (fun R0 hR0 => ?_); cbv) | (refine callI hg (spec_FloorDiv_a _ _) rfl (fun R0 hR0 => ?_); cbv) | (refine callIP hg (spec_FloorDiv_a _ _) rfl (fun R0 hR0 => ?_); cbv) | (split <;> rename_i hh <;> (try rw [hh]) <;> (try simp only [goLss hg, goLeq hg, goGtr hg, goGeq hg, goEql hg, goNeq hg, goEqlB hg, goNeqB hg, goAdd hg, goSub hg, goMul hg, goQuo hg, goRem hg, goNg hg, goMn hg, goMx hg, beq_iff_eq, bne_iff_ne, beq_eq_false_iff_ne, bne_eq_false_iff_eq, decide_eq_true_eq, decide_eq_false_iff_not, ne_eq, Decidable.not_not] at hh) <;> cbv)))
  all_goals exact fin0i hF (by simp only [ratS, (goMul hg)] at *; subst_vars; (try simp_all); (try (intro hx; omega)))
set_option maxHeartbeats 4000000 in
theorem impl_ByRatio_a (s : GStyle) (w : Bool) (o : Int) : PCon Tryz.prog 144 [.agg (lc (GStyle.c s)), abl w, ai o] fun res rows => res = .t (ai (ratS s w o)) ∧ rows = [] := by
  obtain ⟨a0, a1, a2, a3, a4, a5, a6, a7, a8, a9, a10, ⟨a11, a12⟩, ⟨a13, a14⟩, ⟨a15, a16⟩, ⟨a17, a18⟩, ⟨a19, a20⟩, ⟨a21, a22⟩, ⟨a23, a24⟩, a25, ⟨⟨a26, a27⟩, ⟨a28, a29⟩, ⟨a30, a31⟩, ⟨a32, a33⟩, ⟨a34, a35⟩, ⟨a36, a37⟩⟩, ⟨⟨a38, a39⟩, ⟨a40, a41⟩, ⟨a42, a43⟩, ⟨a44, a45⟩, ⟨a46, a47⟩, ⟨a48, a49⟩⟩, ⟨a50, a51, a52, a53⟩, ⟨a54, a55, a56, a57⟩, a58, a59⟩ := s
  cases w <;> (refine pcon_run (c := body Tryz.f144) fits Tryz.func144 (by kernel_rfl) (by kernel_rfl) (by rfl) (by kernel_rfl) fun g F hg hF => ?_; cbv; repeat' (first | (refine callI hg (impl_Clamped_a _) rfl (fun R0 hR0 => ?_); cbv) | (refine callIP hg (impl_Clamped_a _) rfl (fun R0 hR0 => ?_); cbv) | (refine callI hg (impl_FloorDiv_a _ _) rfl (fun R0 hR0 => ?_); cbv) | (refine callIP hg (impl_FloorDiv_a _ _) rfl (fun R0 hR0 => ?_); cbv) | (split <;> rename_i hh <;> (try rw [hh]) <;> (try simp only [goLss hg, goLeq hg, goGtr hg, goGeq hg, goEql hg, goNeq hg, goEqlB hg, goNeqB hg, goAdd hg, goSub hg, goMul hg, goQuo hg, goRem hg, goNg hg, goMn hg, goMx hg, beq_iff_eq, bne_iff_ne, beq_eq_false_iff_ne, bne_eq_false_iff_eq, decide_eq_true_eq, decide_eq_false_iff_not, ne_eq, Decidable.not_not] at hh) <;> cbv)))
  all_goals exact fin0i hF (by simp only [ratS, (goMul hg)] at *; subst_vars; (try simp_all); (try (intro hx; omega)))
theorem impl_sizesFit_a (w h : Int) : PCon Tryz.prog 88 [ai w, ai h] fun res rows => res = .t (abl (rng w 0 1048576 && rng h 0 1048576)) ∧ rows = [] := by
  refine pcon_run (c := body Tryz.f88) fits Tryz.func88 (by kernel_rfl) (by kernel_rfl) (by rfl) (by kernel_rfl) fun g F hg hF => ?_
  cbv
  repeat' (first | (refine callB hg (impl_in_r _ _ _) rfl (fun R0 hR0 => ?_); cases R0 <;> cbv) | (refine callBP hg (impl_in_r _ _ _) rfl (fun R0 hR0 => ?_); cases R0 <;> cbv) | (split <;> rename_i hh <;> (try rw [hh]) <;> (try simp only [goLss hg, goLeq hg, goGtr hg, goGeq hg, goEql hg, goNeq hg, goEqlB hg, goNeqB hg, goAdd hg, goSub hg, goMul hg, goQuo hg, goRem hg, goNg hg, goMn hg, goMx hg, beq_iff_eq, bne_iff_ne, beq_eq_false_iff_ne, bne_eq_false_iff_eq, decide_eq_true_eq, decide_eq_false_iff_not, ne_eq, Decidable.not_not] at hh) <;> cbv))
  all_goals exact fin0b hF (by simp_all)
set_option maxHeartbeats 4000000 in
theorem spec_l19Margins_a (s : GStyle) (w rtl : Bool) (base : Int) : PCon Tryz.prog 238 [.agg (lc (GStyle.c s)), abl w, abl rtl, ai base] fun res rows => res = .t (ai (marS s w rtl base)) ∧ rows = [] := by
  obtain ⟨b0, b1, b2, b3, b4, b5, b6, b7, b8, b9, b10, ⟨b11, b12⟩, ⟨b13, b14⟩, ⟨b15, b16⟩, ⟨b17, b18⟩, ⟨b19, b20⟩, ⟨b21, b22⟩, ⟨b23, b24⟩, b25, ⟨⟨b26, b27⟩, ⟨b28, b29⟩, ⟨b30, b31⟩, ⟨b32, b33⟩, ⟨b34, b35⟩, ⟨b36, b37⟩⟩, ⟨⟨b38, b39⟩, ⟨b40, b41⟩, ⟨b42, b43⟩, ⟨b44, b45⟩, ⟨b46, b47⟩, ⟨b48, b49⟩⟩, ⟨b50, b51, b52, b53⟩, ⟨b54, b55, b56, b57⟩, b58, b59⟩ := s
  cases w <;> (refine pcon_run (c := body Tryz.f238) fits Tryz.func238 (by kernel_rfl) (by kernel_rfl) (by rfl) (by kernel_rfl) fun g F hg hF => ?_; cbv; repeat' (first | (refine callI hg (spec_MarginOf_a (⟨⟨b26, b27⟩, ⟨b28, b29⟩, ⟨b30, b31⟩, ⟨b32, b33⟩, ⟨b34, b35⟩, ⟨b36, b37⟩⟩ : GSides) _ _ _) rfl (fun R0 hR0 => ?_); cbv) | (refine callIP hg (spec_MarginOf_a (⟨⟨b26, b27⟩, ⟨b28, b29⟩, ⟨b30, b31⟩, ⟨b32, b33⟩, ⟨b34, b35⟩, ⟨b36, b37⟩⟩ : GSides) _ _ _) rfl (fun R0 hR0 => ?_); cbv) | (split <;> rename_i hh <;> (try rw [hh]) <;> (try simp only [goLss hg, goLeq hg, goGtr hg, goGeq hg, goEql hg, goNeq hg, goEqlB hg, goNeqB hg, goAdd hg, goSub hg, goMul hg, goQuo hg, goRem hg, goNg hg, goMn hg, goMx hg, beq_iff_eq, bne_iff_ne, beq_eq_false_iff_ne, bne_eq_false_iff_eq, decide_eq_true_eq, decide_eq_false_iff_not, ne_eq, Decidable.not_not] at hh) <;> cbv)))
  all_goals exact fin0i hF (by simp only [marS, (goAdd hg)] at *; subst_vars; simp_all)
set_option maxHeartbeats 4000000 in
theorem spec_l19Room_a (s : GStyle) (w : Bool) (base n m : Int) : PCon Tryz.prog 240 [.agg (lc (GStyle.c s)), abl w, ai base, ai n, ai m] fun res rows => res = .t (agP (rooS s w base n m)) ∧ rows = [] := by
  obtain ⟨a0, a1, a2, a3, a4, a5, a6, a7, a8, a9, a10, ⟨a11, a12⟩, ⟨a13, a14⟩, ⟨a15, a16⟩, ⟨a17, a18⟩, ⟨a19, a20⟩, ⟨a21, a22⟩, ⟨a23, a24⟩, a25, ⟨⟨a26, a27⟩, ⟨a28, a29⟩, ⟨a30, a31⟩, ⟨a32, a33⟩, ⟨a34, a35⟩, ⟨a36, a37⟩⟩, ⟨⟨a38, a39⟩, ⟨a40, a41⟩, ⟨a42, a43⟩, ⟨a44, a45⟩, ⟨a46, a47⟩, ⟨a48, a49⟩⟩, ⟨a50, a51, a52, a53⟩, ⟨a54, a55, a56, a57⟩, a58, a59⟩ := s
  refine pcon_run (c := body Tryz.f240) fits Tryz.func240 (by kernel_rfl) (by kernel_rfl) (by rfl) (by kernel_rfl) fun g F hg hF => ?_
  cbv
  repeat' (first | (refine callV hg (spec_InnerOf_a _ _ _) rfl (fun R0 R1 hR0 hR1 => ?_); cbv) | (refine callVP hg (spec_InnerOf_a _ _ _) rfl (fun R0 R1 hR0 hR1 => ?_); cbv) | (refine callI hg (spec_Bounded_a (⟨a0, a1, a2, a3, a4, a5, a6, a7, a8, a9, a10, ⟨a11, a12⟩, ⟨a13, a14⟩, ⟨a15, a16⟩, ⟨a17, a18⟩, ⟨a19, a20⟩, ⟨a21, a22⟩, ⟨a23, a24⟩, a25, ⟨⟨a26, a27⟩, ⟨a28, a29⟩, ⟨a30, a31⟩, ⟨a32, a33⟩, ⟨a34, a35⟩, ⟨a36, a37⟩⟩, ⟨⟨a38, a39⟩, ⟨a40, a41⟩, ⟨a42, a43⟩, ⟨a44, a45⟩, ⟨a46, a47⟩, ⟨a48, a49⟩⟩, ⟨a50, a51, a52, a53⟩, ⟨a54, a55, a56, a57⟩, a58, a59⟩ : GStyle) _ _ _) rfl (fun R0 hR0 => ?_); cbv) | (refine callIP hg (spec_Bounded_a (⟨a0, a1, a2, a3, a4, a5, a6, a7, a8, a9, a10, ⟨a11, a12⟩, ⟨a13, a14⟩, ⟨a15, a16⟩, ⟨a17, a18⟩, ⟨a19, a20⟩, ⟨a21, a22⟩, ⟨a23, a24⟩, a25, ⟨⟨a26, a27⟩, ⟨a28, a29⟩, ⟨a30, a31⟩, ⟨a32, a33⟩, ⟨a34, a35⟩, ⟨a36, a37⟩⟩, ⟨⟨a38, a39⟩, ⟨a40, a41⟩, ⟨a42, a43⟩, ⟨a44, a45⟩, ⟨a46, a47⟩, ⟨a48, a49⟩⟩, ⟨a50, a51, a52, a53⟩, ⟨a54, a55, a56, a57⟩, a58, a59⟩ : GStyle) _ _ _) rfl (fun R0 hR0 => ?_); cbv) | (split <;> rename_i hh <;> (try rw [hh]) <;> (try simp only [goLss hg, goLeq hg, goGtr hg, goGeq hg, goEql hg, goNeq hg, goEqlB hg, goNeqB hg, goAdd hg, goSub hg, goMul hg, goQuo hg, goRem hg, goNg hg, goMn hg, goMx hg, beq_iff_eq, bne_iff_ne, beq_eq_false_iff_ne, bne_eq_false_iff_eq, decide_eq_true_eq, decide_eq_false_iff_not, ne_eq, Decidable.not_not] at hh) <;> cbv))
  all_goals exact fin0v hF (by simp only [rooS]; subst_vars; simp_all)
set_option maxHeartbeats 8000000 in
theorem spec_l19Known_a (p s : GStyle) (w : Bool) (base mb : Int) (rtl : Bool) (M : Int) (hM : M = marS s w rtl mb) : PCon Tryz.prog 239 [.agg (lc (GStyle.c p)), .agg (lc (GStyle.c s)), abl w, ai base, ai M, abl rtl] fun res rows => res = .t (ai (knoN s w rtl base mb)) ∧ rows = [] := by
  obtain ⟨b0, b1, b2, b3, b4, b5, b6, b7, b8, b9, b10, ⟨b11, b12⟩, ⟨b13, b14⟩, ⟨b15, b16⟩, ⟨b17, b18⟩, ⟨b19, b20⟩, ⟨b21, b22⟩, ⟨b23, b24⟩, b25, ⟨⟨b26, b27⟩, ⟨b28, b29⟩, ⟨b30, b31⟩, ⟨b32, b33⟩, ⟨b34, b35⟩, ⟨b36, b37⟩⟩, ⟨⟨b38, b39⟩, ⟨b40, b41⟩, ⟨b42, b43⟩, ⟨b44, b45⟩, ⟨b46, b47⟩, ⟨b48, b49⟩⟩, ⟨b50, b51, b52, b53⟩, ⟨b54, b55, b56, b57⟩, b58, b59⟩ := p
  obtain ⟨a0, a1, a2, a3, a4, a5, a6, a7, a8, a9, a10, ⟨a11, a12⟩, ⟨a13, a14⟩, ⟨a15, a16⟩, ⟨a17, a18⟩, ⟨a19, a20⟩, ⟨a21, a22⟩, ⟨a23, a24⟩, a25, ⟨⟨a26, a27⟩, ⟨a28, a29⟩, ⟨a30, a31⟩, ⟨a32, a33⟩, ⟨a34, a35⟩, ⟨a36, a37⟩⟩, ⟨⟨a38, a39⟩, ⟨a40, a41⟩, ⟨a42, a43⟩, ⟨a44, a45⟩, ⟨a46, a47⟩, ⟨a48, a49⟩⟩, ⟨a50, a51, a52, a53⟩, ⟨a54, a55, a56, a57⟩, a58, a59⟩ := s
  cases w <;> (refine pcon_run (c := body Tryz.f239) fits Tryz.func239 (by kernel_rfl) (by kernel_rfl) (by rfl) (by kernel_rfl) fun g F hg hF => ?_; cbv; repeat' (first | (refine callI hg (spec_FixedOf_a (⟨a0, a1, a2, a3, a4, a5, a6, a7, a8, a9, a10, ⟨a11, a12⟩, ⟨a13, a14⟩, ⟨a15, a16⟩, ⟨a17, a18⟩, ⟨a19, a20⟩, ⟨a21, a22⟩, ⟨a23, a24⟩, a25, ⟨⟨a26, a27⟩, ⟨a28, a29⟩, ⟨a30, a31⟩, ⟨a32, a33⟩, ⟨a34, a35⟩, ⟨a36, a37⟩⟩, ⟨⟨a38, a39⟩, ⟨a40, a41⟩, ⟨a42, a43⟩, ⟨a44, a45⟩, ⟨a46, a47⟩, ⟨a48, a49⟩⟩, ⟨a50, a51, a52, a53⟩, ⟨a54, a55, a56, a57⟩, a58, a59⟩ : GStyle) _ _) rfl (fun R0 hR0 => ?_); cbv) | (refine callIP hg (spec_FixedOf_a (⟨a0, a1, a2, a3, a4, a5, a6, a7, a8, a9, a10, ⟨a11, a12⟩, ⟨a13, a14⟩, ⟨a15, a16⟩, ⟨a17, a18⟩, ⟨a19, a20⟩, ⟨a21, a22⟩, ⟨a23, a24⟩, a25, ⟨⟨a26, a27⟩, ⟨a28, a29⟩, ⟨a30, a31⟩, ⟨a32, a33⟩, ⟨a34, a35⟩, ⟨a36, a37⟩⟩, ⟨⟨a38, a39⟩, ⟨a40, a41⟩, ⟨a42, a43⟩, ⟨a44, a45⟩, ⟨a46, a47⟩, ⟨a48, a49⟩⟩, ⟨a50, a51, a52, a53⟩, ⟨a54, a55, a56, a57⟩, a58, a59⟩ : GStyle) _ _) rfl (fun R0 hR0 => ?_); cbv) | (refine callQ hg (spec_InsetOf_a (⟨a0, a1, a2, a3, a4, a5, a6, a7, a8, a9, a10, ⟨a11, a12⟩, ⟨a13, a14⟩, ⟨a15, a16⟩, ⟨a17, a18⟩, ⟨a19, a20⟩, ⟨a21, a22⟩, ⟨a23, a24⟩, a25, ⟨⟨a26, a27⟩, ⟨a28, a29⟩, ⟨a30, a31⟩, ⟨a32, a33⟩, ⟨a34, a35⟩, ⟨a36, a37⟩⟩, ⟨⟨a38, a39⟩, ⟨a40, a41⟩, ⟨a42, a43⟩, ⟨a44, a45⟩, ⟨a46, a47⟩, ⟨a48, a49⟩⟩, ⟨a50, a51, a52, a53⟩, ⟨a54, a55, a56, a57⟩, a58, a59⟩ : GStyle) _ _ _) rfl (fun R0 R1 hR0 hR1 => ?_); cases R1 <;> cbv) | (refine callQP hg (spec_InsetOf_a (⟨a0, a1, a2, a3, a4, a5, a6, a7, a8, a9, a10, ⟨a11, a12⟩, ⟨a13, a14⟩, ⟨a15, a16⟩, ⟨a17, a18⟩, ⟨a19, a20⟩, ⟨a21, a22⟩, ⟨a23, a24⟩, a25, ⟨⟨a26, a27⟩, ⟨a28, a29⟩, ⟨a30, a31⟩, ⟨a32, a33⟩, ⟨a34, a35⟩, ⟨a36, a37⟩⟩, ⟨⟨a38, a39⟩, ⟨a40, a41⟩, ⟨a42, a43⟩, ⟨a44, a45⟩, ⟨a46, a47⟩, ⟨a48, a49⟩⟩, ⟨a50, a51, a52, a53⟩, ⟨a54, a55, a56, a57⟩, a58, a59⟩ : GStyle) _ _ _) rfl (fun R0 R1 hR0 hR1 => ?_); cases R1 <;> cbv) | (refine callI hg (spec_Clamped_a _) rfl (fun R0 hR0 => ?_); cbv) | (refine callIP hg (spec_Clamped_a _) rfl (fun R0 hR0 => ?_); cbv) | (split <;> rename_i hh <;> (try rw [hh]) <;> (try simp only [goLss hg, goLeq hg, goGtr hg, goGeq hg, goEql hg, goNeq hg, goEqlB hg, goNeqB hg, goAdd hg, goSub hg, goMul hg, goQuo hg, goRem hg, goNg hg, goMn hg, goMx hg, beq_iff_eq, bne_iff_ne, beq_eq_false_iff_ne, bne_eq_false_iff_eq, decide_eq_true_eq, decide_eq_false_iff_not, ne_eq, Decidable.not_not] at hh) <;> cbv)))
  all_goals exact fin0i hF (by simp only [knoN, betN, marS, (goSub hg), Bool.false_eq_true, if_false, if_true] at *; subst_vars; simp_all [wrap_bet2])
set_option maxHeartbeats 4000000 in
theorem apart_margin_a (p s : GStyle) (rtl : Bool) (wide high sd : Int) : PCon Tryz.prog 167 [.agg (apC p s rtl wide high), ai sd] fun res rows => res = .t (ai (marN s.margin sd rtl wide)) ∧ rows = [] := by
  obtain ⟨a0, a1, a2, a3, a4, a5, a6, a7, a8, a9, a10, ⟨a11, a12⟩, ⟨a13, a14⟩, ⟨a15, a16⟩, ⟨a17, a18⟩, ⟨a19, a20⟩, ⟨a21, a22⟩, ⟨a23, a24⟩, a25, ⟨⟨a26, a27⟩, ⟨a28, a29⟩, ⟨a30, a31⟩, ⟨a32, a33⟩, ⟨a34, a35⟩, ⟨a36, a37⟩⟩, ⟨⟨a38, a39⟩, ⟨a40, a41⟩, ⟨a42, a43⟩, ⟨a44, a45⟩, ⟨a46, a47⟩, ⟨a48, a49⟩⟩, ⟨a50, a51, a52, a53⟩, ⟨a54, a55, a56, a57⟩, a58, a59⟩ := p
  obtain ⟨b0, b1, b2, b3, b4, b5, b6, b7, b8, b9, b10, ⟨b11, b12⟩, ⟨b13, b14⟩, ⟨b15, b16⟩, ⟨b17, b18⟩, ⟨b19, b20⟩, ⟨b21, b22⟩, ⟨b23, b24⟩, b25, ⟨⟨b26, b27⟩, ⟨b28, b29⟩, ⟨b30, b31⟩, ⟨b32, b33⟩, ⟨b34, b35⟩, ⟨b36, b37⟩⟩, ⟨⟨b38, b39⟩, ⟨b40, b41⟩, ⟨b42, b43⟩, ⟨b44, b45⟩, ⟨b46, b47⟩, ⟨b48, b49⟩⟩, ⟨b50, b51, b52, b53⟩, ⟨b54, b55, b56, b57⟩, b58, b59⟩ := s
  refine pcon_run (c := body Tryz.f167) fits Tryz.func167 (by kernel_rfl) (by kernel_rfl) (by rfl) (by kernel_rfl) fun g F hg hF => ?_
  cbv
  repeat' (first | (refine callI hg (impl_MarginOf_a (⟨⟨b26, b27⟩, ⟨b28, b29⟩, ⟨b30, b31⟩, ⟨b32, b33⟩, ⟨b34, b35⟩, ⟨b36, b37⟩⟩ : GSides) _ _ _) rfl (fun R0 hR0 => ?_); cbv) | (refine callIP hg (impl_MarginOf_a (⟨⟨b26, b27⟩, ⟨b28, b29⟩, ⟨b30, b31⟩, ⟨b32, b33⟩, ⟨b34, b35⟩, ⟨b36, b37⟩⟩ : GSides) _ _ _) rfl (fun R0 hR0 => ?_); cbv) | (split <;> rename_i hh <;> (try rw [hh]) <;> (try simp only [goLss hg, goLeq hg, goGtr hg, goGeq hg, goEql hg, goNeq hg, goEqlB hg, goNeqB hg, goAdd hg, goSub hg, goMul hg, goQuo hg, goRem hg, goNg hg, goMn hg, goMx hg, beq_iff_eq, bne_iff_ne, beq_eq_false_iff_ne, bne_eq_false_iff_eq, decide_eq_true_eq, decide_eq_false_iff_not, ne_eq, Decidable.not_not] at hh) <;> cbv))
  all_goals exact fin0i hF (by subst_vars; rfl)
set_option maxHeartbeats 4000000 in
theorem apart_inset_a (p s : GStyle) (rtl : Bool) (wide high sd : Int) (hw : sd = 0 ∨ sd = 2) : PCon Tryz.prog 166 [.agg (apC p s rtl wide high), ai sd] fun res rows => res = .tup [ai (insN s sd rtl wide), abl (insB s sd rtl wide)] ∧ rows = [] := by
  obtain ⟨b0, b1, b2, b3, b4, b5, b6, b7, b8, b9, b10, ⟨b11, b12⟩, ⟨b13, b14⟩, ⟨b15, b16⟩, ⟨b17, b18⟩, ⟨b19, b20⟩, ⟨b21, b22⟩, ⟨b23, b24⟩, b25, ⟨⟨b26, b27⟩, ⟨b28, b29⟩, ⟨b30, b31⟩, ⟨b32, b33⟩, ⟨b34, b35⟩, ⟨b36, b37⟩⟩, ⟨⟨b38, b39⟩, ⟨b40, b41⟩, ⟨b42, b43⟩, ⟨b44, b45⟩, ⟨b46, b47⟩, ⟨b48, b49⟩⟩, ⟨b50, b51, b52, b53⟩, ⟨b54, b55, b56, b57⟩, b58, b59⟩ := p
  obtain ⟨a0, a1, a2, a3, a4, a5, a6, a7, a8, a9, a10, ⟨a11, a12⟩, ⟨a13, a14⟩, ⟨a15, a16⟩, ⟨a17, a18⟩, ⟨a19, a20⟩, ⟨a21, a22⟩, ⟨a23, a24⟩, a25, ⟨⟨a26, a27⟩, ⟨a28, a29⟩, ⟨a30, a31⟩, ⟨a32, a33⟩, ⟨a34, a35⟩, ⟨a36, a37⟩⟩, ⟨⟨a38, a39⟩, ⟨a40, a41⟩, ⟨a42, a43⟩, ⟨a44, a45⟩, ⟨a46, a47⟩, ⟨a48, a49⟩⟩, ⟨a50, a51, a52, a53⟩, ⟨a54, a55, a56, a57⟩, a58, a59⟩ := s
  rcases hw with rfl | rfl <;> (
    refine pcon_run (c := body Tryz.f166) fits Tryz.func166 (by kernel_rfl) (by kernel_rfl) (by rfl) (by kernel_rfl) fun g F hg hF => ?_
    cbv
    (repeat' (first | (refine callQ hg (impl_InsetOf_a (⟨a0, a1, a2, a3, a4, a5, a6, a7, a8, a9, a10, ⟨a11, a12⟩, ⟨a13, a14⟩, ⟨a15, a16⟩, ⟨a17, a18⟩, ⟨a19, a20⟩, ⟨a21, a22⟩, ⟨a23, a24⟩, a25, ⟨⟨a26, a27⟩, ⟨a28, a29⟩, ⟨a30, a31⟩, ⟨a32, a33⟩, ⟨a34, a35⟩, ⟨a36, a37⟩⟩, ⟨⟨a38, a39⟩, ⟨a40, a41⟩, ⟨a42, a43⟩, ⟨a44, a45⟩, ⟨a46, a47⟩, ⟨a48, a49⟩⟩, ⟨a50, a51, a52, a53⟩, ⟨a54, a55, a56, a57⟩, a58, a59⟩ : GStyle) _ _ _) rfl (fun R0 R1 hR0 hR1 => ?_); cbv) | (have e : g .q .eql 0 0 = true := (by rw [goEql hg]; rfl); rw [e]; cbv) | (have e : g .q .eql 2 0 = false := (by rw [goEql hg]; rfl); rw [e]; cbv) | (have e : g .q .eql 2 2 = true := (by rw [goEql hg]; rfl); rw [e]; cbv)))
    all_goals exact fin0q hF (by subst_vars; exact ⟨rfl, rfl⟩))
set_option maxHeartbeats 4000000 in
theorem apart_inset_b (p s : GStyle) (rtl : Bool) (wide high sd : Int) (hw : sd = 1 ∨ sd = 3) : PCon Tryz.prog 166 [.agg (apC p s rtl wide high), ai sd] fun res rows => res = .tup [ai (insN s sd rtl high), abl (insB s sd rtl high)] ∧ rows = [] := by
  obtain ⟨b0, b1, b2, b3, b4, b5, b6, b7, b8, b9, b10, ⟨b11, b12⟩, ⟨b13, b14⟩, ⟨b15, b16⟩, ⟨b17, b18⟩, ⟨b19, b20⟩, ⟨b21, b22⟩, ⟨b23, b24⟩, b25, ⟨⟨b26, b27⟩, ⟨b28, b29⟩, ⟨b30, b31⟩, ⟨b32, b33⟩, ⟨b34, b35⟩, ⟨b36, b37⟩⟩, ⟨⟨b38, b39⟩, ⟨b40, b41⟩, ⟨b42, b43⟩, ⟨b44, b45⟩, ⟨b46, b47⟩, ⟨b48, b49⟩⟩, ⟨b50, b51, b52, b53⟩, ⟨b54, b55, b56, b57⟩, b58, b59⟩ := p
  obtain ⟨a0, a1, a2, a3, a4, a5, a6, a7, a8, a9, a10, ⟨a11, a12⟩, ⟨a13, a14⟩, ⟨a15, a16⟩, ⟨a17, a18⟩, ⟨a19, a20⟩, ⟨a21, a22⟩, ⟨a23, a24⟩, a25, ⟨⟨a26, a27⟩, ⟨a28, a29⟩, ⟨a30, a31⟩, ⟨a32, a33⟩, ⟨a34, a35⟩, ⟨a36, a37⟩⟩, ⟨⟨a38, a39⟩, ⟨a40, a41⟩, ⟨a42, a43⟩, ⟨a44, a45⟩, ⟨a46, a47⟩, ⟨a48, a49⟩⟩, ⟨a50, a51, a52, a53⟩, ⟨a54, a55, a56, a57⟩, a58, a59⟩ := s
  rcases hw with rfl | rfl <;> (
    refine pcon_run (c := body Tryz.f166) fits Tryz.func166 (by kernel_rfl) (by kernel_rfl) (by rfl) (by kernel_rfl) fun g F hg hF => ?_
    cbv
    (repeat' (first | (refine callQ hg (impl_InsetOf_a (⟨a0, a1, a2, a3, a4, a5, a6, a7, a8, a9, a10, ⟨a11, a12⟩, ⟨a13, a14⟩, ⟨a15, a16⟩, ⟨a17, a18⟩, ⟨a19, a20⟩, ⟨a21, a22⟩, ⟨a23, a24⟩, a25, ⟨⟨a26, a27⟩, ⟨a28, a29⟩, ⟨a30, a31⟩, ⟨a32, a33⟩, ⟨a34, a35⟩, ⟨a36, a37⟩⟩, ⟨⟨a38, a39⟩, ⟨a40, a41⟩, ⟨a42, a43⟩, ⟨a44, a45⟩, ⟨a46, a47⟩, ⟨a48, a49⟩⟩, ⟨a50, a51, a52, a53⟩, ⟨a54, a55, a56, a57⟩, a58, a59⟩ : GStyle) _ _ _) rfl (fun R0 R1 hR0 hR1 => ?_); cbv) | (have e : g .q .eql 1 0 = false := (by rw [goEql hg]; rfl); rw [e]; cbv) | (have e : g .q .eql 3 0 = false := (by rw [goEql hg]; rfl); rw [e]; cbv) | (have e : g .q .eql 1 2 = false := (by rw [goEql hg]; rfl); rw [e]; cbv) | (have e : g .q .eql 3 2 = false := (by rw [goEql hg]; rfl); rw [e]; cbv)))
    all_goals exact fin0q hF (by subst_vars; exact ⟨rfl, rfl⟩))
set_option maxHeartbeats 8000000 in
theorem apart_between_a (p s : GStyle) (rtl : Bool) (wide high : Int) : PCon Tryz.prog 244 [.agg (apC p s rtl wide high), ai 0, ai 2, ai wide] fun res rows => res = .t (ai (betN s 0 2 rtl wide wide)) ∧ rows = [] := by
  have c0 := apart_inset_a p s rtl wide high 0 (.inl rfl)
  have c2 := apart_inset_a p s rtl wide high 2 (.inr rfl)
  have m0 := apart_margin_a p s rtl wide high 0
  have m2 := apart_margin_a p s rtl wide high 2
  obtain ⟨a0, a1, a2, a3, a4, a5, a6, a7, a8, a9, a10, ⟨a11, a12⟩, ⟨a13, a14⟩, ⟨a15, a16⟩, ⟨a17, a18⟩, ⟨a19, a20⟩, ⟨a21, a22⟩, ⟨a23, a24⟩, a25, ⟨⟨a26, a27⟩, ⟨a28, a29⟩, ⟨a30, a31⟩, ⟨a32, a33⟩, ⟨a34, a35⟩, ⟨a36, a37⟩⟩, ⟨⟨a38, a39⟩, ⟨a40, a41⟩, ⟨a42, a43⟩, ⟨a44, a45⟩, ⟨a46, a47⟩, ⟨a48, a49⟩⟩, ⟨a50, a51, a52, a53⟩, ⟨a54, a55, a56, a57⟩, a58, a59⟩ := p
  obtain ⟨b0, b1, b2, b3, b4, b5, b6, b7, b8, b9, b10, ⟨b11, b12⟩, ⟨b13, b14⟩, ⟨b15, b16⟩, ⟨b17, b18⟩, ⟨b19, b20⟩, ⟨b21, b22⟩, ⟨b23, b24⟩, b25, ⟨⟨b26, b27⟩, ⟨b28, b29⟩, ⟨b30, b31⟩, ⟨b32, b33⟩, ⟨b34, b35⟩, ⟨b36, b37⟩⟩, ⟨⟨b38, b39⟩, ⟨b40, b41⟩, ⟨b42, b43⟩, ⟨b44, b45⟩, ⟨b46, b47⟩, ⟨b48, b49⟩⟩, ⟨b50, b51, b52, b53⟩, ⟨b54, b55, b56, b57⟩, b58, b59⟩ := s
  refine pcon_run (c := body Tryz.f244) fits Tryz.func244 (by kernel_rfl) (by kernel_rfl) (by rfl) (by kernel_rfl) fun g F hg hF => ?_
  cbv
  repeat' (first | (refine callQ hg c0 rfl (fun R0 R1 hR0 hR1 => ?_); cases R1 <;> cbv) | (refine callQP hg c0 rfl (fun R0 R1 hR0 hR1 => ?_); cases R1 <;> cbv) | (refine callQ hg c2 rfl (fun R0 R1 hR0 hR1 => ?_); cases R1 <;> cbv) | (refine callQP hg c2 rfl (fun R0 R1 hR0 hR1 => ?_); cases R1 <;> cbv) | (refine callI hg m0 rfl (fun R0 hR0 => ?_); cbv) | (refine callIP hg m0 rfl (fun R0 hR0 => ?_); cbv) | (refine callI hg m2 rfl (fun R0 hR0 => ?_); cbv) | (refine callIP hg m2 rfl (fun R0 hR0 => ?_); cbv) | (refine callI hg (impl_Clamped_a _) rfl (fun R0 hR0 => ?_); cbv) | (refine callIP hg (impl_Clamped_a _) rfl (fun R0 hR0 => ?_); cbv) | (split <;> rename_i hh <;> (try rw [hh]) <;> (try simp only [goLss hg, goLeq hg, goGtr hg, goGeq hg, goEql hg, goNeq hg, goEqlB hg, goNeqB hg, goAdd hg, goSub hg, goMul hg, goQuo hg, goRem hg, goNg hg, goMn hg, goMx hg, beq_iff_eq, bne_iff_ne, beq_eq_false_iff_ne, bne_eq_false_iff_eq, decide_eq_true_eq, decide_eq_false_iff_not, ne_eq, Decidable.not_not] at hh) <;> (first | (exfalso; omega) | cbv)))
  all_goals exact fin0i hF (by simp only [betN, (goSub hg)] at *; subst_vars; simp_all [wrap_bet])
set_option maxHeartbeats 8000000 in
theorem apart_between_b (p s : GStyle) (rtl : Bool) (wide high : Int) : PCon Tryz.prog 244 [.agg (apC p s rtl wide high), ai 1, ai 3, ai high] fun res rows => res = .t (ai (betN s 1 3 rtl high wide)) ∧ rows = [] := by
  have c0 := apart_inset_b p s rtl wide high 1 (.inl rfl)
  have c2 := apart_inset_b p s rtl wide high 3 (.inr rfl)
  have m0 := apart_margin_a p s rtl wide high 1
  have m2 := apart_margin_a p s rtl wide high 3
  obtain ⟨a0, a1, a2, a3, a4, a5, a6, a7, a8, a9, a10, ⟨a11, a12⟩, ⟨a13, a14⟩, ⟨a15, a16⟩, ⟨a17, a18⟩, ⟨a19, a20⟩, ⟨a21, a22⟩, ⟨a23, a24⟩, a25, ⟨⟨a26, a27⟩, ⟨a28, a29⟩, ⟨a30, a31⟩, ⟨a32, a33⟩, ⟨a34, a35⟩, ⟨a36, a37⟩⟩, ⟨⟨a38, a39⟩, ⟨a40, a41⟩, ⟨a42, a43⟩, ⟨a44, a45⟩, ⟨a46, a47⟩, ⟨a48, a49⟩⟩, ⟨a50, a51, a52, a53⟩, ⟨a54, a55, a56, a57⟩, a58, a59⟩ := p
  obtain ⟨b0, b1, b2, b3, b4, b5, b6, b7, b8, b9, b10, ⟨b11, b12⟩, ⟨b13, b14⟩, ⟨b15, b16⟩, ⟨b17, b18⟩, ⟨b19, b20⟩, ⟨b21, b22⟩, ⟨b23, b24⟩, b25, ⟨⟨b26, b27⟩, ⟨b28, b29⟩, ⟨b30, b31⟩, ⟨b32, b33⟩, ⟨b34, b35⟩, ⟨b36, b37⟩⟩, ⟨⟨b38, b39⟩, ⟨b40, b41⟩, ⟨b42, b43⟩, ⟨b44, b45⟩, ⟨b46, b47⟩, ⟨b48, b49⟩⟩, ⟨b50, b51, b52, b53⟩, ⟨b54, b55, b56, b57⟩, b58, b59⟩ := s
  refine pcon_run (c := body Tryz.f244) fits Tryz.func244 (by kernel_rfl) (by kernel_rfl) (by rfl) (by kernel_rfl) fun g F hg hF => ?_
  cbv
  repeat' (first | (refine callQ hg c0 rfl (fun R0 R1 hR0 hR1 => ?_); cases R1 <;> cbv) | (refine callQP hg c0 rfl (fun R0 R1 hR0 hR1 => ?_); cases R1 <;> cbv) | (refine callQ hg c2 rfl (fun R0 R1 hR0 hR1 => ?_); cases R1 <;> cbv) | (refine callQP hg c2 rfl (fun R0 R1 hR0 hR1 => ?_); cases R1 <;> cbv) | (refine callI hg m0 rfl (fun R0 hR0 => ?_); cbv) | (refine callIP hg m0 rfl (fun R0 hR0 => ?_); cbv) | (refine callI hg m2 rfl (fun R0 hR0 => ?_); cbv) | (refine callIP hg m2 rfl (fun R0 hR0 => ?_); cbv) | (refine callI hg (impl_Clamped_a _) rfl (fun R0 hR0 => ?_); cbv) | (refine callIP hg (impl_Clamped_a _) rfl (fun R0 hR0 => ?_); cbv) | (split <;> rename_i hh <;> (try rw [hh]) <;> (try simp only [goLss hg, goLeq hg, goGtr hg, goGeq hg, goEql hg, goNeq hg, goEqlB hg, goNeqB hg, goAdd hg, goSub hg, goMul hg, goQuo hg, goRem hg, goNg hg, goMn hg, goMx hg, beq_iff_eq, bne_iff_ne, beq_eq_false_iff_ne, bne_eq_false_iff_eq, decide_eq_true_eq, decide_eq_false_iff_not, ne_eq, Decidable.not_not] at hh) <;> (first | (exfalso; omega) | cbv)))
  all_goals exact fin0i hF (by simp only [betN, (goSub hg)] at *; subst_vars; simp_all [wrap_bet])
set_option maxHeartbeats 16000000 in
theorem apart_spaces_a (p s : GStyle) (rtl : Bool) (wide high : Int) : PCon Tryz.prog 165 [.agg (apC p s rtl wide high)] fun res rows => res = .tup [agP (apX s rtl wide high), agP (apY s rtl wide high)] ∧ rows = [] := by
  have q0 := apart_between_a p s rtl wide high
  have q1 := apart_between_b p s rtl wide high
  have m0 := apart_margin_a p s rtl wide high 0
  have m1 := apart_margin_a p s rtl wide high 1
  have m2 := apart_margin_a p s rtl wide high 2
  have m3 := apart_margin_a p s rtl wide high 3
  have fw := impl_FixedOf_a s true wide
  have fh := impl_FixedOf_a s false high
  have br := impl_ByRatio_a s
  have bo := impl_Bounded_a s
  refine pcon_run2 [(16, .op 0 (.op 1 (.op 2 (.op 3 .done .none) .none) (.op 2 (.op 1 (.op 3 .done .none) .none) .none)) (.op 1 (.op 0 (.op 2 (.op 3 .done .none) .none) .none) .none))] (c := body Tryz.f165) fits Tryz.func165 (by kernel_rfl) (by kernel_rfl) (by rfl) (by kernel_rfl) fun g F hg hF => ?_
  cbv
  repeat' (first | (refine callI hg fw rfl (fun R0 hR0 => ?_); cbv) | (refine callIP hg fw rfl (fun R0 hR0 => ?_); cbv) | (refine callI hg fh rfl (fun R0 hR0 => ?_); cbv) | (refine callIP hg fh rfl (fun R0 hR0 => ?_); cbv) | (refine callI hg q0 rfl (fun R0 hR0 => ?_); cbv) | (refine callIP hg q0 rfl (fun R0 hR0 => ?_); cbv) | (refine callI hg q1 rfl (fun R0 hR0 => ?_); cbv) | (refine callIP hg q1 rfl (fun R0 hR0 => ?_); cbv) | (refine callI hg (br _ _) rfl (fun R0 hR0 => ?_); cbv) | (refine callIP hg (br _ _) rfl (fun R0 hR0 => ?_); cbv) | (refine callI hg m0 rfl (fun R0 hR0 => ?_); cbv) | (refine callIP hg m0 rfl (fun R0 hR0 => ?_); cbv) | (refine callI hg m1 rfl (fun R0 hR0 => ?_); cbv) | (refine callIP hg m1 rfl (fun R0 hR0 => ?_); cbv) | (refine callI hg m2 rfl (fun R0 hR0 => ?_); cbv) | (refine callIP hg m2 rfl (fun R0 hR0 => ?_); cbv) | (refine callI hg m3 rfl (fun R0 hR0 => ?_); cbv) | (refine callIP hg m3 rfl (fun R0 hR0 => ?_); cbv) | (refine callV hg (impl_InnerOf_a _ _ _) rfl (fun R0 R1 hR0 hR1 => ?_); cbv) | (refine callVP hg (impl_InnerOf_a _ _ _) rfl (fun R0 R1 hR0 hR1 => ?_); cbv) | (refine callI hg (bo _ _ _) rfl (fun R0 hR0 => ?_); cbv) | (refine callIP hg (bo _ _ _) rfl (fun R0 hR0 => ?_); cbv) | (refine callV hg (impl_exactly_a _) rfl (fun R0 R1 hR0 hR1 => ?_); cbv) | (refine callVP hg (impl_exactly_a _) rfl (fun R0 R1 hR0 hR1 => ?_); cbv) | (split <;> rename_i hh <;> (try rw [hh]) <;> (try simp only [goLss hg, goLeq hg, goGtr hg, goGeq hg, goEql hg, goNeq hg, goEqlB hg, goNeqB hg, goAdd hg, goSub hg, goMul hg, goQuo hg, goRem hg, goNg hg, goMn hg, goMx hg, beq_iff_eq, bne_iff_ne, beq_eq_false_iff_ne, bne_eq_false_iff_eq, decide_eq_true_eq, decide_eq_false_iff_not, ne_eq, Decidable.not_not] at hh) <;> (first | (exfalso; omega) | cbv)))
  all_goals (clear q0 q1 m0 m1 m2 m3 fw fh br bo; repeat' (first | exact True.intro | apply And.intro))
  all_goals refine fin0w hF ?_
  all_goals (simp only [(goAdd hg)] at *; clear hF hg; simp only [apX, apY, apW, apH, knoN, rooS, marS]; grind)
set_option maxHeartbeats 16000000 in
theorem spec_l19Spaces_a (p s : GStyle) (wide high : Int) (rtl : Bool) : PCon Tryz.prog 160 [.agg (lc (GStyle.c p)), .agg (lc (GStyle.c s)), ai wide, ai high, abl rtl] fun res rows => res = .tup [agP (apX s rtl (padW p wide) (padH p high)), agP (apY s rtl (padW p wide) (padH p high))] ∧ rows = [] := by
  have cp := spec_PadBox_a p wide high
  have br := spec_ByRatio_a s
  have ro := spec_l19Room_a s
  refine pcon_run (c := body Tryz.f160) fits Tryz.func160 (by kernel_rfl) (by kernel_rfl) (by rfl) (by kernel_rfl) fun g F hg hF => ?_
  cbv
  first | refine callP hg cp rfl (fun W H hW hH => ?_) | refine callPP hg cp rfl (fun W H hW hH => ?_)
  cbv
  have mw := spec_l19Margins_a s true rtl W
  first | refine callI hg mw rfl (fun MW hMW => ?_) | refine callIP hg mw rfl (fun MW hMW => ?_)
  cbv
  have mh := spec_l19Margins_a s false rtl W
  first | refine callI hg mh rfl (fun MH hMH => ?_) | refine callIP hg mh rfl (fun MH hMH => ?_)
  cbv
  have kw := spec_l19Known_a p s true W W rtl MW hMW
  first | refine callI hg kw rfl (fun KW hKW => ?_) | refine callIP hg kw rfl (fun KW hKW => ?_)
  cbv
  have kh := spec_l19Known_a p s false H W rtl MH hMH
  first | refine callI hg kh rfl (fun KH hKH => ?_) | refine callIP hg kh rfl (fun KH hKH => ?_)
  cbv
  clear cp mw mh kw kh
  repeat' (first | (refine callI hg (br _ _) rfl (fun R0 hR0 => ?_); cbv) | (refine callIP hg (br _ _) rfl (fun R0 hR0 => ?_); cbv) | (refine callV hg (ro _ _ _ _) rfl (fun R0 R1 hR0 hR1 => ?_); cbv) | (refine callVP hg (ro _ _ _ _) rfl (fun R0 R1 hR0 hR1 => ?_); cbv) | (split <;> rename_i hh <;> (try rw [hh]) <;> (try simp only [goLss hg, goLeq hg, goGtr hg, goGeq hg, goEql hg, goNeq hg, goEqlB hg, goNeqB hg, goAdd hg, goSub hg, goMul hg, goQuo hg, goRem hg, goNg hg, goMn hg, goMx hg, beq_iff_eq, bne_iff_ne, beq_eq_false_iff_ne, bne_eq_false_iff_eq, decide_eq_true_eq, decide_eq_false_iff_not, ne_eq, Decidable.not_not] at hh) <;> (first | (exfalso; omega) | cbv)))
  all_goals refine fin0w hF ?_
  all_goals (clear hF hg br ro; simp only [apX, apY, apW, apH, ← hW, ← hH]; grind)

end Go.Proofs.YtdnnffbbhijmkaaGreat
