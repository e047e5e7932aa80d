/- Boxes without their edges, spaces of a root, frames in bounds. -/
import Derived.Test.YtgcofllgbdcicaaGreatC4
namespace Go.Proofs.YtgcofllgbdcicaaGreat
open Go.ChangeShapes Go.WideShapes Go.ChangeAt Go.RowKit Am
set_option linter.unusedVariables false
set_option linter.unusedSimpArgs false
set_option maxRecDepth 100000

theorem argsR_nil {F : Nat → Prop} {w : World} : ∀ (j : Nat) (x : AT), ([] : List AT)[j]? = some x → ∃ v, ([] : List Value)[j]? = some v ∧ RT F w [] [] x v := fun j x h => by simp at h
theorem argsR_cons {F : Nat → Prop} {w : World} {x : AT} {v : Value} {xs : List AT} {vs : List Value} (h1 : RT F w [] [] x v) (h2 : ∀ (j : Nat) (x : AT), xs[j]? = some x → ∃ v, vs[j]? = some v ∧ RT F w [] [] x v) :
    ∀ (j : Nat) (y : AT), (x :: xs)[j]? = some y → ∃ u, (v :: vs)[j]? = some u ∧ RT F w [] [] y u := fun j y h => by
  cases j with
  | zero => simp only [List.getElem?_cons_zero, Option.some.injEq] at h; subst h; exact ⟨v, rfl, h1⟩
  | succ j => exact h2 j y (by simpa using h)
def padW (s : GStyle) (w : Int) : Int := cl (wrap64 (cl w - adE s.border.left s.border.right))
def padH (s : GStyle) (h : Int) : Int := cl (wrap64 (cl h - adE s.border.top s.border.bottom))
def frmB (s : GStyle) (f : GFrame) (w h : Int) : Bool := (bndO s true w f.wide == f.wide) && (bndO s false h f.high == f.high)
set_option maxHeartbeats 4000000 in
theorem spec_PadBox_a (s : GStyle) (w h : Int) : PCon Tryz.prog 41 [.agg (lc (GStyle.c s)), ai w, ai h] fun res rows => res = .tup [ai (padW s w), ai (padH s h)] ∧ rows = [] := by
  obtain ⟨a0, a1, a2, a3, a4, a5, a6, a7, a8, a9, a10, ⟨a11, a12⟩, ⟨a13, a14⟩, ⟨a15, a16⟩, ⟨a17, a18⟩, ⟨a19, a20⟩, ⟨a21, a22⟩, ⟨a23, a24⟩, a25, ⟨⟨a26, a27⟩, ⟨a28, a29⟩, ⟨a30, a31⟩, ⟨a32, a33⟩, ⟨a34, a35⟩, ⟨a36, a37⟩⟩, ⟨⟨a38, a39⟩, ⟨a40, a41⟩, ⟨a42, a43⟩, ⟨a44, a45⟩, ⟨a46, a47⟩, ⟨a48, a49⟩⟩, ⟨a50, a51, a52, a53⟩, ⟨a54, a55, a56, a57⟩, a58, a59⟩ := s
  refine pcon_run (c := body Tryz.f41) fits Tryz.func41 (by kernel_rfl) (by kernel_rfl) (by rfl) (by kernel_rfl) fun g F hg hF => ?_
  cbv
  repeat' (first | (refine callI hg (spec_Clamped_a _) rfl (fun R0 hR0 => ?_); cbv) | (refine callIP hg (spec_Clamped_a _) rfl (fun R0 hR0 => ?_); cbv) | (refine callI hg (spec_WideOf_a _ _ _ _) rfl (fun R0 hR0 => ?_); cbv) | (refine callIP hg (spec_WideOf_a _ _ _ _) rfl (fun R0 hR0 => ?_); cbv) | (refine callI hg (spec_HighOf_a _ _ _ _) rfl (fun R0 hR0 => ?_); cbv) | (refine callIP hg (spec_HighOf_a _ _ _ _) rfl (fun R0 hR0 => ?_); cbv) | (split <;> rename_i hh <;> (try rw [hh]) <;> (try simp only [goLss hg, goLeq hg, goGtr hg, goGeq hg, goEql hg, goNeq hg, goEqlB hg, goNeqB hg, goAdd hg, goSub hg, goMul hg, goQuo hg, goRem hg, goNg hg, goMn hg, goMx hg, beq_iff_eq, bne_iff_ne, beq_eq_false_iff_ne, bne_eq_false_iff_eq, decide_eq_true_eq, decide_eq_false_iff_not, ne_eq, Decidable.not_not] at hh) <;> cbv))
  all_goals exact fin0p hF (by (try simp only [goSub hg] at *); subst_vars; exact ⟨rfl, rfl⟩)
set_option maxHeartbeats 4000000 in
theorem impl_PadBox_a (s : GStyle) (w h : Int) : PCon Tryz.prog 52 [.agg (lc (GStyle.c s)), ai w, ai h] fun res rows => res = .tup [ai (padW s w), ai (padH s h)] ∧ rows = [] := by
  obtain ⟨a0, a1, a2, a3, a4, a5, a6, a7, a8, a9, a10, ⟨a11, a12⟩, ⟨a13, a14⟩, ⟨a15, a16⟩, ⟨a17, a18⟩, ⟨a19, a20⟩, ⟨a21, a22⟩, ⟨a23, a24⟩, a25, ⟨⟨a26, a27⟩, ⟨a28, a29⟩, ⟨a30, a31⟩, ⟨a32, a33⟩, ⟨a34, a35⟩, ⟨a36, a37⟩⟩, ⟨⟨a38, a39⟩, ⟨a40, a41⟩, ⟨a42, a43⟩, ⟨a44, a45⟩, ⟨a46, a47⟩, ⟨a48, a49⟩⟩, ⟨a50, a51, a52, a53⟩, ⟨a54, a55, a56, a57⟩, a58, a59⟩ := s
  refine pcon_run (c := body Tryz.f52) fits Tryz.func52 (by kernel_rfl) (by kernel_rfl) (by rfl) (by kernel_rfl) fun g F hg hF => ?_
  cbv
  repeat' (first | (refine callI hg (impl_Clamped_a _) rfl (fun R0 hR0 => ?_); cbv) | (refine callIP hg (impl_Clamped_a _) rfl (fun R0 hR0 => ?_); cbv) | (refine callI hg (impl_WideOf_a _ _ _ _) rfl (fun R0 hR0 => ?_); cbv) | (refine callIP hg (impl_WideOf_a _ _ _ _) rfl (fun R0 hR0 => ?_); cbv) | (refine callI hg (impl_HighOf_a _ _ _ _) rfl (fun R0 hR0 => ?_); cbv) | (refine callIP hg (impl_HighOf_a _ _ _ _) rfl (fun R0 hR0 => ?_); cbv) | (split <;> rename_i hh <;> (try rw [hh]) <;> (try simp only [goLss hg, goLeq hg, goGtr hg, goGeq hg, goEql hg, goNeq hg, goEqlB hg, goNeqB hg, goAdd hg, goSub hg, goMul hg, goQuo hg, goRem hg, goNg hg, goMn hg, goMx hg, beq_iff_eq, bne_iff_ne, beq_eq_false_iff_ne, bne_eq_false_iff_eq, decide_eq_true_eq, decide_eq_false_iff_not, ne_eq, Decidable.not_not] at hh) <;> cbv))
  all_goals exact fin0p hF (by (try simp only [goSub hg] at *); subst_vars; exact ⟨rfl, rfl⟩)
theorem impl_exactly_a (n : Int) : PCon Tryz.prog 58 [ai n] fun res rows => res = .t (.agg [.imm (.int .i64 3), .imm (.int .i64 n)]) ∧ rows = [] := by
  refine pcon_run (c := body Tryz.f58) fits Tryz.func58 (by kernel_rfl) (by kernel_rfl) (by rfl) (by kernel_rfl) fun g F hg hF => ?_
  cbv
  all_goals exact fin0v hF (by exact ⟨rfl, rfl⟩)

end Go.Proofs.YtgcofllgbdcicaaGreat
