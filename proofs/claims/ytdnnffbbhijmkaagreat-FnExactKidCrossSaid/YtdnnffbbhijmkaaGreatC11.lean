/- Insets. -/
import Derived.Test.YtdnnffbbhijmkaaGreatC5
import Derived.Test.YtdnnffbbhijmkaaGreatO3
namespace Go.Proofs.YtdnnffbbhijmkaaGreat
open Go.ChangeShapes Go.WideShapes Go.ChangeAt Go.RowKit Am
set_option linter.unusedVariables false
set_option linter.unusedSimpArgs false
set_option maxRecDepth 100000

theorem rt_agg_inv {F : Nat → Prop} {w : World} {a : Array Value} {u : Value} (h : RT F w [] [] (.agg (lc a)) u) : u = .agg a := by
  obtain ⟨vs, rfl, hl, hc⟩ := h
  have hl' : vs.length = a.toList.length := by rw [hl]; simp [lc]
  have : vs = a.toList := by
    refine List.ext_getElem? fun i => ?_
    by_cases hi : i < a.toList.length
    · have h1 := List.getElem?_eq_getElem hi
      obtain ⟨u, hu, _, hr⟩ := hc i (.imm a.toList[i]) (by simp [lc, h1])
      rw [hu, h1]
      exact congrArg some hr
    · rw [List.getElem?_eq_none (by omega), List.getElem?_eq_none (by omega)]
  rw [this]
theorem argsV_nil {F : Nat → Prop} {w : World} : ∀ (j : Nat) (x : AT) (u : Value), ([] : List AT)[j]? = some x → RT F w [] [] x u → ([] : List Value)[j]? = some u := fun j x u h => by simp at h
theorem argsV_cons {F : Nat → Prop} {w : World} {x : AT} {v : Value} {xs : List AT} {vs : List Value} (h1 : ∀ u, RT F w [] [] x u → u = v) (h2 : ∀ (j : Nat) (x : AT) (u : Value), xs[j]? = some x → RT F w [] [] x u → vs[j]? = some u) :
    ∀ (j : Nat) (y : AT) (u : Value), (x :: xs)[j]? = some y → RT F w [] [] y u → (v :: vs)[j]? = some u := fun j y u h hr => by
  cases j with
  | zero => simp only [List.getElem?_cons_zero, Option.some.injEq] at h; subst h; rw [h1 u hr]; rfl
  | succ j => exact h2 j y u (by simpa using h) hr
theorem impl_SideOf_a (s : GSides) (sd : Int) (rtl : Bool) : PCon Tryz.prog 218 [.agg (lc (GSides.c s)), ai sd, abl rtl] fun res rows => res = .t (agV (sideV s sd rtl)) ∧ rows = [] :=
  pcon_of_calls (us := [.agg (GSides.c s), .int .i64 sd, .bool rtl]) (v := .agg #[.int .i64 (sideV s sd rtl).kind, .int .i64 (sideV s sd rtl).n]) (by kernel_rfl) rfl
    (fun F w => argsV_cons (fun u h => rt_agg_inv h) (argsV_cons (fun u h => h) (argsV_cons (fun u h => h) argsV_nil)))
    (fun F w => ⟨[.int .i64 (sideV s sd rtl).kind, .int .i64 (sideV s sd rtl).n], rfl, rfl, fun j c hj => by
      match j, hj with
      | 0, hj => cases hj; exact ⟨_, rfl, rfl, rfl⟩
      | 1, hj => cases hj; exact ⟨_, rfl, rfl, rfl⟩⟩)
    (fun w => impl_SideOf_c s sd rtl w)
def insN (s : GStyle) (sd : Int) (rtl : Bool) (base : Int) : Int := if kn (sideV s.inset sd rtl) base = false then 0 else sg (lenV (sideV s.inset sd rtl) base)
def insB (s : GStyle) (sd : Int) (rtl : Bool) (base : Int) : Bool := kn (sideV s.inset sd rtl) base
set_option maxHeartbeats 4000000 in
theorem spec_InsetOf_a (s : GStyle) (sd : Int) (rtl : Bool) (base : Int) : PCon Tryz.prog 242 [.agg (lc (GStyle.c s)), ai sd, abl rtl, ai base] fun res rows => res = .tup [ai (insN s sd rtl base), abl (insB s sd rtl base)] ∧ rows = [] := by
  obtain ⟨a0, a1, a2, a3, a4, a5, a6, a7, a8, a9, a10, ⟨a11, a12⟩, ⟨a13, a14⟩, ⟨a15, a16⟩, ⟨a17, a18⟩, ⟨a19, a20⟩, ⟨a21, a22⟩, ⟨a23, a24⟩, a25, ⟨⟨a26, a27⟩, ⟨a28, a29⟩, ⟨a30, a31⟩, ⟨a32, a33⟩, ⟨a34, a35⟩, ⟨a36, a37⟩⟩, ⟨⟨a38, a39⟩, ⟨a40, a41⟩, ⟨a42, a43⟩, ⟨a44, a45⟩, ⟨a46, a47⟩, ⟨a48, a49⟩⟩, ⟨a50, a51, a52, a53⟩, ⟨a54, a55, a56, a57⟩, a58, a59⟩ := s
  refine pcon_run (c := body Tryz.f242) fits Tryz.func242 (by kernel_rfl) (by kernel_rfl) (by rfl) (by kernel_rfl) fun g F hg hF => ?_
  cbv
  (first | refine callV hg (spec_SideOf_a ⟨⟨a38, a39⟩, ⟨a40, a41⟩, ⟨a42, a43⟩, ⟨a44, a45⟩, ⟨a46, a47⟩, ⟨a48, a49⟩⟩ _ _) rfl (fun R S hR hS => ?_) | refine callVP hg (spec_SideOf_a ⟨⟨a38, a39⟩, ⟨a40, a41⟩, ⟨a42, a43⟩, ⟨a44, a45⟩, ⟨a46, a47⟩, ⟨a48, a49⟩⟩ _ _) rfl (fun R S hR hS => ?_))
  cbv
  repeat' (first | (refine callB hg (spec_Known_a _ _ _) rfl (fun R0 hR0 => ?_); cases R0 <;> cbv) | (refine callBP hg (spec_Known_a _ _ _) rfl (fun R0 hR0 => ?_); cases R0 <;> cbv) | (refine callI hg (spec_LengthOf_a _ _ _) rfl (fun R0 hR0 => ?_); cbv) | (refine callIP hg (spec_LengthOf_a _ _ _) rfl (fun R0 hR0 => ?_); cbv) | (refine callI hg (spec_l02Len_a _) rfl (fun R0 hR0 => ?_); cbv) | (refine callIP hg (spec_l02Len_a _) rfl (fun R0 hR0 => ?_); cbv) | (split <;> rename_i hh <;> (try rw [hh]) <;> (try simp only [goLss hg, goLeq hg, goGtr hg, goGeq hg, goEql hg, goNeq hg, goEqlB hg, goNeqB hg, goAdd hg, goSub hg, goMul hg, goQuo hg, goRem hg, goNg hg, goMn hg, goMx hg, beq_iff_eq, bne_iff_ne, beq_eq_false_iff_ne, bne_eq_false_iff_eq, decide_eq_true_eq, decide_eq_false_iff_not, ne_eq, Decidable.not_not] at hh) <;> cbv))
  all_goals exact fin0q hF (by simp only [insN, insB]; subst_vars; simp_all)
set_option maxHeartbeats 4000000 in
theorem impl_InsetOf_a (s : GStyle) (sd : Int) (rtl : Bool) (base : Int) : PCon Tryz.prog 245 [.agg (lc (GStyle.c s)), ai sd, abl rtl, ai base] fun res rows => res = .tup [ai (insN s sd rtl base), abl (insB s sd rtl base)] ∧ rows = [] := by
  obtain ⟨a0, a1, a2, a3, a4, a5, a6, a7, a8, a9, a10, ⟨a11, a12⟩, ⟨a13, a14⟩, ⟨a15, a16⟩, ⟨a17, a18⟩, ⟨a19, a20⟩, ⟨a21, a22⟩, ⟨a23, a24⟩, a25, ⟨⟨a26, a27⟩, ⟨a28, a29⟩, ⟨a30, a31⟩, ⟨a32, a33⟩, ⟨a34, a35⟩, ⟨a36, a37⟩⟩, ⟨⟨a38, a39⟩, ⟨a40, a41⟩, ⟨a42, a43⟩, ⟨a44, a45⟩, ⟨a46, a47⟩, ⟨a48, a49⟩⟩, ⟨a50, a51, a52, a53⟩, ⟨a54, a55, a56, a57⟩, a58, a59⟩ := s
  refine pcon_run (c := body Tryz.f245) fits Tryz.func245 (by kernel_rfl) (by kernel_rfl) (by rfl) (by kernel_rfl) fun g F hg hF => ?_
  cbv
  (first | refine callV hg (impl_SideOf_a ⟨⟨a38, a39⟩, ⟨a40, a41⟩, ⟨a42, a43⟩, ⟨a44, a45⟩, ⟨a46, a47⟩, ⟨a48, a49⟩⟩ _ _) rfl (fun R S hR hS => ?_) | refine callVP hg (impl_SideOf_a ⟨⟨a38, a39⟩, ⟨a40, a41⟩, ⟨a42, a43⟩, ⟨a44, a45⟩, ⟨a46, a47⟩, ⟨a48, a49⟩⟩ _ _) rfl (fun R S hR hS => ?_))
  cbv
  repeat' (first | (refine callB hg (impl_Known_a _ _ _) rfl (fun R0 hR0 => ?_); cases R0 <;> cbv) | (refine callBP hg (impl_Known_a _ _ _) rfl (fun R0 hR0 => ?_); cases R0 <;> cbv) | (refine callI hg (impl_LengthOf_a _ _ _) rfl (fun R0 hR0 => ?_); cbv) | (refine callIP hg (impl_LengthOf_a _ _ _) rfl (fun R0 hR0 => ?_); cbv) | (refine callI hg (impl_signed_a _) rfl (fun R0 hR0 => ?_); cbv) | (refine callIP hg (impl_signed_a _) rfl (fun R0 hR0 => ?_); cbv) | (split <;> rename_i hh <;> (try rw [hh]) <;> (try simp only [goLss hg, goLeq hg, goGtr hg, goGeq hg, goEql hg, goNeq hg, goEqlB hg, goNeqB hg, goAdd hg, goSub hg, goMul hg, goQuo hg, goRem hg, goNg hg, goMn hg, goMx hg, beq_iff_eq, bne_iff_ne, beq_eq_false_iff_ne, bne_eq_false_iff_eq, decide_eq_true_eq, decide_eq_false_iff_not, ne_eq, Decidable.not_not] at hh) <;> cbv))
  all_goals exact fin0q hF (by simp only [insN, insB]; subst_vars; simp_all)

end Go.Proofs.YtdnnffbbhijmkaaGreat
