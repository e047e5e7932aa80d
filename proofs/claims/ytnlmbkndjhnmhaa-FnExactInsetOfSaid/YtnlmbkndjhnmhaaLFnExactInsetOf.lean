/- The law FnExactInsetOf: for every input it returns true, and each argument reads afterwards as it read before. No condition. -/
import Derived.Test.YtnlmbkndjhnmhaaC11
namespace Go.Proofs.Ytnlmbkndjhnmhaa
open Go.ChangeShapes Go.WideShapes Go.ChangeAt Go.RowKit Am
set_option linter.unusedVariables false
set_option linter.unusedSimpArgs false
set_option maxRecDepth 100000

set_option maxHeartbeats 4000000 in
theorem FnExactInsetOf_walk (w : World) (a0 : GStyle) (h0 : a0.ok) (a1 : Int) (h1 : R64 a1) (a2 : Bool) (a3 : Int) (h3 : R64 a3) :
    Calls Try.prog 8 #[.agg #[.int .i64 a0.dir, .int .i64 a0.wrap, .int .i64 a0.justify, .int .i64 a0.items, .int .i64 a0.self, .int .i64 a0.content, .bool a0.apart, .bool a0.hidden, .int .i64 a0.order, .int .i64 a0.grow, .int .i64 a0.shrink, .int .i64 a0.basis.kind, .int .i64 a0.basis.n, .int .i64 a0.width.kind, .int .i64 a0.width.n, .int .i64 a0.height.kind, .int .i64 a0.height.n, .int .i64 a0.minWidth.kind, .int .i64 a0.minWidth.n, .int .i64 a0.minHeight.kind, .int .i64 a0.minHeight.n, .int .i64 a0.maxWidth.kind, .int .i64 a0.maxWidth.n, .int .i64 a0.maxHeight.kind, .int .i64 a0.maxHeight.n, .int .i64 a0.ratio, .int .i64 a0.margin.left.kind, .int .i64 a0.margin.left.n, .int .i64 a0.margin.top.kind, .int .i64 a0.margin.top.n, .int .i64 a0.margin.right.kind, .int .i64 a0.margin.right.n, .int .i64 a0.margin.bottom.kind, .int .i64 a0.margin.bottom.n, .int .i64 a0.margin.start.kind, .int .i64 a0.margin.start.n, .int .i64 a0.margin.fin.kind, .int .i64 a0.margin.fin.n, .int .i64 a0.inset.left.kind, .int .i64 a0.inset.left.n, .int .i64 a0.inset.top.kind, .int .i64 a0.inset.top.n, .int .i64 a0.inset.right.kind, .int .i64 a0.inset.right.n, .int .i64 a0.inset.bottom.kind, .int .i64 a0.inset.bottom.n, .int .i64 a0.inset.start.kind, .int .i64 a0.inset.start.n, .int .i64 a0.inset.fin.kind, .int .i64 a0.inset.fin.n, .int .i64 a0.pad.left, .int .i64 a0.pad.top, .int .i64 a0.pad.right, .int .i64 a0.pad.bottom, .int .i64 a0.border.left, .int .i64 a0.border.top, .int .i64 a0.border.right, .int .i64 a0.border.bottom, .int .i64 a0.rowGap, .int .i64 a0.colGap], .int .i64 a1, .bool a2, .int .i64 a3] w fun e w' => e = .returned (.bool true) ∧ Below w.heap.size w w' :=
  law_calls (vs := [.agg (GStyle.c a0), .int .i64 a1, .bool a2, .int .i64 a3]) (laws_FnExactInsetOf_a a0 a1 a2 a3) rfl (argsR_cons (rt_agg rfl) (argsR_cons (rt_int _) (argsR_cons (rt_int _) (argsR_cons (rt_int _) (argsR_nil)))))
set_option maxHeartbeats 1600000 in
set_option maxRecDepth 100000 in
theorem FnExactInsetOf_lifted (os : Os) (started : os.Started) (H : Type) (enc : TypeId × Value → H) :
    ReturnsInHanded {} Try.checked os 8 .any (Rows.fnExactInsetOfSpec.pre6 enc Try.prog Try.f8 Rows.fnExactInsetOfRow.domain false) (Rows.fnExactInsetOfSpec.post enc Try.prog Try.f8 false true false false) := by
  refine returnsInHanded_of_change (C := Try.checked) own started (by kernel_rfl) Try.func8
    (ChangeSpec.witness6 (enc := enc) (C := Try.checked) false ⟨#[], #[.agg #[.int .i64 0, .int .i64 0, .int .i64 0, .int .i64 0, .int .i64 0, .int .i64 0, .bool false, .bool false, .int .i64 0, .int .i64 0, .int .i64 0, .int .i64 0, .int .i64 0, .int .i64 0, .int .i64 0, .int .i64 0, .int .i64 0, .int .i64 0, .int .i64 0, .int .i64 0, .int .i64 0, .int .i64 0, .int .i64 0, .int .i64 0, .int .i64 0, .int .i64 0, .int .i64 0, .int .i64 0, .int .i64 0, .int .i64 0, .int .i64 0, .int .i64 0, .int .i64 0, .int .i64 0, .int .i64 0, .int .i64 0, .int .i64 0, .int .i64 0, .int .i64 0, .int .i64 0, .int .i64 0, .int .i64 0, .int .i64 0, .int .i64 0, .int .i64 0, .int .i64 0, .int .i64 0, .int .i64 0, .int .i64 0, .int .i64 0, .int .i64 0, .int .i64 0, .int .i64 0, .int .i64 0, .int .i64 0, .int .i64 0, .int .i64 0, .int .i64 0, .int .i64 0, .int .i64 0], .int .i64 0, .bool false, .int .i64 0], []⟩ 8 (by kernel_rfl) (by kernel_rfl) (by kernel_rfl) (by kernel_rfl)) ?_
  intro W base args ds gs before hval hW hcnd _
  have hpost : ∀ W', Below W.heap.size W W' → Rows.fnExactInsetOfSpec.post enc Try.prog Try.f8 false true false false W args (.bool true) W' := by
    intro W' hx
    refine law_post laidOut (by kernel_rfl) rfl ?_ (t := 4) (by kernel_rfl) Try.underlying4 hW hx
    obtain ⟨p, q, hA, hV, rfl, hfz, hnd⟩ := hW
    obtain ⟨rfl, rfl⟩ := trodVars_none hV
    have hA1 : DataW.TrodAll enc Try.prog W 0 (fun _ => true) true Try.f8.params.toList args.toList ds p := hA
    rw [Try.params8] at hA1
    obtain ⟨v0, vs0, d0, ds0, p0, q0, hargs, rfl, rfl, h0, r0⟩ := trodAll_cons hA1
    obtain ⟨v1, vs1, d1, ds1, p1, q1, rfl, rfl, rfl, h1, r1⟩ := trodAll_cons r0
    obtain ⟨v2, vs2, d2, ds2, p2, q2, rfl, rfl, rfl, h2, r2⟩ := trodAll_cons r1
    obtain ⟨v3, vs3, d3, ds3, p3, q3, rfl, rfl, rfl, h3, r3⟩ := trodAll_cons r2
    obtain ⟨rfl, rfl, rfl⟩ := trodAll_nil r3
    rfl
  have hval' := hval
  obtain ⟨p, q, hA, hV, rfl, hfz, hnd⟩ := hW
  have hA1 : DataW.TrodAll enc Try.prog W 0 (fun _ => true) true Try.f8.params.toList args.toList ds p := hA
  rw [Try.params8] at hA1
  obtain ⟨v0, vs0, d0, ds0, p0, q0, hargs, rfl, rfl, h0, r0⟩ := trodAll_cons hA1
  obtain ⟨v1, vs1, d1, ds1, p1, q1, rfl, rfl, rfl, h1, r1⟩ := trodAll_cons r0
  obtain ⟨v2, vs2, d2, ds2, p2, q2, rfl, rfl, rfl, h2, r2⟩ := trodAll_cons r1
  obtain ⟨v3, vs3, d3, ds3, p3, q3, rfl, rfl, rfl, h3, r3⟩ := trodAll_cons r2
  obtain ⟨rfl, rfl, rfl⟩ := trodAll_nil r3
  obtain rfl : args = #[v0, v1, v2, v3] := by cases args; simp_all
  rw [Try.params8] at hval'
  obtain ⟨g0, b0, k0, rfl⟩ := open_flat laidOut Try.underlying3 Try.underlying4 GStyle.ks (t := 29) (of_decide_eq_true (by kernel_rfl)) Try.underlying29 (by kernel_rfl) (hval' 0 29 v0 rfl rfl) h0
  obtain ⟨a1, rfl, rfl, rfl, w1⟩ := open_int Try.underlying3 (hval' 1 3 v1 rfl rfl) h1
  obtain ⟨a2, rfl, rfl, rfl⟩ := open_bool Try.underlying4 (hval' 2 4 v2 rfl rfl) h2
  obtain ⟨a3, rfl, rfl, rfl, w3⟩ := open_int Try.underlying3 (hval' 3 3 v3 rfl rfl) h3
  exact (FnExactInsetOf_walk W (GStyle.of g0 b0) (GStyle.ok_of g0 b0 k0) a1 (r64_of_wf w1) a2 a3 (r64_of_wf w3)).mono fun e W' ⟨he, hx⟩ => ⟨_, he, hpost W' hx⟩
theorem FnExactInsetOf_over : Rows.fnExactInsetOfRow.holds Try.pinned (OpenSpec.ofChange Rows.fnExactInsetOfSpec) :=
  OpenClaim.holds_of_wide 8 Try.f8 rfl rfl rfl rfl rfl rfl rfl ⟨rfl, rfl, rfl, rfl, rfl⟩ rfl rfl rfl rfl rfl (by kernel_rfl) Try.func8 (by kernel_rfl)
    (of_decide_eq_true (by kernel_rfl)) (by unfold Func.isWrapper; first | (rw [if_pos (by decide +kernel)]; kernel_rfl) | (rw [if_neg (by decide +kernel)]; exact ⟨rfl, rfl⟩))
    (fun os started H enc _ => FnExactInsetOf_lifted os started H enc)
theorem FnExactInsetOf_proved : Rows.FnExactInsetOfSaid := FnExactInsetOf_over

end Go.Proofs.Ytnlmbkndjhnmhaa
