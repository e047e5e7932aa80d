/- The law FnExactEngStyle: for every input it returns true, and each argument reads afterwards as it read before. No condition. -/
import Derived.Test.YtenbloaopcfdlaaGreatRows
import Derived.Test.YtenbloaopcfdlaaGreatKxtyleab
namespace Go.Proofs.YtenbloaopcfdlaaGreat
open Go.ChangeShapes Go.WideShapes Go.ChangeAt Go.RowKit Am
set_option linter.unusedVariables false
set_option linter.unusedSimpArgs false
set_option maxRecDepth 100000
theorem FnExactEngStyle_walk (w : World) (a0 : NEngine) (f0 : a0.fit) (v0 : Value) (r0 : RT (fun b => b < w.heap.size) w [] [] (.agg a0.ac) v0) (a1 : Int) (h1 : R64 a1) (a2 : GStyle) (h2 : a2.ok) :
    Calls Tryz.prog 5 #[v0, .int .i64 a1, .agg #[.int .i64 a2.dir, .int .i64 a2.wrap, .int .i64 a2.justify, .int .i64 a2.items, .int .i64 a2.self, .int .i64 a2.content, .bool a2.apart, .bool a2.hidden, .int .i64 a2.order, .int .i64 a2.grow, .int .i64 a2.shrink, .int .i64 a2.basis.kind, .int .i64 a2.basis.n, .int .i64 a2.width.kind, .int .i64 a2.width.n, .int .i64 a2.height.kind, .int .i64 a2.height.n, .int .i64 a2.minWidth.kind, .int .i64 a2.minWidth.n, .int .i64 a2.minHeight.kind, .int .i64 a2.minHeight.n, .int .i64 a2.maxWidth.kind, .int .i64 a2.maxWidth.n, .int .i64 a2.maxHeight.kind, .int .i64 a2.maxHeight.n, .int .i64 a2.ratio, .int .i64 a2.margin.left.kind, .int .i64 a2.margin.left.n, .int .i64 a2.margin.top.kind, .int .i64 a2.margin.top.n, .int .i64 a2.margin.right.kind, .int .i64 a2.margin.right.n, .int .i64 a2.margin.bottom.kind, .int .i64 a2.margin.bottom.n, .int .i64 a2.margin.start.kind, .int .i64 a2.margin.start.n, .int .i64 a2.margin.fin.kind, .int .i64 a2.margin.fin.n, .int .i64 a2.inset.left.kind, .int .i64 a2.inset.left.n, .int .i64 a2.inset.top.kind, .int .i64 a2.inset.top.n, .int .i64 a2.inset.right.kind, .int .i64 a2.inset.right.n, .int .i64 a2.inset.bottom.kind, .int .i64 a2.inset.bottom.n, .int .i64 a2.inset.start.kind, .int .i64 a2.inset.start.n, .int .i64 a2.inset.fin.kind, .int .i64 a2.inset.fin.n, .int .i64 a2.pad.left, .int .i64 a2.pad.top, .int .i64 a2.pad.right, .int .i64 a2.pad.bottom, .int .i64 a2.border.left, .int .i64 a2.border.top, .int .i64 a2.border.right, .int .i64 a2.border.bottom, .int .i64 a2.rowGap, .int .i64 a2.colGap]] w fun e w' => e = .returned (.bool true) ∧ Below w.heap.size w w' := laws_FnExactEngStyle_w w a0 f0 v0 r0 a1 a2
set_option maxHeartbeats 1600000 in
set_option maxRecDepth 100000 in
theorem FnExactEngStyle_lifted (os : Os) (started : os.Started) (H : Type) (enc : TypeId × Value → H) :
    ReturnsInHanded {} Tryz.checked os 5 .any (Rows.fnExactEngStyleSpec.pre6 enc Tryz.prog Tryz.f5 Rows.fnExactEngStyleRow.domain false) (Rows.fnExactEngStyleSpec.post enc Tryz.prog Tryz.f5 false true false false) := by
  refine returnsInHanded_of_change (C := Tryz.checked) own started (by kernel_rfl) Tryz.func5
    (ChangeSpec.witness6 (enc := enc) (C := Tryz.checked) false ⟨#[], #[.agg #[.slice none 0 0, .slice none 0 0, .slice none 0 0, .slice none 0 0, .int .i64 0, .int .i64 0, .int .i64 0, .bool false], .int .i64 0, .agg #[.int .i64 0, .int .i64 0, .int .i64 0, .int .i64 0, .int .i64 0, .int .i64 0, .bool false, .bool false, .int .i64 0, .int .i64 0, .int .i64 0, .int .i64 0, .int .i64 0, .int .i64 0, .int .i64 0, .int .i64 0, .int .i64 0, .int .i64 0, .int .i64 0, .int .i64 0, .int .i64 0, .int .i64 0, .int .i64 0, .int .i64 0, .int .i64 0, .int .i64 0, .int .i64 0, .int .i64 0, .int .i64 0, .int .i64 0, .int .i64 0, .int .i64 0, .int .i64 0, .int .i64 0, .int .i64 0, .int .i64 0, .int .i64 0, .int .i64 0, .int .i64 0, .int .i64 0, .int .i64 0, .int .i64 0, .int .i64 0, .int .i64 0, .int .i64 0, .int .i64 0, .int .i64 0, .int .i64 0, .int .i64 0, .int .i64 0, .int .i64 0, .int .i64 0, .int .i64 0, .int .i64 0, .int .i64 0, .int .i64 0, .int .i64 0, .int .i64 0, .int .i64 0, .int .i64 0]], []⟩ 8 (by kernel_rfl) (by kernel_rfl) (by kernel_rfl) (by kernel_rfl)) ?_
  intro W base args ds gs before hval hW hcnd _
  have hpost : ∀ W', Below W.heap.size W W' → Rows.fnExactEngStyleSpec.post enc Tryz.prog Tryz.f5 false true false false W args (.bool true) W' := by
    intro W' hx
    refine law_post laidOut (by kernel_rfl) rfl ?_ (t := 4) (by kernel_rfl) Tryz.underlying4 hW hx
    obtain ⟨p, q, hA, hV, rfl, hfz, hnd⟩ := hW
    obtain ⟨rfl, rfl⟩ := trodVars_none hV
    have hA1 : DataW.TrodAll enc Tryz.prog W 0 (fun _ => true) true Tryz.f5.params.toList args.toList ds p := hA
    rw [Tryz.params5] at hA1
    obtain ⟨v0, vs0, d0, ds0, p0, q0, hargs, rfl, rfl, h0, r0⟩ := trodAll_cons hA1
    obtain ⟨v1, vs1, d1, ds1, p1, q1, rfl, rfl, rfl, h1, r1⟩ := trodAll_cons r0
    obtain ⟨v2, vs2, d2, ds2, p2, q2, rfl, rfl, rfl, h2, r2⟩ := trodAll_cons r1
    obtain ⟨rfl, rfl, rfl⟩ := trodAll_nil r2
    rfl
  have hval' := hval
  obtain ⟨p, q, hA, hV, rfl, hfz, hnd⟩ := hW
  have hA1 : DataW.TrodAll enc Tryz.prog W 0 (fun _ => true) true Tryz.f5.params.toList args.toList ds p := hA
  rw [Tryz.params5] at hA1
  obtain ⟨v0, vs0, d0, ds0, p0, q0, hargs, rfl, rfl, h0, r0⟩ := trodAll_cons hA1
  obtain ⟨v1, vs1, d1, ds1, p1, q1, rfl, rfl, rfl, h1, r1⟩ := trodAll_cons r0
  obtain ⟨v2, vs2, d2, ds2, p2, q2, rfl, rfl, rfl, h2, r2⟩ := trodAll_cons r1
  obtain ⟨rfl, rfl, rfl⟩ := trodAll_nil r2
  obtain rfl : args = #[v0, v1, v2] := by cases args; simp_all
  rw [Tryz.params5] at hval'
  obtain ⟨x0, t0, s0⟩ := open_struct laidOut 8 NEngine.sh (t := 31) (of_decide_eq_true (by kernel_rfl)) Tryz.underlying31 (by kernel_rfl) (hval' 0 31 v0 rfl rfl) h0
  obtain ⟨a0, e0, f0⟩ := NEngine.of_ _ t0
  rw [e0] at s0
  obtain ⟨a1, rfl, rfl, rfl, w1⟩ := open_int Tryz.underlying3 (hval' 1 3 v1 rfl rfl) h1
  obtain ⟨g2, b2, k2, rfl⟩ := open_flat laidOut Tryz.underlying3 Tryz.underlying4 GStyle.ks (t := 39) (of_decide_eq_true (by kernel_rfl)) Tryz.underlying39 (by kernel_rfl) (hval' 2 39 v2 rfl rfl) h2
  exact (FnExactEngStyle_walk W a0 f0 v0 s0 a1 (r64_of_wf w1) (GStyle.of g2 b2) (GStyle.ok_of g2 b2 k2)).mono fun e W' ⟨he, hx⟩ => ⟨_, he, hpost W' hx⟩
theorem FnExactEngStyle_e1 : (Rows.fnExactEngStyleRow.shortTexts.isNone && Tryz.pinned.checked.prog.stopsHeard && Tryz.pinned.checked.prog.mayEnter) = true := by kernel_rfl
theorem FnExactEngStyle_e2 : (Rows.fnExactEngStyleRow.lifted == Tryz.pinned.checked.prog.liftsFinal) = true := by kernel_rfl
theorem FnExactEngStyle_e3 : (Tryz.pinned.checked.prog.make == some Rows.fnExactEngStyleRow.make) = true := by kernel_rfl
theorem FnExactEngStyle_closed : joinedFacts Tryz.pinned.checked.prog 5 Tryz.f5 Rows.fnExactEngStyleSpec Rows.fnExactEngStyleRow = true := by
  unfold joinedFacts
  have h1 := FnExactEngStyle_e1
  simp only [Bool.and_eq_true] at h1
  rw [h1.1.1, h1.1.2, h1.2, FnExactEngStyle_e2, FnExactEngStyle_e3, show laidOutB Tryz.pinned.checked.prog = true from laidOut]
  show _ = true
  kernel_rfl
theorem FnExactEngStyle_over : Rows.fnExactEngStyleRow.holds Tryz.pinned (OpenSpec.ofChange Rows.fnExactEngStyleSpec) :=
  OpenClaim.holds_of_wide 5 Tryz.f5 rfl rfl rfl rfl rfl rfl rfl ⟨rfl, rfl, rfl, rfl, rfl⟩ rfl rfl rfl rfl rfl (by kernel_rfl) Tryz.func5 FnExactEngStyle_closed
    (of_decide_eq_true (by kernel_rfl)) (by unfold Func.isWrapper; first | (rw [if_pos (by decide +kernel)]; kernel_rfl) | (rw [if_neg (by decide +kernel)]; exact ⟨rfl, rfl⟩))
    (fun os started H enc _ => FnExactEngStyle_lifted os started H enc)
theorem FnExactEngStyle_proved : Rows.FnExactEngStyleSaid := FnExactEngStyle_over
end Go.Proofs.YtenbloaopcfdlaaGreat
