/- The law FnExactEngAdd: for every input it returns true, and each argument reads afterwards as it read before. No condition. -/
import Derived.Test.YtenbloaopcfdlaaGreatRows
import Derived.Test.YtenbloaopcfdlaaGreatKxgAddae
namespace Go.Proofs.YtenbloaopcfdlaaGreat
open Go.ChangeShapes Go.WideShapes Go.ChangeAt Go.RowKit Am
set_option linter.unusedVariables false
set_option linter.unusedSimpArgs false
set_option maxRecDepth 100000
theorem FnExactEngAdd_walk (w : World) (a0 : NEngine) (f0 : a0.fit) (v0 : Value) (r0 : RT (fun b => b < w.heap.size) w [] [] (.agg a0.ac) v0) (a1 : GStyle) (h1 : a1.ok) :
    Calls Tryz.prog 3 #[v0, .agg #[.int .i64 a1.dir, .int .i64 a1.wrap, .int .i64 a1.justify, .int .i64 a1.items, .int .i64 a1.self, .int .i64 a1.content, .bool a1.apart, .bool a1.hidden, .int .i64 a1.order, .int .i64 a1.grow, .int .i64 a1.shrink, .int .i64 a1.basis.kind, .int .i64 a1.basis.n, .int .i64 a1.width.kind, .int .i64 a1.width.n, .int .i64 a1.height.kind, .int .i64 a1.height.n, .int .i64 a1.minWidth.kind, .int .i64 a1.minWidth.n, .int .i64 a1.minHeight.kind, .int .i64 a1.minHeight.n, .int .i64 a1.maxWidth.kind, .int .i64 a1.maxWidth.n, .int .i64 a1.maxHeight.kind, .int .i64 a1.maxHeight.n, .int .i64 a1.ratio, .int .i64 a1.margin.left.kind, .int .i64 a1.margin.left.n, .int .i64 a1.margin.top.kind, .int .i64 a1.margin.top.n, .int .i64 a1.margin.right.kind, .int .i64 a1.margin.right.n, .int .i64 a1.margin.bottom.kind, .int .i64 a1.margin.bottom.n, .int .i64 a1.margin.start.kind, .int .i64 a1.margin.start.n, .int .i64 a1.margin.fin.kind, .int .i64 a1.margin.fin.n, .int .i64 a1.inset.left.kind, .int .i64 a1.inset.left.n, .int .i64 a1.inset.top.kind, .int .i64 a1.inset.top.n, .int .i64 a1.inset.right.kind, .int .i64 a1.inset.right.n, .int .i64 a1.inset.bottom.kind, .int .i64 a1.inset.bottom.n, .int .i64 a1.inset.start.kind, .int .i64 a1.inset.start.n, .int .i64 a1.inset.fin.kind, .int .i64 a1.inset.fin.n, .int .i64 a1.pad.left, .int .i64 a1.pad.top, .int .i64 a1.pad.right, .int .i64 a1.pad.bottom, .int .i64 a1.border.left, .int .i64 a1.border.top, .int .i64 a1.border.right, .int .i64 a1.border.bottom, .int .i64 a1.rowGap, .int .i64 a1.colGap]] w fun e w' => e = .returned (.bool true) ∧ Below w.heap.size w w' := laws_FnExactEngAdd_w w a0 f0 v0 r0 a1
set_option maxHeartbeats 1600000 in
set_option maxRecDepth 100000 in
theorem FnExactEngAdd_lifted (os : Os) (started : os.Started) (H : Type) (enc : TypeId × Value → H) :
    ReturnsInHanded {} Tryz.checked os 3 .any (Rows.fnExactEngAddSpec.pre6 enc Tryz.prog Tryz.f3 Rows.fnExactEngAddRow.domain false) (Rows.fnExactEngAddSpec.post enc Tryz.prog Tryz.f3 false true false false) := by
  refine returnsInHanded_of_change (C := Tryz.checked) own started (by kernel_rfl) Tryz.func3
    (ChangeSpec.witness6 (enc := enc) (C := Tryz.checked) false ⟨#[], #[.agg #[.slice none 0 0, .slice none 0 0, .slice none 0 0, .slice none 0 0, .int .i64 0, .int .i64 0, .int .i64 0, .bool false], .agg #[.int .i64 0, .int .i64 0, .int .i64 0, .int .i64 0, .int .i64 0, .int .i64 0, .bool false, .bool false, .int .i64 0, .int .i64 0, .int .i64 0, .int .i64 0, .int .i64 0, .int .i64 0, .int .i64 0, .int .i64 0, .int .i64 0, .int .i64 0, .int .i64 0, .int .i64 0, .int .i64 0, .int .i64 0, .int .i64 0, .int .i64 0, .int .i64 0, .int .i64 0, .int .i64 0, .int .i64 0, .int .i64 0, .int .i64 0, .int .i64 0, .int .i64 0, .int .i64 0, .int .i64 0, .int .i64 0, .int .i64 0, .int .i64 0, .int .i64 0, .int .i64 0, .int .i64 0, .int .i64 0, .int .i64 0, .int .i64 0, .int .i64 0, .int .i64 0, .int .i64 0, .int .i64 0, .int .i64 0, .int .i64 0, .int .i64 0, .int .i64 0, .int .i64 0, .int .i64 0, .int .i64 0, .int .i64 0, .int .i64 0, .int .i64 0, .int .i64 0, .int .i64 0, .int .i64 0]], []⟩ 8 (by kernel_rfl) (by kernel_rfl) (by kernel_rfl) (by kernel_rfl)) ?_
  intro W base args ds gs before hval hW hcnd _
  have hpost : ∀ W', Below W.heap.size W W' → Rows.fnExactEngAddSpec.post enc Tryz.prog Tryz.f3 false true false false W args (.bool true) W' := by
    intro W' hx
    refine law_post laidOut (by kernel_rfl) rfl ?_ (t := 4) (by kernel_rfl) Tryz.underlying4 hW hx
    obtain ⟨p, q, hA, hV, rfl, hfz, hnd⟩ := hW
    obtain ⟨rfl, rfl⟩ := trodVars_none hV
    have hA1 : DataW.TrodAll enc Tryz.prog W 0 (fun _ => true) true Tryz.f3.params.toList args.toList ds p := hA
    rw [Tryz.params3] at hA1
    obtain ⟨v0, vs0, d0, ds0, p0, q0, hargs, rfl, rfl, h0, r0⟩ := trodAll_cons hA1
    obtain ⟨v1, vs1, d1, ds1, p1, q1, rfl, rfl, rfl, h1, r1⟩ := trodAll_cons r0
    obtain ⟨rfl, rfl, rfl⟩ := trodAll_nil r1
    rfl
  have hval' := hval
  obtain ⟨p, q, hA, hV, rfl, hfz, hnd⟩ := hW
  have hA1 : DataW.TrodAll enc Tryz.prog W 0 (fun _ => true) true Tryz.f3.params.toList args.toList ds p := hA
  rw [Tryz.params3] at hA1
  obtain ⟨v0, vs0, d0, ds0, p0, q0, hargs, rfl, rfl, h0, r0⟩ := trodAll_cons hA1
  obtain ⟨v1, vs1, d1, ds1, p1, q1, rfl, rfl, rfl, h1, r1⟩ := trodAll_cons r0
  obtain ⟨rfl, rfl, rfl⟩ := trodAll_nil r1
  obtain rfl : args = #[v0, v1] := by cases args; simp_all
  rw [Tryz.params3] at hval'
  obtain ⟨x0, t0, s0⟩ := open_struct laidOut 8 NEngine.sh (t := 31) (of_decide_eq_true (by kernel_rfl)) Tryz.underlying31 (by kernel_rfl) (hval' 0 31 v0 rfl rfl) h0
  obtain ⟨a0, e0, f0⟩ := NEngine.of_ _ t0
  rw [e0] at s0
  obtain ⟨g1, b1, k1, rfl⟩ := open_flat laidOut Tryz.underlying3 Tryz.underlying4 GStyle.ks (t := 39) (of_decide_eq_true (by kernel_rfl)) Tryz.underlying39 (by kernel_rfl) (hval' 1 39 v1 rfl rfl) h1
  exact (FnExactEngAdd_walk W a0 f0 v0 s0 (GStyle.of g1 b1) (GStyle.ok_of g1 b1 k1)).mono fun e W' ⟨he, hx⟩ => ⟨_, he, hpost W' hx⟩
theorem FnExactEngAdd_e1 : (Rows.fnExactEngAddRow.shortTexts.isNone && Tryz.pinned.checked.prog.stopsHeard && Tryz.pinned.checked.prog.mayEnter) = true := by kernel_rfl
theorem FnExactEngAdd_e2 : (Rows.fnExactEngAddRow.lifted == Tryz.pinned.checked.prog.liftsFinal) = true := by kernel_rfl
theorem FnExactEngAdd_e3 : (Tryz.pinned.checked.prog.make == some Rows.fnExactEngAddRow.make) = true := by kernel_rfl
theorem FnExactEngAdd_closed : joinedFacts Tryz.pinned.checked.prog 3 Tryz.f3 Rows.fnExactEngAddSpec Rows.fnExactEngAddRow = true := by
  unfold joinedFacts
  have h1 := FnExactEngAdd_e1
  simp only [Bool.and_eq_true] at h1
  rw [h1.1.1, h1.1.2, h1.2, FnExactEngAdd_e2, FnExactEngAdd_e3, show laidOutB Tryz.pinned.checked.prog = true from laidOut]
  show _ = true
  kernel_rfl
theorem FnExactEngAdd_over : Rows.fnExactEngAddRow.holds Tryz.pinned (OpenSpec.ofChange Rows.fnExactEngAddSpec) :=
  OpenClaim.holds_of_wide 3 Tryz.f3 rfl rfl rfl rfl rfl rfl rfl ⟨rfl, rfl, rfl, rfl, rfl⟩ rfl rfl rfl rfl rfl (by kernel_rfl) Tryz.func3 FnExactEngAdd_closed
    (of_decide_eq_true (by kernel_rfl)) (by unfold Func.isWrapper; first | (rw [if_pos (by decide +kernel)]; kernel_rfl) | (rw [if_neg (by decide +kernel)]; exact ⟨rfl, rfl⟩))
    (fun os started H enc _ => FnExactEngAdd_lifted os started H enc)
theorem FnExactEngAdd_proved : Rows.FnExactEngAddSaid := FnExactEngAdd_over
end Go.Proofs.YtenbloaopcfdlaaGreat
