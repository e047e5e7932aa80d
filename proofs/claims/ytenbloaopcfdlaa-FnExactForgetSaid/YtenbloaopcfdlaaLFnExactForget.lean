/- The law FnExactForget: for every input it returns true, and each argument reads afterwards as it read before. No condition. -/
import Derived.Test.YtenbloaopcfdlaaRows
import Derived.Test.YtenbloaopcfdlaaW12
namespace Go.Proofs.Ytenbloaopcfdlaa
open Go.ChangeShapes Go.WideShapes Go.ChangeAt Go.RowKit Am
set_option linter.unusedVariables false
set_option linter.unusedSimpArgs false
set_option maxRecDepth 100000

theorem FnExactForget_walk (w : World) (a0 : NTree) (f0 : a0.fit) (v0 : Value) (r0 : RT (fun b => b < w.heap.size) w [] [] (.agg a0.ac) v0) (a1 : NKept) (f1 : a1.fit) (v1 : Value) (r1 : RT (fun b => b < w.heap.size) w [] [] (.agg a1.ac) v1) (a2 : Int) (h2 : R64 a2) :
    Calls Try.prog 5 #[v0, v1, .int .i64 a2] w fun e w' => e = .returned (.bool true) ∧ Below w.heap.size w w' := laws_FnExactForget_w w a0 f0 v0 r0 a1 f1 v1 r1 a2
set_option maxHeartbeats 1600000 in
set_option maxRecDepth 100000 in
theorem FnExactForget_lifted (os : Os) (started : os.Started) (H : Type) (enc : TypeId × Value → H) :
    ReturnsInHanded {} Try.checked os 5 .any (Rows.fnExactForgetSpec.pre6 enc Try.prog Try.f5 Rows.fnExactForgetRow.domain false) (Rows.fnExactForgetSpec.post enc Try.prog Try.f5 false true false false) := by
  refine returnsInHanded_of_change (C := Try.checked) own started (by kernel_rfl) Try.func5
    (ChangeSpec.witness6 (enc := enc) (C := Try.checked) false ⟨#[], #[.agg #[.slice none 0 0], .agg #[.slice none 0 0, .slice none 0 0], .int .i64 0], []⟩ 8 (by kernel_rfl) (by kernel_rfl) (by kernel_rfl) (by kernel_rfl)) ?_
  intro W base args ds gs before hval hW hcnd _
  have hpost : ∀ W', Below W.heap.size W W' → Rows.fnExactForgetSpec.post enc Try.prog Try.f5 false true false false W args (.bool true) W' := by
    intro W' hx
    refine law_post laidOut (by kernel_rfl) rfl ?_ (t := 4) (by kernel_rfl) Try.underlying4 hW hx
    obtain ⟨p, q, hA, hV, rfl, hfz, hnd⟩ := hW
    obtain ⟨rfl, rfl⟩ := trodVars_none hV
    have hA1 : DataW.TrodAll enc Try.prog W 0 (fun _ => true) true Try.f5.params.toList args.toList ds p := hA
    rw [Try.params5] at hA1
    obtain ⟨v0, vs0, d0, ds0, p0, q0, hargs, rfl, rfl, h0, r0⟩ := trodAll_cons hA1
    obtain ⟨v1, vs1, d1, ds1, p1, q1, rfl, rfl, rfl, h1, r1⟩ := trodAll_cons r0
    obtain ⟨v2, vs2, d2, ds2, p2, q2, rfl, rfl, rfl, h2, r2⟩ := trodAll_cons r1
    obtain ⟨rfl, rfl, rfl⟩ := trodAll_nil r2
    rfl
  have hval' := hval
  obtain ⟨p, q, hA, hV, rfl, hfz, hnd⟩ := hW
  have hA1 : DataW.TrodAll enc Try.prog W 0 (fun _ => true) true Try.f5.params.toList args.toList ds p := hA
  rw [Try.params5] at hA1
  obtain ⟨v0, vs0, d0, ds0, p0, q0, hargs, rfl, rfl, h0, r0⟩ := trodAll_cons hA1
  obtain ⟨v1, vs1, d1, ds1, p1, q1, rfl, rfl, rfl, h1, r1⟩ := trodAll_cons r0
  obtain ⟨v2, vs2, d2, ds2, p2, q2, rfl, rfl, rfl, h2, r2⟩ := trodAll_cons r1
  obtain ⟨rfl, rfl, rfl⟩ := trodAll_nil r2
  obtain rfl : args = #[v0, v1, v2] := by cases args; simp_all
  rw [Try.params5] at hval'
  obtain ⟨x0, t0, s0⟩ := open_struct laidOut 8 NTree.sh (t := 48) (of_decide_eq_true (by kernel_rfl)) Try.underlying48 (by kernel_rfl) (hval' 0 48 v0 rfl rfl) h0
  obtain ⟨a0, e0, f0⟩ := NTree.of_ _ t0
  rw [e0] at s0
  obtain ⟨x1, t1, s1⟩ := open_struct laidOut 8 NKept.sh (t := 25) (of_decide_eq_true (by kernel_rfl)) Try.underlying25 (by kernel_rfl) (hval' 1 25 v1 rfl rfl) h1
  obtain ⟨a1, e1, f1⟩ := NKept.of_ _ t1
  rw [e1] at s1
  obtain ⟨a2, rfl, rfl, rfl, w2⟩ := open_int Try.underlying3 (hval' 2 3 v2 rfl rfl) h2
  exact (FnExactForget_walk W a0 f0 v0 s0 a1 f1 v1 s1 a2 (r64_of_wf w2)).mono fun e W' ⟨he, hx⟩ => ⟨_, he, hpost W' hx⟩
theorem FnExactForget_e1 : (Rows.fnExactForgetRow.shortTexts.isNone && Try.pinned.checked.prog.stopsHeard && Try.pinned.checked.prog.mayEnter) = true := by kernel_rfl
theorem FnExactForget_e2 : (Rows.fnExactForgetRow.lifted == Try.pinned.checked.prog.liftsFinal) = true := by kernel_rfl
theorem FnExactForget_e3 : (Try.pinned.checked.prog.make == some Rows.fnExactForgetRow.make) = true := by kernel_rfl
theorem FnExactForget_closed : joinedFacts Try.pinned.checked.prog 5 Try.f5 Rows.fnExactForgetSpec Rows.fnExactForgetRow = true := by
  unfold joinedFacts
  have h1 := FnExactForget_e1
  simp only [Bool.and_eq_true] at h1
  rw [h1.1.1, h1.1.2, h1.2, FnExactForget_e2, FnExactForget_e3, show laidOutB Try.pinned.checked.prog = true from laidOut]
  show _ = true
  kernel_rfl
theorem FnExactForget_over : Rows.fnExactForgetRow.holds Try.pinned (OpenSpec.ofChange Rows.fnExactForgetSpec) :=
  OpenClaim.holds_of_wide 5 Try.f5 rfl rfl rfl rfl rfl rfl rfl ⟨rfl, rfl, rfl, rfl, rfl⟩ rfl rfl rfl rfl rfl (by kernel_rfl) Try.func5 FnExactForget_closed
    (of_decide_eq_true (by kernel_rfl)) (by unfold Func.isWrapper; first | (rw [if_pos (by decide +kernel)]; kernel_rfl) | (rw [if_neg (by decide +kernel)]; exact ⟨rfl, rfl⟩))
    (fun os started H enc _ => FnExactForget_lifted os started H enc)
theorem FnExactForget_proved : Rows.FnExactForgetSaid := FnExactForget_over

end Go.Proofs.Ytenbloaopcfdlaa
