/- The law FnExactMemoFor: for every input it returns true, and each argument reads afterwards as it read before. No condition. -/
import Derived.Test.YtenbloaopcfdlaaRows
import Derived.Test.YtenbloaopcfdlaaW3
namespace Go.Proofs.Ytenbloaopcfdlaa
open Go.ChangeShapes Go.WideShapes Go.ChangeAt Go.RowKit Am
set_option linter.unusedVariables false
set_option linter.unusedSimpArgs false
set_option maxRecDepth 100000

theorem FnExactMemoFor_walk (w : World) (a0 : NKept) (f0 : a0.fit) (v0 : Value) (r0 : RT (fun b => b < w.heap.size) w [] [] (.agg a0.ac) v0) (a1 : Int) (h1 : R64 a1) (a2 : GSpace) (h2 : a2.ok) (a3 : GSpace) (h3 : a3.ok) (a4 : Bool) :
    Calls Try.prog 3 #[v0, .int .i64 a1, .agg #[.int .i64 a2.mode, .int .i64 a2.n], .agg #[.int .i64 a3.mode, .int .i64 a3.n], .bool a4] w fun e w' => e = .returned (.bool true) ∧ Below w.heap.size w w' := laws_FnExactMemoFor_w w a0 f0 v0 r0 a1 a2 a3 a4
set_option maxHeartbeats 1600000 in
set_option maxRecDepth 100000 in
theorem FnExactMemoFor_lifted (os : Os) (started : os.Started) (H : Type) (enc : TypeId × Value → H) :
    ReturnsInHanded {} Try.checked os 3 .any (Rows.fnExactMemoForSpec.pre6 enc Try.prog Try.f3 Rows.fnExactMemoForRow.domain false) (Rows.fnExactMemoForSpec.post enc Try.prog Try.f3 false true false false) := by
  refine returnsInHanded_of_change (C := Try.checked) own started (by kernel_rfl) Try.func3
    (ChangeSpec.witness6 (enc := enc) (C := Try.checked) false ⟨#[], #[.agg #[.slice none 0 0, .slice none 0 0], .int .i64 0, .agg #[.int .i64 0, .int .i64 0], .agg #[.int .i64 0, .int .i64 0], .bool false], []⟩ 8 (by kernel_rfl) (by kernel_rfl) (by kernel_rfl) (by kernel_rfl)) ?_
  intro W base args ds gs before hval hW hcnd _
  have hpost : ∀ W', Below W.heap.size W W' → Rows.fnExactMemoForSpec.post enc Try.prog Try.f3 false true false false W args (.bool true) W' := by
    intro W' hx
    refine law_post laidOut (by kernel_rfl) rfl ?_ (t := 4) (by kernel_rfl) Try.underlying4 hW hx
    obtain ⟨p, q, hA, hV, rfl, hfz, hnd⟩ := hW
    obtain ⟨rfl, rfl⟩ := trodVars_none hV
    have hA1 : DataW.TrodAll enc Try.prog W 0 (fun _ => true) true Try.f3.params.toList args.toList ds p := hA
    rw [Try.params3] at hA1
    obtain ⟨v0, vs0, d0, ds0, p0, q0, hargs, rfl, rfl, h0, r0⟩ := trodAll_cons hA1
    obtain ⟨v1, vs1, d1, ds1, p1, q1, rfl, rfl, rfl, h1, r1⟩ := trodAll_cons r0
    obtain ⟨v2, vs2, d2, ds2, p2, q2, rfl, rfl, rfl, h2, r2⟩ := trodAll_cons r1
    obtain ⟨v3, vs3, d3, ds3, p3, q3, rfl, rfl, rfl, h3, r3⟩ := trodAll_cons r2
    obtain ⟨v4, vs4, d4, ds4, p4, q4, rfl, rfl, rfl, h4, r4⟩ := trodAll_cons r3
    obtain ⟨rfl, rfl, rfl⟩ := trodAll_nil r4
    rfl
  have hval' := hval
  obtain ⟨p, q, hA, hV, rfl, hfz, hnd⟩ := hW
  have hA1 : DataW.TrodAll enc Try.prog W 0 (fun _ => true) true Try.f3.params.toList args.toList ds p := hA
  rw [Try.params3] at hA1
  obtain ⟨v0, vs0, d0, ds0, p0, q0, hargs, rfl, rfl, h0, r0⟩ := trodAll_cons hA1
  obtain ⟨v1, vs1, d1, ds1, p1, q1, rfl, rfl, rfl, h1, r1⟩ := trodAll_cons r0
  obtain ⟨v2, vs2, d2, ds2, p2, q2, rfl, rfl, rfl, h2, r2⟩ := trodAll_cons r1
  obtain ⟨v3, vs3, d3, ds3, p3, q3, rfl, rfl, rfl, h3, r3⟩ := trodAll_cons r2
  obtain ⟨v4, vs4, d4, ds4, p4, q4, rfl, rfl, rfl, h4, r4⟩ := trodAll_cons r3
  obtain ⟨rfl, rfl, rfl⟩ := trodAll_nil r4
  obtain rfl : args = #[v0, v1, v2, v3, v4] := by cases args; simp_all
  rw [Try.params3] at hval'
  obtain ⟨x0, t0, s0⟩ := open_struct laidOut 8 NKept.sh (t := 25) (of_decide_eq_true (by kernel_rfl)) Try.underlying25 (by kernel_rfl) (hval' 0 25 v0 rfl rfl) h0
  obtain ⟨a0, e0, f0⟩ := NKept.of_ _ t0
  rw [e0] at s0
  obtain ⟨a1, rfl, rfl, rfl, w1⟩ := open_int Try.underlying3 (hval' 1 3 v1 rfl rfl) h1
  obtain ⟨g2, b2, k2, rfl⟩ := open_flat laidOut Try.underlying3 Try.underlying4 GSpace.ks (t := 27) (of_decide_eq_true (by kernel_rfl)) Try.underlying27 (by kernel_rfl) (hval' 2 27 v2 rfl rfl) h2
  obtain ⟨g3, b3, k3, rfl⟩ := open_flat laidOut Try.underlying3 Try.underlying4 GSpace.ks (t := 27) (of_decide_eq_true (by kernel_rfl)) Try.underlying27 (by kernel_rfl) (hval' 3 27 v3 rfl rfl) h3
  obtain ⟨a4, rfl, rfl, rfl⟩ := open_bool Try.underlying4 (hval' 4 4 v4 rfl rfl) h4
  exact (FnExactMemoFor_walk W a0 f0 v0 s0 a1 (r64_of_wf w1) (GSpace.of g2 b2) (GSpace.ok_of g2 b2 k2) (GSpace.of g3 b3) (GSpace.ok_of g3 b3 k3) a4).mono fun e W' ⟨he, hx⟩ => ⟨_, he, hpost W' hx⟩
theorem FnExactMemoFor_e1 : (Rows.fnExactMemoForRow.shortTexts.isNone && Try.pinned.checked.prog.stopsHeard && Try.pinned.checked.prog.mayEnter) = true := by kernel_rfl
theorem FnExactMemoFor_e2 : (Rows.fnExactMemoForRow.lifted == Try.pinned.checked.prog.liftsFinal) = true := by kernel_rfl
theorem FnExactMemoFor_e3 : (Try.pinned.checked.prog.make == some Rows.fnExactMemoForRow.make) = true := by kernel_rfl
theorem FnExactMemoFor_closed : joinedFacts Try.pinned.checked.prog 3 Try.f3 Rows.fnExactMemoForSpec Rows.fnExactMemoForRow = true := by
  unfold joinedFacts
  have h1 := FnExactMemoFor_e1
  simp only [Bool.and_eq_true] at h1
  rw [h1.1.1, h1.1.2, h1.2, FnExactMemoFor_e2, FnExactMemoFor_e3, show laidOutB Try.pinned.checked.prog = true from laidOut]
  show _ = true
  kernel_rfl
theorem FnExactMemoFor_over : Rows.fnExactMemoForRow.holds Try.pinned (OpenSpec.ofChange Rows.fnExactMemoForSpec) :=
  OpenClaim.holds_of_wide 3 Try.f3 rfl rfl rfl rfl rfl rfl rfl ⟨rfl, rfl, rfl, rfl, rfl⟩ rfl rfl rfl rfl rfl (by kernel_rfl) Try.func3 FnExactMemoFor_closed
    (of_decide_eq_true (by kernel_rfl)) (by unfold Func.isWrapper; first | (rw [if_pos (by decide +kernel)]; kernel_rfl) | (rw [if_neg (by decide +kernel)]; exact ⟨rfl, rfl⟩))
    (fun os started H enc _ => FnExactMemoFor_lifted os started H enc)
theorem FnExactMemoFor_proved : Rows.FnExactMemoForSaid := FnExactMemoFor_over

end Go.Proofs.Ytenbloaopcfdlaa
