/- The law FnExactAbsolute: for every input it returns true, and each argument reads afterwards as it read before. No condition. -/
import Derived.Test.YtenbloaopcfdlaaRows
import Derived.Test.YtenbloaopcfdlaaW7
namespace Go.Proofs.Ytenbloaopcfdlaa
open Go.ChangeShapes Go.WideShapes Go.ChangeAt Go.RowKit Am
set_option linter.unusedVariables false
set_option linter.unusedSimpArgs false
set_option maxRecDepth 100000

theorem FnExactAbsolute_walk (w : World) (a0 : NTree) (f0 : a0.fit) (v0 : Value) (r0 : RT (fun b => b < w.heap.size) w [] [] (.agg a0.ac) v0) (a1 : List GFrame) (v1 : Value) (r1 : RepS 5 GFrame.c w v1 a1) (z1 : ∀ x ∈ a1, ∃ (g : Nat → Int) (h : Nat → Bool), (∀ i, R64 (g i)) ∧ x = GFrame.of g h) :
    Calls Try.prog 4 #[v0, v1] w fun e w' => e = .returned (.bool true) ∧ Below w.heap.size w w' := laws_FnExactAbsolute_w w a0 f0 v0 r0 a1 v1 r1 z1
set_option maxHeartbeats 1600000 in
set_option maxRecDepth 100000 in
theorem FnExactAbsolute_lifted (os : Os) (started : os.Started) (H : Type) (enc : TypeId × Value → H) :
    ReturnsInHanded {} Try.checked os 4 .any (Rows.fnExactAbsoluteSpec.pre6 enc Try.prog Try.f4 Rows.fnExactAbsoluteRow.domain false) (Rows.fnExactAbsoluteSpec.post enc Try.prog Try.f4 false true false false) := by
  refine returnsInHanded_of_change (C := Try.checked) own started (by kernel_rfl) Try.func4
    (ChangeSpec.witness6 (enc := enc) (C := Try.checked) false ⟨#[], #[.agg #[.slice none 0 0], .slice none 0 0], []⟩ 8 (by kernel_rfl) (by kernel_rfl) (by kernel_rfl) (by kernel_rfl)) ?_
  intro W base args ds gs before hval hW hcnd _
  have hpost : ∀ W', Below W.heap.size W W' → Rows.fnExactAbsoluteSpec.post enc Try.prog Try.f4 false true false false W args (.bool true) W' := by
    intro W' hx
    refine law_post laidOut (by kernel_rfl) rfl ?_ (t := 4) (by kernel_rfl) Try.underlying4 hW hx
    obtain ⟨p, q, hA, hV, rfl, hfz, hnd⟩ := hW
    obtain ⟨rfl, rfl⟩ := trodVars_none hV
    have hA1 : DataW.TrodAll enc Try.prog W 0 (fun _ => true) true Try.f4.params.toList args.toList ds p := hA
    rw [Try.params4] at hA1
    obtain ⟨v0, vs0, d0, ds0, p0, q0, hargs, rfl, rfl, h0, r0⟩ := trodAll_cons hA1
    obtain ⟨v1, vs1, d1, ds1, p1, q1, rfl, rfl, rfl, h1, r1⟩ := trodAll_cons r0
    obtain ⟨rfl, rfl, rfl⟩ := trodAll_nil r1
    rfl
  have hval' := hval
  obtain ⟨p, q, hA, hV, rfl, hfz, hnd⟩ := hW
  have hA1 : DataW.TrodAll enc Try.prog W 0 (fun _ => true) true Try.f4.params.toList args.toList ds p := hA
  rw [Try.params4] at hA1
  obtain ⟨v0, vs0, d0, ds0, p0, q0, hargs, rfl, rfl, h0, r0⟩ := trodAll_cons hA1
  obtain ⟨v1, vs1, d1, ds1, p1, q1, rfl, rfl, rfl, h1, r1⟩ := trodAll_cons r0
  obtain ⟨rfl, rfl, rfl⟩ := trodAll_nil r1
  obtain rfl : args = #[v0, v1] := by cases args; simp_all
  rw [Try.params4] at hval'
  obtain ⟨x0, t0, s0⟩ := open_struct laidOut 8 NTree.sh (t := 48) (of_decide_eq_true (by kernel_rfl)) Try.underlying48 (by kernel_rfl) (hval' 0 48 v0 rfl rfl) h0
  obtain ⟨a0, e0, f0⟩ := NTree.of_ _ t0
  rw [e0] at s0
  obtain ⟨a1, s1, z1⟩ := open_rep GFrame.of GFrame.c GFrame.ks GFrame.by (by decide) laidOut Try.underlying3 Try.underlying4 (te := 100) (of_decide_eq_true (by kernel_rfl)) Try.underlying49 (by kernel_rfl) (by kernel_rfl) h1 (hval' 1 49 v1 rfl rfl)
  exact (FnExactAbsolute_walk W a0 f0 v0 s0 a1 v1 s1 z1).mono fun e W' ⟨he, hx⟩ => ⟨_, he, hpost W' hx⟩
theorem FnExactAbsolute_e1 : (Rows.fnExactAbsoluteRow.shortTexts.isNone && Try.pinned.checked.prog.stopsHeard && Try.pinned.checked.prog.mayEnter) = true := by kernel_rfl
theorem FnExactAbsolute_e2 : (Rows.fnExactAbsoluteRow.lifted == Try.pinned.checked.prog.liftsFinal) = true := by kernel_rfl
theorem FnExactAbsolute_e3 : (Try.pinned.checked.prog.make == some Rows.fnExactAbsoluteRow.make) = true := by kernel_rfl
theorem FnExactAbsolute_closed : joinedFacts Try.pinned.checked.prog 4 Try.f4 Rows.fnExactAbsoluteSpec Rows.fnExactAbsoluteRow = true := by
  unfold joinedFacts
  have h1 := FnExactAbsolute_e1
  simp only [Bool.and_eq_true] at h1
  rw [h1.1.1, h1.1.2, h1.2, FnExactAbsolute_e2, FnExactAbsolute_e3, show laidOutB Try.pinned.checked.prog = true from laidOut]
  show _ = true
  kernel_rfl
theorem FnExactAbsolute_over : Rows.fnExactAbsoluteRow.holds Try.pinned (OpenSpec.ofChange Rows.fnExactAbsoluteSpec) :=
  OpenClaim.holds_of_wide 4 Try.f4 rfl rfl rfl rfl rfl rfl rfl ⟨rfl, rfl, rfl, rfl, rfl⟩ rfl rfl rfl rfl rfl (by kernel_rfl) Try.func4 FnExactAbsolute_closed
    (of_decide_eq_true (by kernel_rfl)) (by unfold Func.isWrapper; first | (rw [if_pos (by decide +kernel)]; kernel_rfl) | (rw [if_neg (by decide +kernel)]; exact ⟨rfl, rfl⟩))
    (fun os started H enc _ => FnExactAbsolute_lifted os started H enc)
theorem FnExactAbsolute_proved : Rows.FnExactAbsoluteSaid := FnExactAbsolute_over

end Go.Proofs.Ytenbloaopcfdlaa
