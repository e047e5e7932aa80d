/- The law FnExactEngRemove: for every input it returns true, and each argument reads afterwards as it read before. No condition. -/
import Derived.Test.YtenbloaopcfdlaaGreatRows
import Derived.Test.YtenbloaopcfdlaaGreatRbi
namespace Go.Proofs.YtenbloaopcfdlaaGreat
open Go.ChangeShapes Go.WideShapes Go.ChangeAt Go.RowKit Am
set_option linter.unusedVariables false
set_option linter.unusedSimpArgs false
set_option maxRecDepth 100000
theorem FnExactEngRemove_walk (w : World) (a0 : NEngine) (f0 : a0.fit) (v0 : Value) (r0 : RT (fun b => b < w.heap.size) w [] [] (.agg a0.ac) v0) (a1 : Int) (h1 : R64 a1) (a2 : Int) (h2 : R64 a2) :
    Calls Tryz.prog 8 #[v0, .int .i64 a1, .int .i64 a2] w fun e w' => e = .returned (.bool true) ∧ Below w.heap.size w w' := laws_FnExactEngRemove_w w a0 f0 v0 r0 a1 a2
set_option maxHeartbeats 1600000 in
set_option maxRecDepth 100000 in
theorem FnExactEngRemove_lifted (os : Os) (started : os.Started) (H : Type) (enc : TypeId × Value → H) :
    ReturnsInHanded {} Tryz.checked os 8 .any (Rows.fnExactEngRemoveSpec.pre6 enc Tryz.prog Tryz.f8 Rows.fnExactEngRemoveRow.domain false) (Rows.fnExactEngRemoveSpec.post enc Tryz.prog Tryz.f8 false true false false) := by
  refine returnsInHanded_of_change (C := Tryz.checked) own started (by kernel_rfl) Tryz.func8
    (ChangeSpec.witness6 (enc := enc) (C := Tryz.checked) false ⟨#[], #[.agg #[.slice none 0 0, .slice none 0 0, .slice none 0 0, .slice none 0 0, .int .i64 0, .int .i64 0, .int .i64 0, .bool false], .int .i64 0, .int .i64 0], []⟩ 8 (by kernel_rfl) (by kernel_rfl) (by kernel_rfl) (by kernel_rfl)) ?_
  intro W base args ds gs before hval hW hcnd _
  have hpost : ∀ W', Below W.heap.size W W' → Rows.fnExactEngRemoveSpec.post enc Tryz.prog Tryz.f8 false true false false W args (.bool true) W' := by
    intro W' hx
    refine law_post laidOut (by kernel_rfl) rfl ?_ (t := 4) (by kernel_rfl) Tryz.underlying4 hW hx
    obtain ⟨p, q, hA, hV, rfl, hfz, hnd⟩ := hW
    obtain ⟨rfl, rfl⟩ := trodVars_none hV
    have hA1 : DataW.TrodAll enc Tryz.prog W 0 (fun _ => true) true Tryz.f8.params.toList args.toList ds p := hA
    rw [Tryz.params8] at hA1
    obtain ⟨v0, vs0, d0, ds0, p0, q0, hargs, rfl, rfl, h0, r0⟩ := trodAll_cons hA1
    obtain ⟨v1, vs1, d1, ds1, p1, q1, rfl, rfl, rfl, h1, r1⟩ := trodAll_cons r0
    obtain ⟨v2, vs2, d2, ds2, p2, q2, rfl, rfl, rfl, h2, r2⟩ := trodAll_cons r1
    obtain ⟨rfl, rfl, rfl⟩ := trodAll_nil r2
    rfl
  have hval' := hval
  obtain ⟨p, q, hA, hV, rfl, hfz, hnd⟩ := hW
  have hA1 : DataW.TrodAll enc Tryz.prog W 0 (fun _ => true) true Tryz.f8.params.toList args.toList ds p := hA
  rw [Tryz.params8] at hA1
  obtain ⟨v0, vs0, d0, ds0, p0, q0, hargs, rfl, rfl, h0, r0⟩ := trodAll_cons hA1
  obtain ⟨v1, vs1, d1, ds1, p1, q1, rfl, rfl, rfl, h1, r1⟩ := trodAll_cons r0
  obtain ⟨v2, vs2, d2, ds2, p2, q2, rfl, rfl, rfl, h2, r2⟩ := trodAll_cons r1
  obtain ⟨rfl, rfl, rfl⟩ := trodAll_nil r2
  obtain rfl : args = #[v0, v1, v2] := by cases args; simp_all
  rw [Tryz.params8] at hval'
  obtain ⟨x0, t0, s0⟩ := open_struct laidOut 8 NEngine.sh (t := 31) (of_decide_eq_true (by kernel_rfl)) Tryz.underlying31 (by kernel_rfl) (hval' 0 31 v0 rfl rfl) h0
  obtain ⟨a0, e0, f0⟩ := NEngine.of_ _ t0
  rw [e0] at s0
  obtain ⟨a1, rfl, rfl, rfl, w1⟩ := open_int Tryz.underlying3 (hval' 1 3 v1 rfl rfl) h1
  obtain ⟨a2, rfl, rfl, rfl, w2⟩ := open_int Tryz.underlying3 (hval' 2 3 v2 rfl rfl) h2
  exact (FnExactEngRemove_walk W a0 f0 v0 s0 a1 (r64_of_wf w1) a2 (r64_of_wf w2)).mono fun e W' ⟨he, hx⟩ => ⟨_, he, hpost W' hx⟩
theorem FnExactEngRemove_e1 : (Rows.fnExactEngRemoveRow.shortTexts.isNone && Tryz.pinned.checked.prog.stopsHeard && Tryz.pinned.checked.prog.mayEnter) = true := by kernel_rfl
theorem FnExactEngRemove_e2 : (Rows.fnExactEngRemoveRow.lifted == Tryz.pinned.checked.prog.liftsFinal) = true := by kernel_rfl
theorem FnExactEngRemove_e3 : (Tryz.pinned.checked.prog.make == some Rows.fnExactEngRemoveRow.make) = true := by kernel_rfl
theorem FnExactEngRemove_closed : joinedFacts Tryz.pinned.checked.prog 8 Tryz.f8 Rows.fnExactEngRemoveSpec Rows.fnExactEngRemoveRow = true := by
  unfold joinedFacts
  have h1 := FnExactEngRemove_e1
  simp only [Bool.and_eq_true] at h1
  rw [h1.1.1, h1.1.2, h1.2, FnExactEngRemove_e2, FnExactEngRemove_e3, show laidOutB Tryz.pinned.checked.prog = true from laidOut]
  show _ = true
  kernel_rfl
theorem FnExactEngRemove_over : Rows.fnExactEngRemoveRow.holds Tryz.pinned (OpenSpec.ofChange Rows.fnExactEngRemoveSpec) :=
  OpenClaim.holds_of_wide 8 Tryz.f8 rfl rfl rfl rfl rfl rfl rfl ⟨rfl, rfl, rfl, rfl, rfl⟩ rfl rfl rfl rfl rfl (by kernel_rfl) Tryz.func8 FnExactEngRemove_closed
    (of_decide_eq_true (by kernel_rfl)) (by unfold Func.isWrapper; first | (rw [if_pos (by decide +kernel)]; kernel_rfl) | (rw [if_neg (by decide +kernel)]; exact ⟨rfl, rfl⟩))
    (fun os started H enc _ => FnExactEngRemove_lifted os started H enc)
theorem FnExactEngRemove_proved : Rows.FnExactEngRemoveSaid := FnExactEngRemove_over
end Go.Proofs.YtenbloaopcfdlaaGreat
