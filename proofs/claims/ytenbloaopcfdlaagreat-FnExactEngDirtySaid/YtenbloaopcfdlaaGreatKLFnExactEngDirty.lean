/- The law FnExactEngDirty: for every input it returns true, and each argument reads afterwards as it read before. No condition. -/
import Derived.Test.YtenbloaopcfdlaaGreatRows
import Derived.Test.YtenbloaopcfdlaaGreatKxirtyaa
namespace Go.Proofs.YtenbloaopcfdlaaGreat
open Go.ChangeShapes Go.WideShapes Go.ChangeAt Go.RowKit Am
set_option linter.unusedVariables false
set_option linter.unusedSimpArgs false
set_option maxRecDepth 100000
theorem FnExactEngDirty_walk (w : World) (a0 : NEngine) (f0 : a0.fit) (v0 : Value) (r0 : RT (fun b => b < w.heap.size) w [] [] (.agg a0.ac) v0) (a1 : Int) (h1 : R64 a1) :
    Calls Tryz.prog 4 #[v0, .int .i64 a1] w fun e w' => e = .returned (.bool true) ∧ Below w.heap.size w w' := laws_FnExactEngDirty_w w a0 f0 v0 r0 a1
set_option maxHeartbeats 1600000 in
set_option maxRecDepth 100000 in
theorem FnExactEngDirty_lifted (os : Os) (started : os.Started) (H : Type) (enc : TypeId × Value → H) :
    ReturnsInHanded {} Tryz.checked os 4 .any (Rows.fnExactEngDirtySpec.pre6 enc Tryz.prog Tryz.f4 Rows.fnExactEngDirtyRow.domain false) (Rows.fnExactEngDirtySpec.post enc Tryz.prog Tryz.f4 false true false false) := by
  refine returnsInHanded_of_change (C := Tryz.checked) own started (by kernel_rfl) Tryz.func4
    (ChangeSpec.witness6 (enc := enc) (C := Tryz.checked) false ⟨#[], #[.agg #[.slice none 0 0, .slice none 0 0, .slice none 0 0, .slice none 0 0, .int .i64 0, .int .i64 0, .int .i64 0, .bool false], .int .i64 0], []⟩ 8 (by kernel_rfl) (by kernel_rfl) (by kernel_rfl) (by kernel_rfl)) ?_
  intro W base args ds gs before hval hW hcnd _
  have hpost : ∀ W', Below W.heap.size W W' → Rows.fnExactEngDirtySpec.post enc Tryz.prog Tryz.f4 false true false false W args (.bool true) W' := by
    intro W' hx
    refine law_post laidOut (by kernel_rfl) rfl ?_ (t := 4) (by kernel_rfl) Tryz.underlying4 hW hx
    obtain ⟨p, q, hA, hV, rfl, hfz, hnd⟩ := hW
    obtain ⟨rfl, rfl⟩ := trodVars_none hV
    have hA1 : DataW.TrodAll enc Tryz.prog W 0 (fun _ => true) true Tryz.f4.params.toList args.toList ds p := hA
    rw [Tryz.params4] at hA1
    obtain ⟨v0, vs0, d0, ds0, p0, q0, hargs, rfl, rfl, h0, r0⟩ := trodAll_cons hA1
    obtain ⟨v1, vs1, d1, ds1, p1, q1, rfl, rfl, rfl, h1, r1⟩ := trodAll_cons r0
    obtain ⟨rfl, rfl, rfl⟩ := trodAll_nil r1
    rfl
  have hval' := hval
  obtain ⟨p, q, hA, hV, rfl, hfz, hnd⟩ := hW
  have hA1 : DataW.TrodAll enc Tryz.prog W 0 (fun _ => true) true Tryz.f4.params.toList args.toList ds p := hA
  rw [Tryz.params4] at hA1
  obtain ⟨v0, vs0, d0, ds0, p0, q0, hargs, rfl, rfl, h0, r0⟩ := trodAll_cons hA1
  obtain ⟨v1, vs1, d1, ds1, p1, q1, rfl, rfl, rfl, h1, r1⟩ := trodAll_cons r0
  obtain ⟨rfl, rfl, rfl⟩ := trodAll_nil r1
  obtain rfl : args = #[v0, v1] := by cases args; simp_all
  rw [Tryz.params4] at hval'
  obtain ⟨x0, t0, s0⟩ := open_struct laidOut 8 NEngine.sh (t := 31) (of_decide_eq_true (by kernel_rfl)) Tryz.underlying31 (by kernel_rfl) (hval' 0 31 v0 rfl rfl) h0
  obtain ⟨a0, e0, f0⟩ := NEngine.of_ _ t0
  rw [e0] at s0
  obtain ⟨a1, rfl, rfl, rfl, w1⟩ := open_int Tryz.underlying3 (hval' 1 3 v1 rfl rfl) h1
  exact (FnExactEngDirty_walk W a0 f0 v0 s0 a1 (r64_of_wf w1)).mono fun e W' ⟨he, hx⟩ => ⟨_, he, hpost W' hx⟩
theorem FnExactEngDirty_e1 : (Rows.fnExactEngDirtyRow.shortTexts.isNone && Tryz.pinned.checked.prog.stopsHeard && Tryz.pinned.checked.prog.mayEnter) = true := by kernel_rfl
theorem FnExactEngDirty_e2 : (Rows.fnExactEngDirtyRow.lifted == Tryz.pinned.checked.prog.liftsFinal) = true := by kernel_rfl
theorem FnExactEngDirty_e3 : (Tryz.pinned.checked.prog.make == some Rows.fnExactEngDirtyRow.make) = true := by kernel_rfl
theorem FnExactEngDirty_closed : joinedFacts Tryz.pinned.checked.prog 4 Tryz.f4 Rows.fnExactEngDirtySpec Rows.fnExactEngDirtyRow = true := by
  unfold joinedFacts
  have h1 := FnExactEngDirty_e1
  simp only [Bool.and_eq_true] at h1
  rw [h1.1.1, h1.1.2, h1.2, FnExactEngDirty_e2, FnExactEngDirty_e3, show laidOutB Tryz.pinned.checked.prog = true from laidOut]
  show _ = true
  kernel_rfl
theorem FnExactEngDirty_over : Rows.fnExactEngDirtyRow.holds Tryz.pinned (OpenSpec.ofChange Rows.fnExactEngDirtySpec) :=
  OpenClaim.holds_of_wide 4 Tryz.f4 rfl rfl rfl rfl rfl rfl rfl ⟨rfl, rfl, rfl, rfl, rfl⟩ rfl rfl rfl rfl rfl (by kernel_rfl) Tryz.func4 FnExactEngDirty_closed
    (of_decide_eq_true (by kernel_rfl)) (by unfold Func.isWrapper; first | (rw [if_pos (by decide +kernel)]; kernel_rfl) | (rw [if_neg (by decide +kernel)]; exact ⟨rfl, rfl⟩))
    (fun os started H enc _ => FnExactEngDirty_lifted os started H enc)
theorem FnExactEngDirty_proved : Rows.FnExactEngDirtySaid := FnExactEngDirty_over
end Go.Proofs.YtenbloaopcfdlaaGreat
