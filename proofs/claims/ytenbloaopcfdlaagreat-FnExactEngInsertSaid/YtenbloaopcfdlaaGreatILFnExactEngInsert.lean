/- The law FnExactEngInsert: for every input it returns true, and each argument reads afterwards as it read before. No condition. -/
import Derived.Test.YtenbloaopcfdlaaGreatRows
import Derived.Test.YtenbloaopcfdlaaGreatIar
namespace Go.Proofs.YtenbloaopcfdlaaGreat
open Go.ChangeShapes Go.WideShapes Go.ChangeAt Go.RowKit Am
set_option linter.unusedVariables false
set_option linter.unusedSimpArgs false
set_option maxRecDepth 100000
theorem FnExactEngInsert_walk (w : World) (a0 : NEngine) (f0 : a0.fit) (v0 : Value) (r0 : RT (fun b => b < w.heap.size) w [] [] (.agg a0.ac) v0) (a1 : Int) (h1 : R64 a1) (a2 : Int) (h2 : R64 a2) (a3 : Int) (h3 : R64 a3) :
    Calls Tryz.prog 7 #[v0, .int .i64 a1, .int .i64 a2, .int .i64 a3] w fun e w' => e = .returned (.bool true) ∧ Below w.heap.size w w' := laws_FnExactEngInsert_w w a0 f0 v0 r0 a1 a2 a3
set_option maxHeartbeats 1600000 in
set_option maxRecDepth 100000 in
theorem FnExactEngInsert_lifted (os : Os) (started : os.Started) (H : Type) (enc : TypeId × Value → H) :
    ReturnsInHanded {} Tryz.checked os 7 .any (Rows.fnExactEngInsertSpec.pre6 enc Tryz.prog Tryz.f7 Rows.fnExactEngInsertRow.domain false) (Rows.fnExactEngInsertSpec.post enc Tryz.prog Tryz.f7 false true false false) := by
  refine returnsInHanded_of_change (C := Tryz.checked) own started (by kernel_rfl) Tryz.func7
    (ChangeSpec.witness6 (enc := enc) (C := Tryz.checked) false ⟨#[], #[.agg #[.slice none 0 0, .slice none 0 0, .slice none 0 0, .slice none 0 0, .int .i64 0, .int .i64 0, .int .i64 0, .bool false], .int .i64 0, .int .i64 0, .int .i64 0], []⟩ 8 (by kernel_rfl) (by kernel_rfl) (by kernel_rfl) (by kernel_rfl)) ?_
  intro W base args ds gs before hval hW hcnd _
  have hpost : ∀ W', Below W.heap.size W W' → Rows.fnExactEngInsertSpec.post enc Tryz.prog Tryz.f7 false true false false W args (.bool true) W' := by
    intro W' hx
    refine law_post laidOut (by kernel_rfl) rfl ?_ (t := 4) (by kernel_rfl) Tryz.underlying4 hW hx
    obtain ⟨p, q, hA, hV, rfl, hfz, hnd⟩ := hW
    obtain ⟨rfl, rfl⟩ := trodVars_none hV
    have hA1 : DataW.TrodAll enc Tryz.prog W 0 (fun _ => true) true Tryz.f7.params.toList args.toList ds p := hA
    rw [Tryz.params7] at hA1
    obtain ⟨v0, vs0, d0, ds0, p0, q0, hargs, rfl, rfl, h0, r0⟩ := trodAll_cons hA1
    obtain ⟨v1, vs1, d1, ds1, p1, q1, rfl, rfl, rfl, h1, r1⟩ := trodAll_cons r0
    obtain ⟨v2, vs2, d2, ds2, p2, q2, rfl, rfl, rfl, h2, r2⟩ := trodAll_cons r1
    obtain ⟨v3, vs3, d3, ds3, p3, q3, rfl, rfl, rfl, h3, r3⟩ := trodAll_cons r2
    obtain ⟨rfl, rfl, rfl⟩ := trodAll_nil r3
    rfl
  have hval' := hval
  obtain ⟨p, q, hA, hV, rfl, hfz, hnd⟩ := hW
  have hA1 : DataW.TrodAll enc Tryz.prog W 0 (fun _ => true) true Tryz.f7.params.toList args.toList ds p := hA
  rw [Tryz.params7] at hA1
  obtain ⟨v0, vs0, d0, ds0, p0, q0, hargs, rfl, rfl, h0, r0⟩ := trodAll_cons hA1
  obtain ⟨v1, vs1, d1, ds1, p1, q1, rfl, rfl, rfl, h1, r1⟩ := trodAll_cons r0
  obtain ⟨v2, vs2, d2, ds2, p2, q2, rfl, rfl, rfl, h2, r2⟩ := trodAll_cons r1
  obtain ⟨v3, vs3, d3, ds3, p3, q3, rfl, rfl, rfl, h3, r3⟩ := trodAll_cons r2
  obtain ⟨rfl, rfl, rfl⟩ := trodAll_nil r3
  obtain rfl : args = #[v0, v1, v2, v3] := by cases args; simp_all
  rw [Tryz.params7] at hval'
  obtain ⟨x0, t0, s0⟩ := open_struct laidOut 8 NEngine.sh (t := 31) (of_decide_eq_true (by kernel_rfl)) Tryz.underlying31 (by kernel_rfl) (hval' 0 31 v0 rfl rfl) h0
  obtain ⟨a0, e0, f0⟩ := NEngine.of_ _ t0
  rw [e0] at s0
  obtain ⟨a1, rfl, rfl, rfl, w1⟩ := open_int Tryz.underlying3 (hval' 1 3 v1 rfl rfl) h1
  obtain ⟨a2, rfl, rfl, rfl, w2⟩ := open_int Tryz.underlying3 (hval' 2 3 v2 rfl rfl) h2
  obtain ⟨a3, rfl, rfl, rfl, w3⟩ := open_int Tryz.underlying3 (hval' 3 3 v3 rfl rfl) h3
  exact (FnExactEngInsert_walk W a0 f0 v0 s0 a1 (r64_of_wf w1) a2 (r64_of_wf w2) a3 (r64_of_wf w3)).mono fun e W' ⟨he, hx⟩ => ⟨_, he, hpost W' hx⟩
theorem FnExactEngInsert_e1 : (Rows.fnExactEngInsertRow.shortTexts.isNone && Tryz.pinned.checked.prog.stopsHeard && Tryz.pinned.checked.prog.mayEnter) = true := by kernel_rfl
theorem FnExactEngInsert_e2 : (Rows.fnExactEngInsertRow.lifted == Tryz.pinned.checked.prog.liftsFinal) = true := by kernel_rfl
theorem FnExactEngInsert_e3 : (Tryz.pinned.checked.prog.make == some Rows.fnExactEngInsertRow.make) = true := by kernel_rfl
theorem FnExactEngInsert_closed : joinedFacts Tryz.pinned.checked.prog 7 Tryz.f7 Rows.fnExactEngInsertSpec Rows.fnExactEngInsertRow = true := by
  unfold joinedFacts
  have h1 := FnExactEngInsert_e1
  simp only [Bool.and_eq_true] at h1
  rw [h1.1.1, h1.1.2, h1.2, FnExactEngInsert_e2, FnExactEngInsert_e3, show laidOutB Tryz.pinned.checked.prog = true from laidOut]
  show _ = true
  kernel_rfl
theorem FnExactEngInsert_over : Rows.fnExactEngInsertRow.holds Tryz.pinned (OpenSpec.ofChange Rows.fnExactEngInsertSpec) :=
  OpenClaim.holds_of_wide 7 Tryz.f7 rfl rfl rfl rfl rfl rfl rfl ⟨rfl, rfl, rfl, rfl, rfl⟩ rfl rfl rfl rfl rfl (by kernel_rfl) Tryz.func7 FnExactEngInsert_closed
    (of_decide_eq_true (by kernel_rfl)) (by unfold Func.isWrapper; first | (rw [if_pos (by decide +kernel)]; kernel_rfl) | (rw [if_neg (by decide +kernel)]; exact ⟨rfl, rfl⟩))
    (fun os started H enc _ => FnExactEngInsert_lifted os started H enc)
theorem FnExactEngInsert_proved : Rows.FnExactEngInsertSaid := FnExactEngInsert_over
end Go.Proofs.YtenbloaopcfdlaaGreat
