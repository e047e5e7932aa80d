/- The law FnExactSnapAll: for every input it returns true, and each argument reads afterwards as it read before. No condition. -/
import Derived.Test.YtnlmbkndjhnmhaaC9
namespace Go.Proofs.Ytnlmbkndjhnmhaa
open Go.ChangeShapes Go.WideShapes Go.ChangeAt Go.RowKit
set_option linter.unusedVariables false
set_option linter.unusedSimpArgs false
set_option maxRecDepth 100000

set_option maxHeartbeats 4000000 in
theorem FnExactSnapAll_walk (w : World) (a0 : List GFrame) (v0 : Value) (r0 : RepS 5 GFrame.c w v0 a0) (z0 : ∀ x ∈ a0, ∃ (g : Nat → Int) (h : Nat → Bool), (∀ i, R64 (g i)) ∧ x = GFrame.of g h) (a1 : Int) (h1 : R64 a1) :
    Calls Try.prog 7 #[v0, .int .i64 a1] w fun e w' => e = .returned (.bool true) ∧ Below w.heap.size w w' :=
  law_calls (vs := [v0, .int .i64 a1]) (laws_FnExactSnapAll_a a0 (RepS.len r0) a1) rfl (argsR_cons (rc_of_rep r0 (by decide) (fun _ => rfl) (fun _ => rfl)) (argsR_cons (rt_int _) (argsR_nil)))
set_option maxHeartbeats 1600000 in
set_option maxRecDepth 100000 in
theorem FnExactSnapAll_lifted (os : Os) (started : os.Started) (H : Type) (enc : TypeId × Value → H) :
    ReturnsInHanded {} Try.checked os 7 .any (Rows.fnExactSnapAllSpec.pre6 enc Try.prog Try.f7 Rows.fnExactSnapAllRow.domain false) (Rows.fnExactSnapAllSpec.post enc Try.prog Try.f7 false true false false) := by
  refine returnsInHanded_of_change (C := Try.checked) own started (by kernel_rfl) Try.func7
    (ChangeSpec.witness6 (enc := enc) (C := Try.checked) false ⟨#[], #[.slice none 0 0, .int .i64 0], []⟩ 8 (by kernel_rfl) (by kernel_rfl) (by kernel_rfl) (by kernel_rfl)) ?_
  intro W base args ds gs before hval hW hcnd _
  have hpost : ∀ W', Below W.heap.size W W' → Rows.fnExactSnapAllSpec.post enc Try.prog Try.f7 false true false false W args (.bool true) W' := by
    intro W' hx
    refine law_post laidOut (by kernel_rfl) rfl ?_ (t := 4) (by kernel_rfl) Try.underlying4 hW hx
    obtain ⟨p, q, hA, hV, rfl, hfz, hnd⟩ := hW
    obtain ⟨rfl, rfl⟩ := trodVars_none hV
    have hA1 : DataW.TrodAll enc Try.prog W 0 (fun _ => true) true Try.f7.params.toList args.toList ds p := hA
    rw [Try.params7] at hA1
    obtain ⟨v0, vs0, d0, ds0, p0, q0, hargs, rfl, rfl, h0, r0⟩ := trodAll_cons hA1
    obtain ⟨v1, vs1, d1, ds1, p1, q1, rfl, rfl, rfl, h1, r1⟩ := trodAll_cons r0
    obtain ⟨rfl, rfl, rfl⟩ := trodAll_nil r1
    rfl
  have hval' := hval
  obtain ⟨p, q, hA, hV, rfl, hfz, hnd⟩ := hW
  have hA1 : DataW.TrodAll enc Try.prog W 0 (fun _ => true) true Try.f7.params.toList args.toList ds p := hA
  rw [Try.params7] at hA1
  obtain ⟨v0, vs0, d0, ds0, p0, q0, hargs, rfl, rfl, h0, r0⟩ := trodAll_cons hA1
  obtain ⟨v1, vs1, d1, ds1, p1, q1, rfl, rfl, rfl, h1, r1⟩ := trodAll_cons r0
  obtain ⟨rfl, rfl, rfl⟩ := trodAll_nil r1
  obtain rfl : args = #[v0, v1] := by cases args; simp_all
  rw [Try.params7] at hval'
  obtain ⟨a0, s0, z0⟩ := open_rep GFrame.of GFrame.c GFrame.ks GFrame.by (by decide) laidOut Try.underlying3 Try.underlying4 (te := 72) (of_decide_eq_true (by kernel_rfl)) Try.underlying40 (by kernel_rfl) (by kernel_rfl) h0 (hval' 0 40 v0 rfl rfl)
  obtain ⟨a1, rfl, rfl, rfl, w1⟩ := open_int Try.underlying3 (hval' 1 3 v1 rfl rfl) h1
  exact (FnExactSnapAll_walk W a0 v0 s0 z0 a1 (r64_of_wf w1)).mono fun e W' ⟨he, hx⟩ => ⟨_, he, hpost W' hx⟩
theorem FnExactSnapAll_over : Rows.fnExactSnapAllRow.holds Try.pinned (OpenSpec.ofChange Rows.fnExactSnapAllSpec) :=
  OpenClaim.holds_of_wide 7 Try.f7 rfl rfl rfl rfl rfl rfl rfl ⟨rfl, rfl, rfl, rfl, rfl⟩ rfl rfl rfl rfl rfl (by kernel_rfl) Try.func7 (by kernel_rfl)
    (of_decide_eq_true (by kernel_rfl)) (by unfold Func.isWrapper; first | (rw [if_pos (by decide +kernel)]; kernel_rfl) | (rw [if_neg (by decide +kernel)]; exact ⟨rfl, rfl⟩))
    (fun os started H enc _ => FnExactSnapAll_lifted os started H enc)
theorem FnExactSnapAll_proved : Rows.FnExactSnapAllSaid := FnExactSnapAll_over

end Go.Proofs.Ytnlmbkndjhnmhaa
