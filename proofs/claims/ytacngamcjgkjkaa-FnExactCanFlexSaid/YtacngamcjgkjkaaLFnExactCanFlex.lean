/- The law FnExactCanFlex: for every input it returns true, and each argument reads afterwards as it read before. No condition. -/
import Derived.Test.YtacngamcjgkjkaaRows
import Derived.Test.YtacngamcjgkjkaaQ7
namespace Go.Proofs.Ytacngamcjgkjkaa
open Go.ChangeShapes Go.WideShapes Go.ChangeAt Go.RowKit Am
set_option linter.unusedVariables false
set_option linter.unusedSimpArgs false
set_option maxRecDepth 100000

set_option maxHeartbeats 4000000 in
theorem FnExactCanFlex_walk (w : World) (a0 : List GItem) (v0 : Value) (r0 : RepS 9 GItem.c w v0 a0) (z0 : ∀ x ∈ a0, ∃ (g : Nat → Int) (h : Nat → Bool), (∀ i, R64 (g i)) ∧ x = GItem.of g h) (a1 : Int) (h1 : R64 a1) (a2 : Int) (h2 : R64 a2) :
    Calls Try.prog 5 #[v0, .int .i64 a1, .int .i64 a2] w fun e w' => e = .returned (.bool true) ∧ Below w.heap.size w w' :=
  law_calls (vs := [v0, .int .i64 a1, .int .i64 a2]) (laws_FnExactCanFlex_a a0 (RepS.len r0) a1 a2) rfl (argsR_cons (rc_of_rep r0 (by decide) (fun _ => rfl) (fun _ => rfl)) (argsR_cons (rt_int _) (argsR_cons (rt_int _) (argsR_nil))))
set_option maxHeartbeats 1600000 in
set_option maxRecDepth 100000 in
theorem FnExactCanFlex_lifted (os : Os) (started : os.Started) (H : Type) (enc : TypeId × Value → H) :
    ReturnsInHanded {} Try.checked os 5 .any (Rows.fnExactCanFlexSpec.pre6 enc Try.prog Try.f5 Rows.fnExactCanFlexRow.domain false) (Rows.fnExactCanFlexSpec.post enc Try.prog Try.f5 false true false false) := by
  refine returnsInHanded_of_change (C := Try.checked) own started (by kernel_rfl) Try.func5
    (ChangeSpec.witness6 (enc := enc) (C := Try.checked) false ⟨#[], #[.slice none 0 0, .int .i64 0, .int .i64 0], []⟩ 8 (by kernel_rfl) (by kernel_rfl) (by kernel_rfl) (by kernel_rfl)) ?_
  intro W base args ds gs before hval hW hcnd _
  have hpost : ∀ W', Below W.heap.size W W' → Rows.fnExactCanFlexSpec.post enc Try.prog Try.f5 false true false false W args (.bool true) W' := by
    intro W' hx
    refine law_post laidOut (by kernel_rfl) rfl ?_ (t := 4) (by kernel_rfl) Try.underlying4 hW hx
    obtain ⟨p, q, hA, hV, rfl, hfz, hnd⟩ := hW
    obtain ⟨rfl, rfl⟩ := trodVars_none hV
    have hA1 : DataW.TrodAll enc Try.prog W 0 (fun _ => true) true Try.f5.params.toList args.toList ds p := hA
    rw [Try.params5] at hA1
    obtain ⟨v0, vs0, d0, ds0, p0, q0, hargs, rfl, rfl, h0, r0⟩ := trodAll_cons hA1
    obtain ⟨v1, vs1, d1, ds1, p1, q1, rfl, rfl, rfl, h1, r1⟩ := trodAll_cons r0
    obtain ⟨v2, vs2, d2, ds2, p2, q2, rfl, rfl, rfl, h2, r2⟩ := trodAll_cons r1
    obtain ⟨rfl, rfl, rfl⟩ := trodAll_nil r2
    rfl
  have hval' := hval
  obtain ⟨p, q, hA, hV, rfl, hfz, hnd⟩ := hW
  have hA1 : DataW.TrodAll enc Try.prog W 0 (fun _ => true) true Try.f5.params.toList args.toList ds p := hA
  rw [Try.params5] at hA1
  obtain ⟨v0, vs0, d0, ds0, p0, q0, hargs, rfl, rfl, h0, r0⟩ := trodAll_cons hA1
  obtain ⟨v1, vs1, d1, ds1, p1, q1, rfl, rfl, rfl, h1, r1⟩ := trodAll_cons r0
  obtain ⟨v2, vs2, d2, ds2, p2, q2, rfl, rfl, rfl, h2, r2⟩ := trodAll_cons r1
  obtain ⟨rfl, rfl, rfl⟩ := trodAll_nil r2
  obtain rfl : args = #[v0, v1, v2] := by cases args; simp_all
  rw [Try.params5] at hval'
  obtain ⟨a0, s0, z0⟩ := open_rep GItem.of GItem.c GItem.ks GItem.by (by decide) laidOut Try.underlying3 Try.underlying4 (te := 86) (of_decide_eq_true (by kernel_rfl)) Try.underlying56 (by kernel_rfl) (by kernel_rfl) h0 (hval' 0 56 v0 rfl rfl)
  obtain ⟨a1, rfl, rfl, rfl, w1⟩ := open_int Try.underlying3 (hval' 1 3 v1 rfl rfl) h1
  obtain ⟨a2, rfl, rfl, rfl, w2⟩ := open_int Try.underlying3 (hval' 2 3 v2 rfl rfl) h2
  exact (FnExactCanFlex_walk W a0 v0 s0 z0 a1 (r64_of_wf w1) a2 (r64_of_wf w2)).mono fun e W' ⟨he, hx⟩ => ⟨_, he, hpost W' hx⟩
theorem FnExactCanFlex_over : Rows.fnExactCanFlexRow.holds Try.pinned (OpenSpec.ofChange Rows.fnExactCanFlexSpec) :=
  OpenClaim.holds_of_wide 5 Try.f5 rfl rfl rfl rfl rfl rfl rfl ⟨rfl, rfl, rfl, rfl, rfl⟩ rfl rfl rfl rfl rfl (by kernel_rfl) Try.func5 (by kernel_rfl)
    (of_decide_eq_true (by kernel_rfl)) (by unfold Func.isWrapper; first | (rw [if_pos (by decide +kernel)]; kernel_rfl) | (rw [if_neg (by decide +kernel)]; exact ⟨rfl, rfl⟩))
    (fun os started H enc _ => FnExactCanFlex_lifted os started H enc)
theorem FnExactCanFlex_proved : Rows.FnExactCanFlexSaid := FnExactCanFlex_over

end Go.Proofs.Ytacngamcjgkjkaa
