/- The law FnExactSameBox: for every input it returns true, and each argument reads afterwards as it read before. No condition. -/
import Derived.Test.YtnlmbkndjhnmhaaC10
namespace Go.Proofs.Ytnlmbkndjhnmhaa
open Go.ChangeShapes Go.WideShapes Go.ChangeAt Go.RowKit Am
set_option linter.unusedVariables false
set_option linter.unusedSimpArgs false
set_option maxRecDepth 100000

set_option maxHeartbeats 4000000 in
theorem FnExactSameBox_walk (w : World) (a0w a0h a0b : Int) (a0x : List GFrame) (v0 : Value) (r0 : RT (fun b => b < w.heap.size) w [] [] (agB a0w a0h a0b (vw GFrame.c a0x)) v0) (a1w a1h a1b : Int) (a1x : List GFrame) (v1 : Value) (r1 : RT (fun b => b < w.heap.size) w [] [] (agB a1w a1h a1b (vw GFrame.c a1x)) v1) :
    Calls Try.prog 4 #[v0, v1] w fun e w' => e = .returned (.bool true) ∧ Below w.heap.size w w' :=
  law_calls (vs := [v0, v1]) (laws_FnExactSameBox_a a0w a0h a0b a0x (Box.len r0) a1w a1h a1b a1x (Box.len r1)) rfl (argsR_cons (r0) (argsR_cons (r1) (argsR_nil)))
set_option maxHeartbeats 1600000 in
set_option maxRecDepth 100000 in
theorem FnExactSameBox_lifted (os : Os) (started : os.Started) (H : Type) (enc : TypeId × Value → H) :
    ReturnsInHanded {} Try.checked os 4 .any (Rows.fnExactSameBoxSpec.pre6 enc Try.prog Try.f4 Rows.fnExactSameBoxRow.domain false) (Rows.fnExactSameBoxSpec.post enc Try.prog Try.f4 false true false false) := by
  refine returnsInHanded_of_change (C := Try.checked) own started (by kernel_rfl) Try.func4
    (ChangeSpec.witness6 (enc := enc) (C := Try.checked) false ⟨#[], #[.agg #[.int .i64 0, .int .i64 0, .int .i64 0, .slice none 0 0], .agg #[.int .i64 0, .int .i64 0, .int .i64 0, .slice none 0 0]], []⟩ 8 (by kernel_rfl) (by kernel_rfl) (by kernel_rfl) (by kernel_rfl)) ?_
  intro W base args ds gs before hval hW hcnd _
  have hpost : ∀ W', Below W.heap.size W W' → Rows.fnExactSameBoxSpec.post enc Try.prog Try.f4 false true false false W args (.bool true) W' := by
    intro W' hx
    refine law_post laidOut (by kernel_rfl) rfl ?_ (t := 4) (by kernel_rfl) Try.underlying4 hW hx
    obtain ⟨p, q, hA, hV, rfl, hfz, hnd⟩ := hW
    obtain ⟨rfl, rfl⟩ := trodVars_none hV
    have hA1 : DataW.TrodAll enc Try.prog W 0 (fun _ => true) true Try.f4.params.toList args.toList ds p := hA
    rw [Try.params4] at hA1
    obtain ⟨v0, vs0, d0, ds0, p0, q0, hargs, rfl, rfl, h0, r0⟩ := trodAll_cons hA1
    obtain ⟨v1, vs1, d1, ds1, p1, q1, rfl, rfl, rfl, h1, r1⟩ := trodAll_cons r0
    obtain ⟨rfl, rfl, rfl⟩ := trodAll_nil r1
    rfl
  have hval' := hval
  obtain ⟨p, q, hA, hV, rfl, hfz, hnd⟩ := hW
  have hA1 : DataW.TrodAll enc Try.prog W 0 (fun _ => true) true Try.f4.params.toList args.toList ds p := hA
  rw [Try.params4] at hA1
  obtain ⟨v0, vs0, d0, ds0, p0, q0, hargs, rfl, rfl, h0, r0⟩ := trodAll_cons hA1
  obtain ⟨v1, vs1, d1, ds1, p1, q1, rfl, rfl, rfl, h1, r1⟩ := trodAll_cons r0
  obtain ⟨rfl, rfl, rfl⟩ := trodAll_nil r1
  obtain rfl : args = #[v0, v1] := by cases args; simp_all
  rw [Try.params4] at hval'
  obtain ⟨x0, t0, s0⟩ := open_struct laidOut 8 Box.sh (t := 42) (of_decide_eq_true (by kernel_rfl)) Try.underlying42 (by kernel_rfl) (hval' 0 42 v0 rfl rfl) h0
  obtain ⟨a0w, a0h, a0b, a0x, e0⟩ := Box.of_ t0
  rw [e0] at s0
  obtain ⟨x1, t1, s1⟩ := open_struct laidOut 8 Box.sh (t := 42) (of_decide_eq_true (by kernel_rfl)) Try.underlying42 (by kernel_rfl) (hval' 1 42 v1 rfl rfl) h1
  obtain ⟨a1w, a1h, a1b, a1x, e1⟩ := Box.of_ t1
  rw [e1] at s1
  exact (FnExactSameBox_walk W a0w a0h a0b a0x v0 s0 a1w a1h a1b a1x v1 s1).mono fun e W' ⟨he, hx⟩ => ⟨_, he, hpost W' hx⟩
theorem FnExactSameBox_over : Rows.fnExactSameBoxRow.holds Try.pinned (OpenSpec.ofChange Rows.fnExactSameBoxSpec) :=
  OpenClaim.holds_of_wide 4 Try.f4 rfl rfl rfl rfl rfl rfl rfl ⟨rfl, rfl, rfl, rfl, rfl⟩ rfl rfl rfl rfl rfl (by kernel_rfl) Try.func4 (by kernel_rfl)
    (of_decide_eq_true (by kernel_rfl)) (by unfold Func.isWrapper; first | (rw [if_pos (by decide +kernel)]; kernel_rfl) | (rw [if_neg (by decide +kernel)]; exact ⟨rfl, rfl⟩))
    (fun os started H enc _ => FnExactSameBox_lifted os started H enc)
theorem FnExactSameBox_proved : Rows.FnExactSameBoxSaid := FnExactSameBox_over

end Go.Proofs.Ytnlmbkndjhnmhaa
