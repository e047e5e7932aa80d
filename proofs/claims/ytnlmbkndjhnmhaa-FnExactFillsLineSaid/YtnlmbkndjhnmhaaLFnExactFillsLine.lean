/- The law FnExactFillsLine: for every input it returns true, and each argument reads afterwards as it read before. No condition. -/
import Derived.Test.YtnlmbkndjhnmhaaC6
namespace Go.Proofs.Ytnlmbkndjhnmhaa
open Go.ChangeShapes Go.WideShapes Go.ChangeAt Go.RowKit
set_option linter.unusedVariables false
set_option linter.unusedSimpArgs false
set_option maxRecDepth 100000

set_option maxHeartbeats 4000000 in
theorem FnExactFillsLine_walk (w : World) (a0 : List GItem) (v0 : Value) (r0 : RepS 9 GItem.c w v0 a0) (z0 : ∀ x ∈ a0, ∃ (g : Nat → Int) (h : Nat → Bool), (∀ i, R64 (g i)) ∧ x = GItem.of g h) (a1 : List Int) (v1 : Value) (r1 : RepI w v1 a1) (z1 : ∀ x ∈ a1, ∃ (g : Nat → Int) (h : Nat → Bool), (∀ i, R64 (g i)) ∧ x = g 0) (a2 : Int) (h2 : R64 a2) (a3 : Int) (h3 : R64 a3) :
    Calls Try.prog 5 #[v0, v1, .int .i64 a2, .int .i64 a3] w fun e w' => e = .returned (.bool true) ∧ Below w.heap.size w w' :=
  law_calls (vs := [v0, v1, .int .i64 a2, .int .i64 a3]) (laws_FnExactFillsLine_a a0 (RepS.len r0) a1 (RepS.len r1) a2 a3) rfl (argsR_cons (rc_of_rep r0 (by decide) (fun _ => rfl) (fun _ => rfl)) (argsR_cons (rc_of_rep r1 (by decide) (fun _ => rfl) (fun _ => rfl)) (argsR_cons (rt_int _) (argsR_cons (rt_int _) (argsR_nil)))))
set_option maxHeartbeats 1600000 in
set_option maxRecDepth 100000 in
theorem FnExactFillsLine_lifted (os : Os) (started : os.Started) (H : Type) (enc : TypeId × Value → H) :
    ReturnsInHanded {} Try.checked os 5 .any (Rows.fnExactFillsLineSpec.pre6 enc Try.prog Try.f5 Rows.fnExactFillsLineRow.domain false) (Rows.fnExactFillsLineSpec.post enc Try.prog Try.f5 false true false false) := by
  refine returnsInHanded_of_change (C := Try.checked) own started (by kernel_rfl) Try.func5
    (ChangeSpec.witness6 (enc := enc) (C := Try.checked) false ⟨#[], #[.slice none 0 0, .slice none 0 0, .int .i64 0, .int .i64 0], []⟩ 8 (by kernel_rfl) (by kernel_rfl) (by kernel_rfl) (by kernel_rfl)) ?_
  intro W base args ds gs before hval hW hcnd _
  have hpost : ∀ W', Below W.heap.size W W' → Rows.fnExactFillsLineSpec.post enc Try.prog Try.f5 false true false false W args (.bool true) W' := by
    intro W' hx
    refine law_post laidOut (by kernel_rfl) rfl ?_ (t := 4) (by kernel_rfl) Try.underlying4 hW hx
    obtain ⟨p, q, hA, hV, rfl, hfz, hnd⟩ := hW
    obtain ⟨rfl, rfl⟩ := trodVars_none hV
    have hA1 : DataW.TrodAll enc Try.prog W 0 (fun _ => true) true Try.f5.params.toList args.toList ds p := hA
    rw [Try.params5] at hA1
    obtain ⟨v0, vs0, d0, ds0, p0, q0, hargs, rfl, rfl, h0, r0⟩ := trodAll_cons hA1
    obtain ⟨v1, vs1, d1, ds1, p1, q1, rfl, rfl, rfl, h1, r1⟩ := trodAll_cons r0
    obtain ⟨v2, vs2, d2, ds2, p2, q2, rfl, rfl, rfl, h2, r2⟩ := trodAll_cons r1
    obtain ⟨v3, vs3, d3, ds3, p3, q3, rfl, rfl, rfl, h3, r3⟩ := trodAll_cons r2
    obtain ⟨rfl, rfl, rfl⟩ := trodAll_nil r3
    rfl
  have hval' := hval
  obtain ⟨p, q, hA, hV, rfl, hfz, hnd⟩ := hW
  have hA1 : DataW.TrodAll enc Try.prog W 0 (fun _ => true) true Try.f5.params.toList args.toList ds p := hA
  rw [Try.params5] at hA1
  obtain ⟨v0, vs0, d0, ds0, p0, q0, hargs, rfl, rfl, h0, r0⟩ := trodAll_cons hA1
  obtain ⟨v1, vs1, d1, ds1, p1, q1, rfl, rfl, rfl, h1, r1⟩ := trodAll_cons r0
  obtain ⟨v2, vs2, d2, ds2, p2, q2, rfl, rfl, rfl, h2, r2⟩ := trodAll_cons r1
  obtain ⟨v3, vs3, d3, ds3, p3, q3, rfl, rfl, rfl, h3, r3⟩ := trodAll_cons r2
  obtain ⟨rfl, rfl, rfl⟩ := trodAll_nil r3
  obtain rfl : args = #[v0, v1, v2, v3] := by cases args; simp_all
  rw [Try.params5] at hval'
  obtain ⟨a0, s0, z0⟩ := open_rep GItem.of GItem.c GItem.ks GItem.by (by decide) laidOut Try.underlying3 Try.underlying4 (te := 117) (of_decide_eq_true (by kernel_rfl)) Try.underlying50 (by kernel_rfl) (by kernel_rfl) h0 (hval' 0 50 v0 rfl rfl)
  obtain ⟨a1, s1, z1⟩ := open_rep (fun g h => g 0) intC [false] (fun _ _ => rfl) (by decide) laidOut Try.underlying3 Try.underlying4 (te := 3) (of_decide_eq_true (by kernel_rfl)) Try.underlying51 (by kernel_rfl) (by kernel_rfl) h1 (hval' 1 51 v1 rfl rfl)
  obtain ⟨a2, rfl, rfl, rfl, w2⟩ := open_int Try.underlying3 (hval' 2 3 v2 rfl rfl) h2
  obtain ⟨a3, rfl, rfl, rfl, w3⟩ := open_int Try.underlying3 (hval' 3 3 v3 rfl rfl) h3
  exact (FnExactFillsLine_walk W a0 v0 s0 z0 a1 v1 s1 z1 a2 (r64_of_wf w2) a3 (r64_of_wf w3)).mono fun e W' ⟨he, hx⟩ => ⟨_, he, hpost W' hx⟩
theorem FnExactFillsLine_over : Rows.fnExactFillsLineRow.holds Try.pinned (OpenSpec.ofChange Rows.fnExactFillsLineSpec) :=
  OpenClaim.holds_of_wide 5 Try.f5 rfl rfl rfl rfl rfl rfl rfl ⟨rfl, rfl, rfl, rfl, rfl⟩ rfl rfl rfl rfl rfl (by kernel_rfl) Try.func5 (by kernel_rfl)
    (of_decide_eq_true (by kernel_rfl)) (by unfold Func.isWrapper; first | (rw [if_pos (by decide +kernel)]; kernel_rfl) | (rw [if_neg (by decide +kernel)]; exact ⟨rfl, rfl⟩))
    (fun os started H enc _ => FnExactFillsLine_lifted os started H enc)
theorem FnExactFillsLine_proved : Rows.FnExactFillsLineSaid := FnExactFillsLine_over

end Go.Proofs.Ytnlmbkndjhnmhaa
