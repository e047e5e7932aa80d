/- The law FnRowFull: for every input it returns true, and each argument reads afterwards as it read before. No condition. -/
import Derived.Test.YtbnplcingdgaaaaGreatRows
import Derived.Test.YtbnplcingdgaaaaGreatC9X2
namespace Go.Proofs.YtbnplcingdgaaaaGreat
open Go.ChangeShapes Go.WideShapes Go.ChangeAt Go.RowKit Am
set_option linter.unusedVariables false
set_option linter.unusedSimpArgs false
set_option maxRecDepth 100000

set_option maxHeartbeats 4000000 in
theorem FnRowFull_walk (w : World) (a0 : List Int) (v0 : Value) (r0 : BG 1 qa w v0 a0) :
    Calls Tryz.prog 5 #[v0] w fun e w' => e = .returned (.bool true) ∧ Below w.heap.size w w' :=
  wq (vs := [v0]) (laws_FnRowFull_a a0 (BG.len r0)) rfl (uJ (vU r0 (by decide) (fun _ => rfl) (fun _ => rfl)) (xe))
set_option maxHeartbeats 1600000 in
set_option maxRecDepth 100000 in
theorem FnRowFull_lifted (os : Os) (started : os.Started) (H : Type) (enc : TypeId × Value → H) :
    ReturnsInHanded {} Tryz.checked os 5 .any (Rows.fnRowFullSpec.pre6 enc Tryz.prog Tryz.f5 Rows.fnRowFullRow.domain false) (Rows.fnRowFullSpec.post enc Tryz.prog Tryz.f5 false true false false) := by
  refine returnsInHanded_of_change (C := Tryz.checked) own started (by kernel_rfl) Tryz.func5
    (ChangeSpec.witness6 (enc := enc) (C := Tryz.checked) false ⟨#[], #[.slice none 0 0], []⟩ 8 (by kernel_rfl) (by kernel_rfl) (by kernel_rfl) (by kernel_rfl)) ?_
  intro W base args ds gs before hval hW hcnd _
  have hpost : ∀ W', Below W.heap.size W W' → Rows.fnRowFullSpec.post enc Tryz.prog Tryz.f5 false true false false W args (.bool true) W' := by
    intro W' hx
    refine x9 rS (by kernel_rfl) rfl ?_ (t := 4) (by kernel_rfl) Tryz.underlying4 hW hx
    obtain ⟨p, q, hA, hV, rfl, hfz, hnd⟩ := hW
    obtain ⟨rfl, rfl⟩ := trodVars_none hV
    have hA1 : DataW.TrodAll enc Tryz.prog W 0 (fun _ => true) true Tryz.f5.params.toList args.toList ds p := hA
    rw [Tryz.params5] at hA1
    obtain ⟨v0, vs0, d0, ds0, p0, q0, hargs, rfl, rfl, h0, r0⟩ := trodAll_cons hA1
    obtain ⟨rfl, rfl, rfl⟩ := trodAll_nil r0
    rfl
  have hval' := hval
  obtain ⟨p, q, hA, hV, rfl, hfz, hnd⟩ := hW
  have hA1 : DataW.TrodAll enc Tryz.prog W 0 (fun _ => true) true Tryz.f5.params.toList args.toList ds p := hA
  rw [Tryz.params5] at hA1
  obtain ⟨v0, vs0, d0, ds0, p0, q0, hargs, rfl, rfl, h0, r0⟩ := trodAll_cons hA1
  obtain ⟨rfl, rfl, rfl⟩ := trodAll_nil r0
  obtain rfl : args = #[v0] := by cases args; simp_all
  rw [Tryz.params5] at hval'
  obtain ⟨a0, s0⟩ := um rS Tryz.underlying5 (of_decide_eq_true (by kernel_rfl)) Tryz.underlying22 (by kernel_rfl) (by kernel_rfl) h0 (hval' 0 22 v0 rfl rfl)
  exact (FnRowFull_walk W a0 v0 s0).mono fun e W' ⟨he, hx⟩ => ⟨_, he, hpost W' hx⟩
theorem FnRowFull_e1 : (Rows.fnRowFullRow.shortTexts.isNone && Tryz.pinned.checked.prog.stopsHeard && Tryz.pinned.checked.prog.mayEnter) = true := by kernel_rfl
theorem FnRowFull_e2 : (Rows.fnRowFullRow.lifted == Tryz.pinned.checked.prog.liftsFinal) = true := by kernel_rfl
theorem FnRowFull_e3 : (Tryz.pinned.checked.prog.make == some Rows.fnRowFullRow.make) = true := by kernel_rfl
theorem FnRowFull_closed : joinedFacts Tryz.pinned.checked.prog 5 Tryz.f5 Rows.fnRowFullSpec Rows.fnRowFullRow = true := by
  unfold joinedFacts
  have h1 := FnRowFull_e1
  simp only [Bool.and_eq_true] at h1
  rw [h1.1.1, h1.1.2, h1.2, FnRowFull_e2, FnRowFull_e3, show laidOutB Tryz.pinned.checked.prog = true from rS]
  show _ = true
  kernel_rfl
theorem FnRowFull_over : Rows.fnRowFullRow.holds Tryz.pinned (OpenSpec.ofChange Rows.fnRowFullSpec) :=
  OpenClaim.holds_of_wide 5 Tryz.f5 rfl rfl rfl rfl rfl rfl rfl ⟨rfl, rfl, rfl, rfl, rfl⟩ rfl rfl rfl rfl rfl (by kernel_rfl) Tryz.func5 FnRowFull_closed
    (of_decide_eq_true (by kernel_rfl)) (by unfold Func.isWrapper; first | (rw [if_pos (by decide +kernel)]; kernel_rfl) | (rw [if_neg (by decide +kernel)]; exact ⟨rfl, rfl⟩))
    (fun os started H enc _ => FnRowFull_lifted os started H enc)
theorem FnRowFull_proved : Rows.FnRowFullSaid := FnRowFull_over

end Go.Proofs.YtbnplcingdgaaaaGreat
