/- The law FnExactInside: for every input it returns true, and each argument reads afterwards as it read before. No condition. -/
import Derived.Test.YtdmehkifpccigaaF3
namespace Go.Proofs.Ytdmehkifpccigaa
open Go.ChangeShapes Go.WideShapes Go.ChangeAt Go.RowKit
set_option linter.unusedVariables false
set_option linter.unusedSimpArgs false
set_option maxRecDepth 100000

theorem FnExactInside_walk (f : GFrame) (hf : f.ok) (a : Int) (ha : R64 a) (b : Int) (hbr : R64 b) (w : World) :
    Calls Try.prog 5 #[.agg #[.int .i64 f.node, .int .i64 f.x, .int .i64 f.y, .int .i64 f.wide, .int .i64 f.high], .int .i64 a, .int .i64 b] w fun e w' => e = .returned (.bool true) ∧ Below w.heap.size w w' := by
  go_enter Try.func5, Try.ntmps5
  go_wp2_with (first | (go_at_call 16; refine (laws_toFrame_c _ _).mono ?_; rintro e w' ⟨rfl, hb⟩; (first | (replace hE := ext_trans hE hb; clear hc hf hz) | (have hE := hb)); clear hb; obtain ⟨hc, hf, hz⟩ := keep hE; (try simp only [World.size_alloc, World.size_setCell, World.size_drew] at hz)) | (go_at_call 21; refine (spec_Inside_c _ (by assumption) _ _ (by assumption) (by assumption) _).mono ?_; rintro e w' ⟨rfl, hb⟩; (first | (replace hE := ext_trans hE hb; clear hc hf hz) | (have hE := hb)); clear hb; obtain ⟨hc, hf, hz⟩ := keep hE; (try simp only [World.size_alloc, World.size_setCell, World.size_drew] at hz)) | (go_at_call 22; refine (impl_Inside_c _ (by assumption) _ _ (by assumption) (by assumption) _).mono ?_; rintro e w' ⟨rfl, hb⟩; (first | (replace hE := ext_trans hE hb; clear hc hf hz) | (have hE := hb)); clear hb; obtain ⟨hc, hf, hz⟩ := keep hE; (try simp only [World.size_alloc, World.size_setCell, World.size_drew] at hz)))
  all_goals go_ret
  all_goals exact ⟨rfl, by repeat (first | (with_reducible exact ext_refl _) | (with_reducible assumption) | (with_reducible refine ext_trans ?_ (ext_alloc _ _)) | (with_reducible refine below_drewN ?_ _) | (with_reducible refine Below.drew ?_) | (with_reducible refine Below.setCell ?_ (by simp; omega) _) | (refine ext_trans ?_ (by with_reducible assumption)))⟩
set_option maxHeartbeats 1600000 in
set_option maxRecDepth 100000 in
theorem FnExactInside_lifted (os : Os) (started : os.Started) (H : Type) (enc : TypeId × Value → H) :
    ReturnsInHanded {} Try.checked os 5 .any (Rows.fnExactInsideSpec.pre6 enc Try.prog Try.f5 Rows.fnExactInsideRow.domain false) (Rows.fnExactInsideSpec.post enc Try.prog Try.f5 false true false false) := by
  refine returnsInHanded_of_change (C := Try.checked) own started (by kernel_rfl) Try.func5
    (ChangeSpec.witness6 (enc := enc) (C := Try.checked) false ⟨#[], #[.agg #[.int .i64 0, .int .i64 0, .int .i64 0, .int .i64 0, .int .i64 0], .int .i64 0, .int .i64 0], []⟩ 8 (by kernel_rfl) (by kernel_rfl) (by kernel_rfl) (by kernel_rfl)) ?_
  intro W base args ds gs before hval hW hcnd _
  have hpost : ∀ W', Below W.heap.size W W' → Rows.fnExactInsideSpec.post enc Try.prog Try.f5 false true false false W args (.bool true) W' := by
    intro W' hx
    refine law_post laidOut (by kernel_rfl) rfl ?_ (t := 4) (by kernel_rfl) Try.underlying4 hW hx
    obtain ⟨p, q, hA, hV, rfl, hfz, hnd⟩ := hW
    obtain ⟨rfl, rfl⟩ := trodVars_none hV
    have hA1 : DataW.TrodAll enc Try.prog W 0 (fun _ => true) true Try.f5.params.toList args.toList ds p := hA
    rw [Try.params5] at hA1
    obtain ⟨v0, vs0, d0, ds0, p0, q0, hargs, rfl, rfl, h0, r0⟩ := trodAll_cons hA1
    obtain ⟨v1, vs1, d1, ds1, p1, q1, rfl, rfl, rfl, h1, r1⟩ := trodAll_cons r0
    obtain ⟨v2, vs2, d2, ds2, p2, q2, rfl, rfl, rfl, h2, r2⟩ := trodAll_cons r1
    obtain ⟨rfl, rfl, rfl⟩ := trodAll_nil r2
    rfl
  have hval' := hval
  obtain ⟨p, q, hA, hV, rfl, hfz, hnd⟩ := hW
  have hA1 : DataW.TrodAll enc Try.prog W 0 (fun _ => true) true Try.f5.params.toList args.toList ds p := hA
  rw [Try.params5] at hA1
  obtain ⟨v0, vs0, d0, ds0, p0, q0, hargs, rfl, rfl, h0, r0⟩ := trodAll_cons hA1
  obtain ⟨v1, vs1, d1, ds1, p1, q1, rfl, rfl, rfl, h1, r1⟩ := trodAll_cons r0
  obtain ⟨v2, vs2, d2, ds2, p2, q2, rfl, rfl, rfl, h2, r2⟩ := trodAll_cons r1
  obtain ⟨rfl, rfl, rfl⟩ := trodAll_nil r2
  obtain rfl : args = #[v0, v1, v2] := by cases args; simp_all
  rw [Try.params5] at hval'
  obtain ⟨g0, b0, k0, rfl⟩ := open_flat laidOut Try.underlying3 Try.underlying4 GFrame.ks (t := 23) (of_decide_eq_true (by kernel_rfl)) Try.underlying23 (by kernel_rfl) (hval' 0 23 v0 rfl rfl) h0
  obtain ⟨a1, rfl, rfl, rfl, w1⟩ := open_int Try.underlying3 (hval' 1 3 v1 rfl rfl) h1
  obtain ⟨a2, rfl, rfl, rfl, w2⟩ := open_int Try.underlying3 (hval' 2 3 v2 rfl rfl) h2
  exact (FnExactInside_walk (GFrame.of g0 b0) (GFrame.ok_of g0 b0 k0) a1 (r64_of_wf w1) a2 (r64_of_wf w2) W).mono fun e W' ⟨he, hx⟩ => ⟨_, he, hpost W' hx⟩
theorem FnExactInside_over : Rows.fnExactInsideRow.holds Try.pinned (OpenSpec.ofChange Rows.fnExactInsideSpec) :=
  OpenClaim.holds_of_wide 5 Try.f5 rfl rfl rfl rfl rfl rfl rfl ⟨rfl, rfl, rfl, rfl, rfl⟩ rfl rfl rfl rfl rfl (by kernel_rfl) Try.func5 (by kernel_rfl)
    (of_decide_eq_true (by kernel_rfl)) (by unfold Func.isWrapper; first | (rw [if_pos (by decide +kernel)]; kernel_rfl) | (rw [if_neg (by decide +kernel)]; exact ⟨rfl, rfl⟩))
    (fun os started H enc _ => FnExactInside_lifted os started H enc)
theorem FnExactInside_proved : Rows.FnExactInsideSaid := FnExactInside_over

end Go.Proofs.Ytdmehkifpccigaa
