/- The law FnExactSnapFrame: for every input it returns true, and each argument reads afterwards as it read before. No condition. -/
import Derived.Test.YtdmehkifpccigaaR3
namespace Go.Proofs.Ytdmehkifpccigaa
open Go.ChangeShapes Go.WideShapes Go.ChangeAt Go.RowKit
set_option linter.unusedVariables false
set_option linter.unusedSimpArgs false
set_option maxRecDepth 100000

theorem FnExactSnapFrame_walk (w : World) (f : GFrame) (hf : f.ok) (s : Int) (hs : R64 s) :
    Calls Try.prog 11 #[.agg #[.int .i64 f.node, .int .i64 f.x, .int .i64 f.y, .int .i64 f.wide, .int .i64 f.high], .int .i64 s] w fun e w' => e = .returned (.bool true) ∧ Below w.heap.size w w' := by
  clear hf hs
  go_enter Try.func11, Try.ntmps11
  go_wp2_with (first | (go_at_call 16; refine (laws_toFrame_c _ _).mono ?_; rintro e w' ⟨rfl, hb⟩; (first | ((with_reducible replace hE := ext_trans hE hb); clear hc hf hl hz) | (have hE := hb)); clear hb; obtain ⟨hc, hf, hl, hz⟩ := keep hE; (try simp only [World.size_alloc, World.size_setCell, World.size_drew] at hz); (try have hl0 := hl w.heap.size (by first | (simp; done) | (simp; omega))); (try have hl1 := hl (w.heap.size + 1) (by first | (simp; done) | (simp; omega))); (try have hl2 := hl (w.heap.size + 1 + 1) (by first | (simp; done) | (simp; omega))); (try have hl3 := hl (w.heap.size + 1 + 1 + 1) (by first | (simp; done) | (simp; omega)))) | (go_at_call 41; refine (spec_SnapFrame_c _ _ _).mono ?_; rintro e w' ⟨rfl, hb⟩; (first | ((with_reducible replace hE := ext_trans hE hb); clear hc hf hl hz) | (have hE := hb)); clear hb; obtain ⟨hc, hf, hl, hz⟩ := keep hE; (try simp only [World.size_alloc, World.size_setCell, World.size_drew] at hz); (try have hl0 := hl w.heap.size (by first | (simp; done) | (simp; omega))); (try have hl1 := hl (w.heap.size + 1) (by first | (simp; done) | (simp; omega))); (try have hl2 := hl (w.heap.size + 1 + 1) (by first | (simp; done) | (simp; omega))); (try have hl3 := hl (w.heap.size + 1 + 1 + 1) (by first | (simp; done) | (simp; omega)))) | (go_at_call 42; refine (impl_SnapFrame_c _ _ _).mono ?_; rintro e w' ⟨rfl, hb⟩; (first | ((with_reducible replace hE := ext_trans hE hb); clear hc hf hl hz) | (have hE := hb)); clear hb; obtain ⟨hc, hf, hl, hz⟩ := keep hE; (try simp only [World.size_alloc, World.size_setCell, World.size_drew] at hz); (try have hl0 := hl w.heap.size (by first | (simp; done) | (simp; omega))); (try have hl1 := hl (w.heap.size + 1) (by first | (simp; done) | (simp; omega))); (try have hl2 := hl (w.heap.size + 1 + 1) (by first | (simp; done) | (simp; omega))); (try have hl3 := hl (w.heap.size + 1 + 1 + 1) (by first | (simp; done) | (simp; omega)))))
  refine (laws_eqFrame_c (snapFrame f s) (snapFrame f s) _).mono ?_
  rw [decide_eq_true rfl]
  rintro e w' ⟨rfl, hb⟩
  (first | ((with_reducible replace hE := ext_trans hE hb); clear hc hf hl hz) | (have hE := hb)); clear hb; obtain ⟨hc, hf, hl, hz⟩ := keep hE; (try simp only [World.size_alloc, World.size_setCell, World.size_drew] at hz); (try have hl0 := hl w.heap.size (by first | (simp; done) | (simp; omega))); (try have hl1 := hl (w.heap.size + 1) (by first | (simp; done) | (simp; omega))); (try have hl2 := hl (w.heap.size + 1 + 1) (by first | (simp; done) | (simp; omega))); (try have hl3 := hl (w.heap.size + 1 + 1 + 1) (by first | (simp; done) | (simp; omega)))
  go_wp2
  all_goals go_ret
  all_goals exact ⟨rfl, by repeat (first | (with_reducible exact ext_refl _) | (with_reducible assumption) | (with_reducible refine Below.setCell ?_ (by first | omega | (simp; done) | (simp; omega)) _) | (with_reducible refine below_drewN ?_ _) | (with_reducible refine Below.drew ?_) | (with_reducible refine ext_trans ?_ (by with_reducible assumption)) | (with_reducible refine ext_trans ?_ (ext_alloc _ _)))⟩
set_option maxHeartbeats 1600000 in
set_option maxRecDepth 100000 in
theorem FnExactSnapFrame_lifted (os : Os) (started : os.Started) (H : Type) (enc : TypeId × Value → H) :
    ReturnsInHanded {} Try.checked os 11 .any (Rows.fnExactSnapFrameSpec.pre6 enc Try.prog Try.f11 Rows.fnExactSnapFrameRow.domain false) (Rows.fnExactSnapFrameSpec.post enc Try.prog Try.f11 false true false false) := by
  refine returnsInHanded_of_change (C := Try.checked) own started (by kernel_rfl) Try.func11
    (ChangeSpec.witness6 (enc := enc) (C := Try.checked) false ⟨#[], #[.agg #[.int .i64 0, .int .i64 0, .int .i64 0, .int .i64 0, .int .i64 0], .int .i64 0], []⟩ 8 (by kernel_rfl) (by kernel_rfl) (by kernel_rfl) (by kernel_rfl)) ?_
  intro W base args ds gs before hval hW hcnd _
  have hpost : ∀ W', Below W.heap.size W W' → Rows.fnExactSnapFrameSpec.post enc Try.prog Try.f11 false true false false W args (.bool true) W' := by
    intro W' hx
    refine law_post laidOut (by kernel_rfl) rfl ?_ (t := 4) (by kernel_rfl) Try.underlying4 hW hx
    obtain ⟨p, q, hA, hV, rfl, hfz, hnd⟩ := hW
    obtain ⟨rfl, rfl⟩ := trodVars_none hV
    have hA1 : DataW.TrodAll enc Try.prog W 0 (fun _ => true) true Try.f11.params.toList args.toList ds p := hA
    rw [Try.params11] at hA1
    obtain ⟨v0, vs0, d0, ds0, p0, q0, hargs, rfl, rfl, h0, r0⟩ := trodAll_cons hA1
    obtain ⟨v1, vs1, d1, ds1, p1, q1, rfl, rfl, rfl, h1, r1⟩ := trodAll_cons r0
    obtain ⟨rfl, rfl, rfl⟩ := trodAll_nil r1
    rfl
  have hval' := hval
  obtain ⟨p, q, hA, hV, rfl, hfz, hnd⟩ := hW
  have hA1 : DataW.TrodAll enc Try.prog W 0 (fun _ => true) true Try.f11.params.toList args.toList ds p := hA
  rw [Try.params11] at hA1
  obtain ⟨v0, vs0, d0, ds0, p0, q0, hargs, rfl, rfl, h0, r0⟩ := trodAll_cons hA1
  obtain ⟨v1, vs1, d1, ds1, p1, q1, rfl, rfl, rfl, h1, r1⟩ := trodAll_cons r0
  obtain ⟨rfl, rfl, rfl⟩ := trodAll_nil r1
  obtain rfl : args = #[v0, v1] := by cases args; simp_all
  rw [Try.params11] at hval'
  obtain ⟨g0, b0, k0, rfl⟩ := open_flat laidOut Try.underlying3 Try.underlying4 GFrame.ks (t := 23) (of_decide_eq_true (by kernel_rfl)) Try.underlying23 (by kernel_rfl) (hval' 0 23 v0 rfl rfl) h0
  obtain ⟨a1, rfl, rfl, rfl, w1⟩ := open_int Try.underlying3 (hval' 1 3 v1 rfl rfl) h1
  exact (FnExactSnapFrame_walk W (GFrame.of g0 b0) (GFrame.ok_of g0 b0 k0) a1 (r64_of_wf w1)).mono fun e W' ⟨he, hx⟩ => ⟨_, he, hpost W' hx⟩
theorem FnExactSnapFrame_over : Rows.fnExactSnapFrameRow.holds Try.pinned (OpenSpec.ofChange Rows.fnExactSnapFrameSpec) :=
  OpenClaim.holds_of_wide 11 Try.f11 rfl rfl rfl rfl rfl rfl rfl ⟨rfl, rfl, rfl, rfl, rfl⟩ rfl rfl rfl rfl rfl (by kernel_rfl) Try.func11 (by kernel_rfl)
    (of_decide_eq_true (by kernel_rfl)) (by unfold Func.isWrapper; first | (rw [if_pos (by decide +kernel)]; kernel_rfl) | (rw [if_neg (by decide +kernel)]; exact ⟨rfl, rfl⟩))
    (fun os started H enc _ => FnExactSnapFrame_lifted os started H enc)
theorem FnExactSnapFrame_proved : Rows.FnExactSnapFrameSaid := FnExactSnapFrame_over

end Go.Proofs.Ytdmehkifpccigaa
