/- The law FnExactEdgesOf: for every input it returns true, and each argument reads afterwards as it read before. No condition. -/
import Derived.Test.YtdmehkifpccigaaI2
namespace Go.Proofs.Ytdmehkifpccigaa
open Go.ChangeShapes Go.WideShapes Go.ChangeAt Go.RowKit
set_option linter.unusedVariables false
set_option linter.unusedSimpArgs false
set_option maxRecDepth 100000

theorem FnExactEdgesOf_walk (w : World) (f : GFrame) (hf0 : f.ok) :
    Calls Try.prog 8 #[.agg #[.int .i64 f.node, .int .i64 f.x, .int .i64 f.y, .int .i64 f.wide, .int .i64 f.high]] w fun e w' => e = .returned (.bool true) ∧ Below w.heap.size w w' := by
  clear hf0
  go_enter Try.func8, Try.ntmps8
  go_wp2_with fail
  refine (laws_toFrame_c _ _).mono ?_
  rintro e w1 ⟨rfl, hb⟩
  (first | (replace hE := ext_trans hE hb; clear hc hf hl hz) | (have hE := hb)); clear hb; obtain ⟨hc, hf, hl, hz⟩ := keep hE; (try simp only [World.size_alloc, World.size_setCell, World.size_drew] at hz); (try have hl0 := hl w.heap.size (by first | (simp; done) | (simp; omega))); (try have hl1 := hl (w.heap.size + 1) (by first | (simp; done) | (simp; omega))); (try have hl2 := hl (w.heap.size + 1 + 1) (by first | (simp; done) | (simp; omega))); (try have hl3 := hl (w.heap.size + 1 + 1 + 1) (by first | (simp; done) | (simp; omega)))
  go_wp2_with fail
  refine (spec_EdgesOf_c f _).mono ?_
  rintro e w2 ⟨v0, rfl, ho0, hb⟩
  have r0 := ho0.rep
  (first | (replace hE := ext_trans hE hb; clear hc hf hl hz) | (have hE := hb)); clear hb; obtain ⟨hc, hf, hl, hz⟩ := keep hE; (try simp only [World.size_alloc, World.size_setCell, World.size_drew] at hz); (try have hl0 := hl w.heap.size (by first | (simp; done) | (simp; omega))); (try have hl1 := hl (w.heap.size + 1) (by first | (simp; done) | (simp; omega))); (try have hl2 := hl (w.heap.size + 1 + 1) (by first | (simp; done) | (simp; omega))); (try have hl3 := hl (w.heap.size + 1 + 1 + 1) (by first | (simp; done) | (simp; omega)))
  go_wp2_with fail
  refine (laws_toFrame_c _ _).mono ?_
  rintro e w3 ⟨rfl, hb⟩
  have r0 := r0.ext hb
  (first | (replace hE := ext_trans hE hb; clear hc hf hl hz) | (have hE := hb)); clear hb; obtain ⟨hc, hf, hl, hz⟩ := keep hE; (try simp only [World.size_alloc, World.size_setCell, World.size_drew] at hz); (try have hl0 := hl w.heap.size (by first | (simp; done) | (simp; omega))); (try have hl1 := hl (w.heap.size + 1) (by first | (simp; done) | (simp; omega))); (try have hl2 := hl (w.heap.size + 1 + 1) (by first | (simp; done) | (simp; omega))); (try have hl3 := hl (w.heap.size + 1 + 1 + 1) (by first | (simp; done) | (simp; omega)))
  have E3 := Lib.hid hE
  go_wp2_with fail
  refine (impl_EdgesOf_c f _).mono ?_
  rintro e w4 ⟨v1, rfl, ho1, hb⟩
  have r1 := r0.ext hb
  have b4 := Lib.hid hb
  (first | (replace hE := ext_trans hE hb; clear hc hf hl hz) | (have hE := hb)); clear hb; obtain ⟨hc, hf, hl, hz⟩ := keep hE; (try simp only [World.size_alloc, World.size_setCell, World.size_drew] at hz); (try have hl0 := hl w.heap.size (by first | (simp; done) | (simp; omega))); (try have hl1 := hl (w.heap.size + 1) (by first | (simp; done) | (simp; omega))); (try have hl2 := hl (w.heap.size + 1 + 1) (by first | (simp; done) | (simp; omega))); (try have hl3 := hl (w.heap.size + 1 + 1 + 1) (by first | (simp; done) | (simp; omega)))
  go_wp2_with fail
  refine (laws_eqIntS_c _ ho1.rep r1).mono ?_
  rintro e w5 ⟨rfl, hb⟩
  rw [decide_eq_true rfl]
  have b5 := Lib.hid (ext_trans b4.out hb)
  have ho2 := ho1.ext hb
  (first | (replace hE := ext_trans hE hb; clear hc hf hl hz) | (have hE := hb)); clear hb; obtain ⟨hc, hf, hl, hz⟩ := keep hE; (try simp only [World.size_alloc, World.size_setCell, World.size_drew] at hz); (try have hl0 := hl w.heap.size (by first | (simp; done) | (simp; omega))); (try have hl1 := hl (w.heap.size + 1) (by first | (simp; done) | (simp; omega))); (try have hl2 := hl (w.heap.size + 1 + 1) (by first | (simp; done) | (simp; omega))); (try have hl3 := hl (w.heap.size + 1 + 1 + 1) (by first | (simp; done) | (simp; omega)))
  go_wp2_with fail
  refine (laws_markIntS_c _ ho2 1 (by omega) (by simp [edgesL])).mono ?_
  rintro e w6 ⟨rfl, ho3, hm⟩
  have b6 := b5.out.trans hm
  have r2 := r0.ext b6
  replace hE := ext_trans E3.out b6
  clear hc hf hl hz; obtain ⟨hc, hf, hl, hz⟩ := keep hE; (try simp only [World.size_alloc, World.size_setCell, World.size_drew] at hz); (try have hl0 := hl w.heap.size (by first | (simp; done) | (simp; omega))); (try have hl1 := hl (w.heap.size + 1) (by first | (simp; done) | (simp; omega))); (try have hl2 := hl (w.heap.size + 1 + 1) (by first | (simp; done) | (simp; omega))); (try have hl3 := hl (w.heap.size + 1 + 1 + 1) (by first | (simp; done) | (simp; omega)))
  simp only [show (edgesL f).length = 4 from rfl] at ho3
  go_wp2_with fail
  refine (laws_heldIntS_c _ ho3.rep (by omega) (by omega)).mono ?_
  rintro e w6 ⟨rfl, rfl⟩
  go_wp2_with fail
  refine (laws_toFrame_c _ _).mono ?_
  rintro e w7 ⟨rfl, hb⟩
  have r3 := r2.ext hb
  have ho4 := ho3.ext hb
  (first | (replace hE := ext_trans hE hb; clear hc hf hl hz) | (have hE := hb)); clear hb; obtain ⟨hc, hf, hl, hz⟩ := keep hE; (try simp only [World.size_alloc, World.size_setCell, World.size_drew] at hz); (try have hl0 := hl w.heap.size (by first | (simp; done) | (simp; omega))); (try have hl1 := hl (w.heap.size + 1) (by first | (simp; done) | (simp; omega))); (try have hl2 := hl (w.heap.size + 1 + 1) (by first | (simp; done) | (simp; omega))); (try have hl3 := hl (w.heap.size + 1 + 1 + 1) (by first | (simp; done) | (simp; omega)))
  go_wp2_with fail
  refine (impl_EdgesOf_c f _).mono ?_
  rintro e w8 ⟨v2, rfl, ho5, hb⟩
  have r4 := r3.ext hb
  have ho6 := ho4.ext hb
  (first | (replace hE := ext_trans hE hb; clear hc hf hl hz) | (have hE := hb)); clear hb; obtain ⟨hc, hf, hl, hz⟩ := keep hE; (try simp only [World.size_alloc, World.size_setCell, World.size_drew] at hz); (try have hl0 := hl w.heap.size (by first | (simp; done) | (simp; omega))); (try have hl1 := hl (w.heap.size + 1) (by first | (simp; done) | (simp; omega))); (try have hl2 := hl (w.heap.size + 1 + 1) (by first | (simp; done) | (simp; omega))); (try have hl3 := hl (w.heap.size + 1 + 1 + 1) (by first | (simp; done) | (simp; omega)))
  go_wp2_with fail
  refine (laws_eqIntS_c _ ho5.rep r4).mono ?_
  rintro e w9 ⟨rfl, hb⟩
  rw [decide_eq_true rfl]
  have ho7 := ho6.ext hb
  (first | (replace hE := ext_trans hE hb; clear hc hf hl hz) | (have hE := hb)); clear hb; obtain ⟨hc, hf, hl, hz⟩ := keep hE; (try simp only [World.size_alloc, World.size_setCell, World.size_drew] at hz); (try have hl0 := hl w.heap.size (by first | (simp; done) | (simp; omega))); (try have hl1 := hl (w.heap.size + 1) (by first | (simp; done) | (simp; omega))); (try have hl2 := hl (w.heap.size + 1 + 1) (by first | (simp; done) | (simp; omega))); (try have hl3 := hl (w.heap.size + 1 + 1 + 1) (by first | (simp; done) | (simp; omega)))
  go_wp2_with fail
  refine (laws_heldIntS_c _ ho7.rep (by omega) (by omega)).mono ?_
  rintro e w10 ⟨rfl, rfl⟩
  go_wp2
  all_goals go_ret
  all_goals exact ⟨rfl, by repeat (first | (with_reducible exact ext_refl _) | (with_reducible assumption) | (with_reducible refine ext_trans ?_ (ext_alloc _ _)) | (with_reducible refine below_drewN ?_ _) | (with_reducible refine Below.drew ?_) | (with_reducible refine Below.setCell ?_ (by simp; omega) _) | (refine ext_trans ?_ (by with_reducible assumption)))⟩
set_option maxHeartbeats 1600000 in
set_option maxRecDepth 100000 in
theorem FnExactEdgesOf_lifted (os : Os) (started : os.Started) (H : Type) (enc : TypeId × Value → H) :
    ReturnsInHanded {} Try.checked os 8 .any (Rows.fnExactEdgesOfSpec.pre6 enc Try.prog Try.f8 Rows.fnExactEdgesOfRow.domain false) (Rows.fnExactEdgesOfSpec.post enc Try.prog Try.f8 false true false false) := by
  refine returnsInHanded_of_change (C := Try.checked) own started (by kernel_rfl) Try.func8
    (ChangeSpec.witness6 (enc := enc) (C := Try.checked) false ⟨#[], #[.agg #[.int .i64 0, .int .i64 0, .int .i64 0, .int .i64 0, .int .i64 0]], []⟩ 8 (by kernel_rfl) (by kernel_rfl) (by kernel_rfl) (by kernel_rfl)) ?_
  intro W base args ds gs before hval hW hcnd _
  have hpost : ∀ W', Below W.heap.size W W' → Rows.fnExactEdgesOfSpec.post enc Try.prog Try.f8 false true false false W args (.bool true) W' := by
    intro W' hx
    refine law_post laidOut (by kernel_rfl) rfl ?_ (t := 4) (by kernel_rfl) Try.underlying4 hW hx
    obtain ⟨p, q, hA, hV, rfl, hfz, hnd⟩ := hW
    obtain ⟨rfl, rfl⟩ := trodVars_none hV
    have hA1 : DataW.TrodAll enc Try.prog W 0 (fun _ => true) true Try.f8.params.toList args.toList ds p := hA
    rw [Try.params8] at hA1
    obtain ⟨v0, vs0, d0, ds0, p0, q0, hargs, rfl, rfl, h0, r0⟩ := trodAll_cons hA1
    obtain ⟨rfl, rfl, rfl⟩ := trodAll_nil r0
    rfl
  have hval' := hval
  obtain ⟨p, q, hA, hV, rfl, hfz, hnd⟩ := hW
  have hA1 : DataW.TrodAll enc Try.prog W 0 (fun _ => true) true Try.f8.params.toList args.toList ds p := hA
  rw [Try.params8] at hA1
  obtain ⟨v0, vs0, d0, ds0, p0, q0, hargs, rfl, rfl, h0, r0⟩ := trodAll_cons hA1
  obtain ⟨rfl, rfl, rfl⟩ := trodAll_nil r0
  obtain rfl : args = #[v0] := by cases args; simp_all
  rw [Try.params8] at hval'
  obtain ⟨g0, b0, k0, rfl⟩ := open_flat laidOut Try.underlying3 Try.underlying4 GFrame.ks (t := 23) (of_decide_eq_true (by kernel_rfl)) Try.underlying23 (by kernel_rfl) (hval' 0 23 v0 rfl rfl) h0
  exact (FnExactEdgesOf_walk W (GFrame.of g0 b0) (GFrame.ok_of g0 b0 k0)).mono fun e W' ⟨he, hx⟩ => ⟨_, he, hpost W' hx⟩
theorem FnExactEdgesOf_over : Rows.fnExactEdgesOfRow.holds Try.pinned (OpenSpec.ofChange Rows.fnExactEdgesOfSpec) :=
  OpenClaim.holds_of_wide 8 Try.f8 rfl rfl rfl rfl rfl rfl rfl ⟨rfl, rfl, rfl, rfl, rfl⟩ rfl rfl rfl rfl rfl (by kernel_rfl) Try.func8 (by kernel_rfl)
    (of_decide_eq_true (by kernel_rfl)) (by unfold Func.isWrapper; first | (rw [if_pos (by decide +kernel)]; kernel_rfl) | (rw [if_neg (by decide +kernel)]; exact ⟨rfl, rfl⟩))
    (fun os started H enc _ => FnExactEdgesOf_lifted os started H enc)
theorem FnExactEdgesOf_proved : Rows.FnExactEdgesOfSaid := FnExactEdgesOf_over

end Go.Proofs.Ytdmehkifpccigaa
