/- The law FnExactInBounds: for every input it returns true, and each argument reads afterwards as it read before. No condition. -/
import Derived.Test.YtgaljjeglamcmaaO2
namespace Go.Proofs.Ytgaljjeglamcmaa
open Go.ChangeShapes Go.WideShapes Go.ChangeAt Go.RowKit
set_option linter.unusedVariables false
set_option linter.unusedSimpArgs false
set_option maxRecDepth 100000

theorem FnExactInBounds_walk (w : World) (xs : List GItem) (va : Value) (ra : RepS 9 GItem.c w va xs) (zx : ∀ x ∈ xs, ∃ (g : Nat → Int) (h : Nat → Bool), (∀ i, R64 (g i)) ∧ x = GItem.of g h) (ys : List Int) (vb : Value) (rb : RepI w vb ys) (zy : ∀ x ∈ ys, ∃ (g : Nat → Int) (h : Nat → Bool), (∀ i, R64 (g i)) ∧ x = g 0) :
    Calls Try.prog 5 #[va, vb] w fun e w' => e = .returned (.bool true) ∧ Below w.heap.size w w' := by
  clear zx zy
  obtain ⟨pa, ca, rfl, -, -, -⟩ := GItem.rep ra
  obtain ⟨pb, cb, rfl, -, -, -⟩ := rb.at
  by_cases h5 : ys.length ≤ 1048576
  · by_cases h1 : (1048576 : Int) < xs.length
    · go_enter Try.func5, Try.ntmps5
      go_wp2_with fail
      refine (laws_szItemS_c _ ra 1048576 (by omega) (by omega)).mono ?_
      rw [if_pos (show (1048576 : Int) < xs.length by omega)]
      rintro e w' ⟨rfl, rfl⟩
      go_wp2
      go_ret
      exact ⟨rfl, ext_refl _⟩
    · have h2 : xs.length ≤ 1048576 := by omega
      have h3 : ¬ (1048576 - (xs.length : Int) < 0) := by omega
      have hq : ((inBounds xs ys) != (inBounds xs ys)) = false := by simp
      go_enter Try.func5, Try.ntmps5
      go_wp2_with fail
      refine (laws_szItemS_c _ ra 1048576 (by omega) (by omega)).mono ?_
      rw [if_neg (show ¬ (1048576 : Int) < xs.length by omega)]
      rintro e w' ⟨rfl, rfl⟩
      go_wp2_with fail
      refine (laws_toItemS_c _ ra h2).mono ?_
      rintro e w' ⟨v0, rfl, o0, hb⟩
      replace ra := ra.ext hb
      replace rb := rb.ext hb
      (first | ((with_reducible replace hE := ext_trans hE hb); clear hc hf hl hz) | (have hE := hb)); clear hb; obtain ⟨hc, hf, hl, hz⟩ := keep hE; (try simp only [World.size_alloc, World.size_setCell, World.size_drew] at hz); (try have hl0 := hl w.heap.size (by first | (simp; done) | (simp; omega))); (try have hl1 := hl (w.heap.size + 1) (by first | (simp; done) | (simp; omega))); (try have hl2 := hl (w.heap.size + 1 + 1) (by first | (simp; done) | (simp; omega))); (try have hl3 := hl (w.heap.size + 1 + 1 + 1) (by first | (simp; done) | (simp; omega)))
      go_wp2_with fail
      refine (laws_toIntS_c _ rb h5).mono ?_
      rintro e w' ⟨v1, rfl, o1, hb⟩
      replace ra := ra.ext hb
      replace rb := rb.ext hb
      replace o0 := o0.ext hb
      (first | ((with_reducible replace hE := ext_trans hE hb); clear hc hf hl hz) | (have hE := hb)); clear hb; obtain ⟨hc, hf, hl, hz⟩ := keep hE; (try simp only [World.size_alloc, World.size_setCell, World.size_drew] at hz); (try have hl0 := hl w.heap.size (by first | (simp; done) | (simp; omega))); (try have hl1 := hl (w.heap.size + 1) (by first | (simp; done) | (simp; omega))); (try have hl2 := hl (w.heap.size + 1 + 1) (by first | (simp; done) | (simp; omega))); (try have hl3 := hl (w.heap.size + 1 + 1 + 1) (by first | (simp; done) | (simp; omega)))
      go_wp2_with fail
      refine (spec_InBounds_c _ o0.rep o1.rep).mono ?_
      rintro e w' ⟨rfl, hb⟩
      replace ra := ra.ext hb
      replace rb := rb.ext hb
      (first | ((with_reducible replace hE := ext_trans hE hb); clear hc hf hl hz) | (have hE := hb)); clear hb; obtain ⟨hc, hf, hl, hz⟩ := keep hE; (try simp only [World.size_alloc, World.size_setCell, World.size_drew] at hz); (try have hl0 := hl w.heap.size (by first | (simp; done) | (simp; omega))); (try have hl1 := hl (w.heap.size + 1) (by first | (simp; done) | (simp; omega))); (try have hl2 := hl (w.heap.size + 1 + 1) (by first | (simp; done) | (simp; omega))); (try have hl3 := hl (w.heap.size + 1 + 1 + 1) (by first | (simp; done) | (simp; omega)))
      go_wp2_with fail
      refine (laws_toItemS_c _ ra h2).mono ?_
      rintro e w' ⟨v2, rfl, o2, hb⟩
      replace ra := ra.ext hb
      replace rb := rb.ext hb
      (first | ((with_reducible replace hE := ext_trans hE hb); clear hc hf hl hz) | (have hE := hb)); clear hb; obtain ⟨hc, hf, hl, hz⟩ := keep hE; (try simp only [World.size_alloc, World.size_setCell, World.size_drew] at hz); (try have hl0 := hl w.heap.size (by first | (simp; done) | (simp; omega))); (try have hl1 := hl (w.heap.size + 1) (by first | (simp; done) | (simp; omega))); (try have hl2 := hl (w.heap.size + 1 + 1) (by first | (simp; done) | (simp; omega))); (try have hl3 := hl (w.heap.size + 1 + 1 + 1) (by first | (simp; done) | (simp; omega)))
      go_wp2_with fail
      refine (laws_toIntS_c _ rb h5).mono ?_
      rintro e w' ⟨v3, rfl, o3, hb⟩
      replace ra := ra.ext hb
      replace rb := rb.ext hb
      replace o2 := o2.ext hb
      (first | ((with_reducible replace hE := ext_trans hE hb); clear hc hf hl hz) | (have hE := hb)); clear hb; obtain ⟨hc, hf, hl, hz⟩ := keep hE; (try simp only [World.size_alloc, World.size_setCell, World.size_drew] at hz); (try have hl0 := hl w.heap.size (by first | (simp; done) | (simp; omega))); (try have hl1 := hl (w.heap.size + 1) (by first | (simp; done) | (simp; omega))); (try have hl2 := hl (w.heap.size + 1 + 1) (by first | (simp; done) | (simp; omega))); (try have hl3 := hl (w.heap.size + 1 + 1 + 1) (by first | (simp; done) | (simp; omega)))
      go_wp2_with fail
      refine (impl_InBounds_c _ o2.rep o3.rep).mono ?_
      rintro e w' ⟨rfl, hb⟩
      replace ra := ra.ext hb
      replace rb := rb.ext hb
      replace o2 := o2.ext hb
      replace o3 := o3.ext hb
      (first | ((with_reducible replace hE := ext_trans hE hb); clear hc hf hl hz) | (have hE := hb)); clear hb; obtain ⟨hc, hf, hl, hz⟩ := keep hE; (try simp only [World.size_alloc, World.size_setCell, World.size_drew] at hz); (try have hl0 := hl w.heap.size (by first | (simp; done) | (simp; omega))); (try have hl1 := hl (w.heap.size + 1) (by first | (simp; done) | (simp; omega))); (try have hl2 := hl (w.heap.size + 1 + 1) (by first | (simp; done) | (simp; omega))); (try have hl3 := hl (w.heap.size + 1 + 1 + 1) (by first | (simp; done) | (simp; omega)))
      go_wp2_with fail
      refine (laws_toItemS_c _ ra h2).mono ?_
      rintro e w' ⟨v4, rfl, o4, hb⟩
      replace ra := ra.ext hb
      replace rb := rb.ext hb
      replace o2 := o2.ext hb
      replace o3 := o3.ext hb
      (first | ((with_reducible replace hE := ext_trans hE hb); clear hc hf hl hz) | (have hE := hb)); clear hb; obtain ⟨hc, hf, hl, hz⟩ := keep hE; (try simp only [World.size_alloc, World.size_setCell, World.size_drew] at hz); (try have hl0 := hl w.heap.size (by first | (simp; done) | (simp; omega))); (try have hl1 := hl (w.heap.size + 1) (by first | (simp; done) | (simp; omega))); (try have hl2 := hl (w.heap.size + 1 + 1) (by first | (simp; done) | (simp; omega))); (try have hl3 := hl (w.heap.size + 1 + 1 + 1) (by first | (simp; done) | (simp; omega)))
      go_wp2_with fail
      refine (laws_eqItemS_c _ o2.rep o4.rep).mono ?_
      rintro e w' ⟨rfl, hb⟩
      replace rb := rb.ext hb
      replace o3 := o3.ext hb
      (first | ((with_reducible replace hE := ext_trans hE hb); clear hc hf hl hz) | (have hE := hb)); clear hb; obtain ⟨hc, hf, hl, hz⟩ := keep hE; (try simp only [World.size_alloc, World.size_setCell, World.size_drew] at hz); (try have hl0 := hl w.heap.size (by first | (simp; done) | (simp; omega))); (try have hl1 := hl (w.heap.size + 1) (by first | (simp; done) | (simp; omega))); (try have hl2 := hl (w.heap.size + 1 + 1) (by first | (simp; done) | (simp; omega))); (try have hl3 := hl (w.heap.size + 1 + 1 + 1) (by first | (simp; done) | (simp; omega)))
      rw [decide_eq_true rfl]
      go_wp2_with fail
      refine (laws_toIntS_c _ rb h5).mono ?_
      rintro e w' ⟨v5, rfl, o5, hb⟩
      replace o3 := o3.ext hb
      (first | ((with_reducible replace hE := ext_trans hE hb); clear hc hf hl hz) | (have hE := hb)); clear hb; obtain ⟨hc, hf, hl, hz⟩ := keep hE; (try simp only [World.size_alloc, World.size_setCell, World.size_drew] at hz); (try have hl0 := hl w.heap.size (by first | (simp; done) | (simp; omega))); (try have hl1 := hl (w.heap.size + 1) (by first | (simp; done) | (simp; omega))); (try have hl2 := hl (w.heap.size + 1 + 1) (by first | (simp; done) | (simp; omega))); (try have hl3 := hl (w.heap.size + 1 + 1 + 1) (by first | (simp; done) | (simp; omega)))
      go_wp2_with fail
      refine (laws_eqIntS_c _ o3.rep o5.rep).mono ?_
      rintro e w' ⟨rfl, hb⟩
      (first | ((with_reducible replace hE := ext_trans hE hb); clear hc hf hl hz) | (have hE := hb)); clear hb; obtain ⟨hc, hf, hl, hz⟩ := keep hE; (try simp only [World.size_alloc, World.size_setCell, World.size_drew] at hz); (try have hl0 := hl w.heap.size (by first | (simp; done) | (simp; omega))); (try have hl1 := hl (w.heap.size + 1) (by first | (simp; done) | (simp; omega))); (try have hl2 := hl (w.heap.size + 1 + 1) (by first | (simp; done) | (simp; omega))); (try have hl3 := hl (w.heap.size + 1 + 1 + 1) (by first | (simp; done) | (simp; omega)))
      rw [decide_eq_true rfl]
      go_wp2
      all_goals go_ret
      all_goals exact ⟨rfl, by repeat (first | (with_reducible exact ext_refl _) | (with_reducible assumption) | (with_reducible refine Below.setCell ?_ (by first | omega | (simp; done) | (simp; omega)) _) | (with_reducible refine below_drewN ?_ _) | (with_reducible refine Below.drew ?_) | (with_reducible refine ext_trans ?_ (by with_reducible assumption)) | (with_reducible refine ext_trans ?_ (ext_alloc _ _)))⟩
  · go_enter Try.func5, Try.ntmps5
    go_wp2
    go_ret
    exact ⟨rfl, ext_refl _⟩
set_option maxHeartbeats 1600000 in
set_option maxRecDepth 100000 in
theorem FnExactInBounds_lifted (os : Os) (started : os.Started) (H : Type) (enc : TypeId × Value → H) :
    ReturnsInHanded {} Try.checked os 5 .any (Rows.fnExactInBoundsSpec.pre6 enc Try.prog Try.f5 Rows.fnExactInBoundsRow.domain false) (Rows.fnExactInBoundsSpec.post enc Try.prog Try.f5 false true false false) := by
  refine returnsInHanded_of_change (C := Try.checked) own started (by kernel_rfl) Try.func5
    (ChangeSpec.witness6 (enc := enc) (C := Try.checked) false ⟨#[], #[.slice none 0 0, .slice none 0 0], []⟩ 8 (by kernel_rfl) (by kernel_rfl) (by kernel_rfl) (by kernel_rfl)) ?_
  intro W base args ds gs before hval hW hcnd _
  have hpost : ∀ W', Below W.heap.size W W' → Rows.fnExactInBoundsSpec.post enc Try.prog Try.f5 false true false false W args (.bool true) W' := by
    intro W' hx
    refine law_post laidOut (by kernel_rfl) rfl ?_ (t := 4) (by kernel_rfl) Try.underlying4 hW hx
    obtain ⟨p, q, hA, hV, rfl, hfz, hnd⟩ := hW
    obtain ⟨rfl, rfl⟩ := trodVars_none hV
    have hA1 : DataW.TrodAll enc Try.prog W 0 (fun _ => true) true Try.f5.params.toList args.toList ds p := hA
    rw [Try.params5] at hA1
    obtain ⟨v0, vs0, d0, ds0, p0, q0, hargs, rfl, rfl, h0, r0⟩ := trodAll_cons hA1
    obtain ⟨v1, vs1, d1, ds1, p1, q1, rfl, rfl, rfl, h1, r1⟩ := trodAll_cons r0
    obtain ⟨rfl, rfl, rfl⟩ := trodAll_nil r1
    rfl
  have hval' := hval
  obtain ⟨p, q, hA, hV, rfl, hfz, hnd⟩ := hW
  have hA1 : DataW.TrodAll enc Try.prog W 0 (fun _ => true) true Try.f5.params.toList args.toList ds p := hA
  rw [Try.params5] at hA1
  obtain ⟨v0, vs0, d0, ds0, p0, q0, hargs, rfl, rfl, h0, r0⟩ := trodAll_cons hA1
  obtain ⟨v1, vs1, d1, ds1, p1, q1, rfl, rfl, rfl, h1, r1⟩ := trodAll_cons r0
  obtain ⟨rfl, rfl, rfl⟩ := trodAll_nil r1
  obtain rfl : args = #[v0, v1] := by cases args; simp_all
  rw [Try.params5] at hval'
  obtain ⟨a0, s0, z0⟩ := open_rep GItem.of GItem.c GItem.ks GItem.by (by decide) laidOut Try.underlying3 Try.underlying4 (te := 108) (of_decide_eq_true (by kernel_rfl)) Try.underlying37 (by kernel_rfl) (by kernel_rfl) h0 (hval' 0 37 v0 rfl rfl)
  obtain ⟨a1, s1, z1⟩ := open_rep (fun g h => g 0) intC [false] (fun _ _ => rfl) (by decide) laidOut Try.underlying3 Try.underlying4 (te := 3) (of_decide_eq_true (by kernel_rfl)) Try.underlying38 (by kernel_rfl) (by kernel_rfl) h1 (hval' 1 38 v1 rfl rfl)
  exact (FnExactInBounds_walk W a0 v0 s0 z0 a1 v1 s1 z1).mono fun e W' ⟨he, hx⟩ => ⟨_, he, hpost W' hx⟩
theorem FnExactInBounds_over : Rows.fnExactInBoundsRow.holds Try.pinned (OpenSpec.ofChange Rows.fnExactInBoundsSpec) :=
  OpenClaim.holds_of_wide 5 Try.f5 rfl rfl rfl rfl rfl rfl rfl ⟨rfl, rfl, rfl, rfl, rfl⟩ rfl rfl rfl rfl rfl (by kernel_rfl) Try.func5 (by kernel_rfl)
    (of_decide_eq_true (by kernel_rfl)) (by unfold Func.isWrapper; first | (rw [if_pos (by decide +kernel)]; kernel_rfl) | (rw [if_neg (by decide +kernel)]; exact ⟨rfl, rfl⟩))
    (fun os started H enc _ => FnExactInBounds_lifted os started H enc)
theorem FnExactInBounds_proved : Rows.FnExactInBoundsSaid := FnExactInBounds_over

end Go.Proofs.Ytgaljjeglamcmaa
