/- The law FnExactNoneOverlap: for every input it returns true, and each argument reads afterwards as it read before. No condition. -/
import Derived.Test.YtgaljjeglamcmaaO1
namespace Go.Proofs.Ytgaljjeglamcmaa
open Go.ChangeShapes Go.WideShapes Go.ChangeAt Go.RowKit
set_option linter.unusedVariables false
set_option linter.unusedSimpArgs false
set_option maxRecDepth 100000

theorem FnExactNoneOverlap_walk (w : World) (xs : List GFrame) (va : Value) (ra : RepS 5 GFrame.c w va xs) (zx : ∀ x ∈ xs, ∃ (g : Nat → Int) (h : Nat → Bool), (∀ i, R64 (g i)) ∧ x = GFrame.of g h) :
    Calls Try.prog 3 #[va] w fun e w' => e = .returned (.bool true) ∧ Below w.heap.size w w' := by
  have hok : ∀ x ∈ xs, x.ok := fun x hx => by obtain ⟨g, h, k, rfl⟩ := zx x hx; exact GFrame.ok_of g h k
  have HOK := Lib.hid hok
  clear zx hok
  by_cases h1 : (1048576 : Int) < xs.length
  · obtain ⟨pa, ca, rfl, -, -, -⟩ := GFrame.rep ra
    go_enter Try.func3, Try.ntmps3
    go_wp2_with fail
    refine (laws_szFrameS_c _ ra 1048576 (by omega) (by omega)).mono ?_
    rw [if_pos h1]
    rintro e w' ⟨rfl, rfl⟩
    go_wp2
    go_ret
    exact ⟨rfl, ext_refl _⟩
  · have h2 : xs.length ≤ 1048576 := by omega
    have h3 : ¬ (1048576 - (xs.length : Int) < 0) := by omega
    have hq : ((noneOverlap xs) != (noneOverlap xs)) = false := by simp
    obtain ⟨pa, ca, rfl, -, -, -⟩ := GFrame.rep ra
    go_enter Try.func3, Try.ntmps3
    go_wp2_with fail
    refine (laws_szFrameS_c _ ra 1048576 (by omega) (by omega)).mono ?_
    rw [if_neg (show ¬ (1048576 : Int) < xs.length by omega)]
    rintro e w' ⟨rfl, rfl⟩
    go_wp2_with fail
    refine (laws_toFrameS_c _ ra h2).mono ?_
    rintro e w' ⟨v0, rfl, o0, hb⟩
    replace ra := ra.ext hb
    (first | ((with_reducible replace hE := ext_trans hE hb); clear hc hf hl hz) | (have hE := hb)); clear hb; obtain ⟨hc, hf, hl, hz⟩ := keep hE; (try simp only [World.size_alloc, World.size_setCell, World.size_drew] at hz); (try have hl0 := hl w.heap.size (by first | (simp; done) | (simp; omega))); (try have hl1 := hl (w.heap.size + 1) (by first | (simp; done) | (simp; omega))); (try have hl2 := hl (w.heap.size + 1 + 1) (by first | (simp; done) | (simp; omega))); (try have hl3 := hl (w.heap.size + 1 + 1 + 1) (by first | (simp; done) | (simp; omega)))
    go_wp2_with fail
    refine (spec_NoneOverlap_c _ o0.rep HOK.out).mono ?_
    rintro e w' ⟨rfl, hb⟩
    replace ra := ra.ext hb
    (first | ((with_reducible replace hE := ext_trans hE hb); clear hc hf hl hz) | (have hE := hb)); clear hb; obtain ⟨hc, hf, hl, hz⟩ := keep hE; (try simp only [World.size_alloc, World.size_setCell, World.size_drew] at hz); (try have hl0 := hl w.heap.size (by first | (simp; done) | (simp; omega))); (try have hl1 := hl (w.heap.size + 1) (by first | (simp; done) | (simp; omega))); (try have hl2 := hl (w.heap.size + 1 + 1) (by first | (simp; done) | (simp; omega))); (try have hl3 := hl (w.heap.size + 1 + 1 + 1) (by first | (simp; done) | (simp; omega)))
    go_wp2_with fail
    refine (laws_toFrameS_c _ ra h2).mono ?_
    rintro e w' ⟨v1, rfl, o1, hb⟩
    replace ra := ra.ext hb
    (first | ((with_reducible replace hE := ext_trans hE hb); clear hc hf hl hz) | (have hE := hb)); clear hb; obtain ⟨hc, hf, hl, hz⟩ := keep hE; (try simp only [World.size_alloc, World.size_setCell, World.size_drew] at hz); (try have hl0 := hl w.heap.size (by first | (simp; done) | (simp; omega))); (try have hl1 := hl (w.heap.size + 1) (by first | (simp; done) | (simp; omega))); (try have hl2 := hl (w.heap.size + 1 + 1) (by first | (simp; done) | (simp; omega))); (try have hl3 := hl (w.heap.size + 1 + 1 + 1) (by first | (simp; done) | (simp; omega)))
    go_wp2_with fail
    refine (impl_NoneOverlap_c _ o1.rep HOK.out).mono ?_
    rintro e w' ⟨rfl, hb⟩
    replace ra := ra.ext hb
    replace o1 := o1.ext hb
    (first | ((with_reducible replace hE := ext_trans hE hb); clear hc hf hl hz) | (have hE := hb)); clear hb; obtain ⟨hc, hf, hl, hz⟩ := keep hE; (try simp only [World.size_alloc, World.size_setCell, World.size_drew] at hz); (try have hl0 := hl w.heap.size (by first | (simp; done) | (simp; omega))); (try have hl1 := hl (w.heap.size + 1) (by first | (simp; done) | (simp; omega))); (try have hl2 := hl (w.heap.size + 1 + 1) (by first | (simp; done) | (simp; omega))); (try have hl3 := hl (w.heap.size + 1 + 1 + 1) (by first | (simp; done) | (simp; omega)))
    go_wp2_with fail
    refine (laws_toFrameS_c _ ra h2).mono ?_
    rintro e w' ⟨v2, rfl, o2, hb⟩
    replace o1 := o1.ext hb
    (first | ((with_reducible replace hE := ext_trans hE hb); clear hc hf hl hz) | (have hE := hb)); clear hb; obtain ⟨hc, hf, hl, hz⟩ := keep hE; (try simp only [World.size_alloc, World.size_setCell, World.size_drew] at hz); (try have hl0 := hl w.heap.size (by first | (simp; done) | (simp; omega))); (try have hl1 := hl (w.heap.size + 1) (by first | (simp; done) | (simp; omega))); (try have hl2 := hl (w.heap.size + 1 + 1) (by first | (simp; done) | (simp; omega))); (try have hl3 := hl (w.heap.size + 1 + 1 + 1) (by first | (simp; done) | (simp; omega)))
    go_wp2_with fail
    refine (laws_eqFrameS_c _ o1.rep o2.rep).mono ?_
    rintro e w' ⟨rfl, hb⟩
    (first | ((with_reducible replace hE := ext_trans hE hb); clear hc hf hl hz) | (have hE := hb)); clear hb; obtain ⟨hc, hf, hl, hz⟩ := keep hE; (try simp only [World.size_alloc, World.size_setCell, World.size_drew] at hz); (try have hl0 := hl w.heap.size (by first | (simp; done) | (simp; omega))); (try have hl1 := hl (w.heap.size + 1) (by first | (simp; done) | (simp; omega))); (try have hl2 := hl (w.heap.size + 1 + 1) (by first | (simp; done) | (simp; omega))); (try have hl3 := hl (w.heap.size + 1 + 1 + 1) (by first | (simp; done) | (simp; omega)))
    rw [decide_eq_true rfl]
    go_wp2
    all_goals go_ret
    all_goals exact ⟨rfl, by repeat (first | (with_reducible exact ext_refl _) | (with_reducible assumption) | (with_reducible refine Below.setCell ?_ (by first | omega | (simp; done) | (simp; omega)) _) | (with_reducible refine below_drewN ?_ _) | (with_reducible refine Below.drew ?_) | (with_reducible refine ext_trans ?_ (by with_reducible assumption)) | (with_reducible refine ext_trans ?_ (ext_alloc _ _)))⟩
set_option maxHeartbeats 1600000 in
set_option maxRecDepth 100000 in
theorem FnExactNoneOverlap_lifted (os : Os) (started : os.Started) (H : Type) (enc : TypeId × Value → H) :
    ReturnsInHanded {} Try.checked os 3 .any (Rows.fnExactNoneOverlapSpec.pre6 enc Try.prog Try.f3 Rows.fnExactNoneOverlapRow.domain false) (Rows.fnExactNoneOverlapSpec.post enc Try.prog Try.f3 false true false false) := by
  refine returnsInHanded_of_change (C := Try.checked) own started (by kernel_rfl) Try.func3
    (ChangeSpec.witness6 (enc := enc) (C := Try.checked) false ⟨#[], #[.slice none 0 0], []⟩ 8 (by kernel_rfl) (by kernel_rfl) (by kernel_rfl) (by kernel_rfl)) ?_
  intro W base args ds gs before hval hW hcnd _
  have hpost : ∀ W', Below W.heap.size W W' → Rows.fnExactNoneOverlapSpec.post enc Try.prog Try.f3 false true false false W args (.bool true) W' := by
    intro W' hx
    refine law_post laidOut (by kernel_rfl) rfl ?_ (t := 4) (by kernel_rfl) Try.underlying4 hW hx
    obtain ⟨p, q, hA, hV, rfl, hfz, hnd⟩ := hW
    obtain ⟨rfl, rfl⟩ := trodVars_none hV
    have hA1 : DataW.TrodAll enc Try.prog W 0 (fun _ => true) true Try.f3.params.toList args.toList ds p := hA
    rw [Try.params3] at hA1
    obtain ⟨v0, vs0, d0, ds0, p0, q0, hargs, rfl, rfl, h0, r0⟩ := trodAll_cons hA1
    obtain ⟨rfl, rfl, rfl⟩ := trodAll_nil r0
    rfl
  have hval' := hval
  obtain ⟨p, q, hA, hV, rfl, hfz, hnd⟩ := hW
  have hA1 : DataW.TrodAll enc Try.prog W 0 (fun _ => true) true Try.f3.params.toList args.toList ds p := hA
  rw [Try.params3] at hA1
  obtain ⟨v0, vs0, d0, ds0, p0, q0, hargs, rfl, rfl, h0, r0⟩ := trodAll_cons hA1
  obtain ⟨rfl, rfl, rfl⟩ := trodAll_nil r0
  obtain rfl : args = #[v0] := by cases args; simp_all
  rw [Try.params3] at hval'
  obtain ⟨a0, s0, z0⟩ := open_rep GFrame.of GFrame.c GFrame.ks GFrame.by (by decide) laidOut Try.underlying3 Try.underlying4 (te := 72) (of_decide_eq_true (by kernel_rfl)) Try.underlying22 (by kernel_rfl) (by kernel_rfl) h0 (hval' 0 22 v0 rfl rfl)
  exact (FnExactNoneOverlap_walk W a0 v0 s0 z0).mono fun e W' ⟨he, hx⟩ => ⟨_, he, hpost W' hx⟩
theorem FnExactNoneOverlap_over : Rows.fnExactNoneOverlapRow.holds Try.pinned (OpenSpec.ofChange Rows.fnExactNoneOverlapSpec) :=
  OpenClaim.holds_of_wide 3 Try.f3 rfl rfl rfl rfl rfl rfl rfl ⟨rfl, rfl, rfl, rfl, rfl⟩ rfl rfl rfl rfl rfl (by kernel_rfl) Try.func3 (by kernel_rfl)
    (of_decide_eq_true (by kernel_rfl)) (by unfold Func.isWrapper; first | (rw [if_pos (by decide +kernel)]; kernel_rfl) | (rw [if_neg (by decide +kernel)]; exact ⟨rfl, rfl⟩))
    (fun os started H enc _ => FnExactNoneOverlap_lifted os started H enc)
theorem FnExactNoneOverlap_proved : Rows.FnExactNoneOverlapSaid := FnExactNoneOverlap_over

end Go.Proofs.Ytgaljjeglamcmaa
