/- The law of the seams: edges that are one stay one on the grid. -/
import Derived.Test.YtacngamcjgkjkaaD3
namespace Go.Proofs.Ytacngamcjgkjkaa
open Go.ChangeShapes Go.WideShapes Go.ChangeAt Go.RowKit Am
set_option linter.unusedVariables false
set_option linter.unusedSimpArgs false
set_option maxRecDepth 100000

theorem fdv_bd {a b : Int} (h0 : 0 < b) (h1 : b ≤ 1000000) (h2 : -1000000 ≤ a) (h3 : a ≤ 1000000) : fdv a b * b ≤ a ∧ a - b ≤ fdv a b * b ∧ -2000000 ≤ fdv a b ∧ fdv a b ≤ 2000000 := by
  have e := Int.mul_tdiv_add_tmod a b
  have hm : -b < a.tmod b ∧ a.tmod b < b := by
    have h4 := Int.tmod_lt_of_pos a h0
    have h5 : -b < a.tmod b := Int.lt_tmod_of_pos a h0
    exact ⟨h5, h4⟩
  have hd : -1000001 ≤ a.tdiv b ∧ a.tdiv b ≤ 1000001 := by
    constructor
    · refine Int.not_lt.1 fun h => ?_
      have := Int.mul_le_mul_of_nonneg_left (show a.tdiv b ≤ -1000002 by omega) (show 0 ≤ b by omega)
      omega
    · refine Int.not_lt.1 fun h => ?_
      have := Int.mul_le_mul_of_nonneg_left (show 1000002 ≤ a.tdiv b by omega) (show 0 ≤ b by omega)
      omega
  obtain ⟨q, hq⟩ : ∃ q, q = a.tdiv b := ⟨_, rfl⟩
  obtain ⟨m, hmm⟩ : ∃ m, m = a.tmod b := ⟨_, rfl⟩
  rw [← hq] at hd e
  rw [← hmm] at hm e
  unfold fdv
  rw [if_neg (by omega), ← hq, ← hmm]
  have w1 : wrap64 q = q := by unfold wrap64; omega
  have w2 : wrap64 (q - 1) = q - 1 := by unfold wrap64; omega
  have c : q * b = b * q := Int.mul_comm _ _
  split
  · rw [w1, w2, Int.sub_mul, c]
    omega
  · rw [w1, c]
    omega
theorem snapT_bd {n s : Int} (h0 : 1 ≤ s) (h1 : s ≤ 200) (h2 : -100000 ≤ n) (h3 : n ≤ 100000) : -200000 ≤ snapT n s ∧ snapT n s ≤ 200000 := by
  unfold snapT
  rw [if_pos ⟨⟨h0, by omega⟩, by omega, by omega⟩]
  have w1 : wrap64 (wrap64 (2 * n) + s) = 2 * n + s := by unfold wrap64; omega
  have w2 : wrap64 (2 * s) = 2 * s := by unfold wrap64; omega
  rw [w1, w2]
  obtain ⟨f1, f2, f3, f4⟩ := fdv_bd (a := 2 * n + s) (b := 2 * s) (by omega) (by omega) (by omega) (by omega)
  obtain ⟨q, hq⟩ : ∃ q, q = fdv (2 * n + s) (2 * s) := ⟨_, rfl⟩
  rw [← hq] at f1 f2 ⊢
  have c : q * (2 * s) = 2 * (q * s) := by rw [Int.mul_left_comm]
  rw [c] at f1 f2
  obtain ⟨t, ht⟩ : ∃ t, t = q * s := ⟨_, rfl⟩
  rw [← ht] at f1 f2 ⊢
  have w3 : wrap64 t = t := by unfold wrap64; omega
  rw [w3]
  omega
structure Seam (a b : GFrame) : Prop where
  touch : wrap64 (a.x + a.wide) = b.x
  apart : ovl a b = false
  ha : a.ok
  hb : b.ok
  y : a.y = b.y
  h : a.high = b.high
  n : a.node = 1
theorem seam {p0 w0 w1 st : Int} (h0 : -5000 ≤ p0) (h1 : p0 ≤ 5000) (h2 : 0 ≤ w0) (h3 : w0 < 500) (h4 : 0 ≤ w1) (h5 : w1 < 500) (h6 : 1 ≤ st) (h7 : st ≤ 200) : Seam (snapG st ⟨1, p0, 0, w0, 10⟩) (snapG st ⟨2, p0 + w0, 0, w1, 10⟩) := by
  obtain ⟨a1, a2⟩ := snapT_bd h6 h7 (n := p0) (by omega) (by omega)
  obtain ⟨b1, b2⟩ := snapT_bd h6 h7 (n := p0 + w0) (by omega) (by omega)
  obtain ⟨c1, c2⟩ := snapT_bd h6 h7 (n := p0 + w0 + w1) (by omega) (by omega)
  obtain ⟨d1, d2⟩ := snapT_bd h6 h7 (n := 0) (by omega) (by omega)
  obtain ⟨e1, e2⟩ := snapT_bd h6 h7 (n := 10) (by omega) (by omega)
  have g1 : wrap64 (p0 + w0) = p0 + w0 := by unfold wrap64; omega
  have g2 : wrap64 (p0 + w0 + w1) = p0 + w0 + w1 := by unfold wrap64; omega
  have g3 : wrap64 (0 + 10) = 10 := by unfold wrap64; omega
  obtain ⟨A, hA⟩ : ∃ A, A = snapT p0 st := ⟨_, rfl⟩
  obtain ⟨B, hB⟩ : ∃ B, B = snapT (p0 + w0) st := ⟨_, rfl⟩
  obtain ⟨C, hC⟩ : ∃ C, C = snapT (p0 + w0 + w1) st := ⟨_, rfl⟩
  obtain ⟨D, hD⟩ : ∃ D, D = snapT 0 st := ⟨_, rfl⟩
  obtain ⟨E, hE⟩ : ∃ E, E = snapT 10 st := ⟨_, rfl⟩
  rw [← hA] at a1 a2
  rw [← hB] at b1 b2
  rw [← hC] at c1 c2
  rw [← hD] at d1 d2
  rw [← hE] at e1 e2
  have f0 : snapG st ⟨1, p0, 0, w0, 10⟩ = ⟨1, A, D, B - A, E - D⟩ := by
    simp only [snapG, g1, g3, ← hA, ← hB, ← hD, ← hE]
    rw [show wrap64 (B - A) = B - A by unfold wrap64; omega, show wrap64 (E - D) = E - D by unfold wrap64; omega]
  have f1 : snapG st ⟨2, p0 + w0, 0, w1, 10⟩ = ⟨2, B, D, C - B, E - D⟩ := by
    simp only [snapG, g2, g3, ← hB, ← hC, ← hD, ← hE]
    rw [show wrap64 (C - B) = C - B by unfold wrap64; omega, show wrap64 (E - D) = E - D by unfold wrap64; omega]
  rw [f0, f1]
  refine ⟨?_, ?_, ?_, ?_, rfl, rfl, rfl⟩
  · show wrap64 (A + (B - A)) = B
    unfold wrap64; omega
  · have : decide (B < A + (B - A)) = false := by rw [decide_eq_false_iff_not]; omega
    simp only [ovl, this, Bool.and_false, Bool.false_and]
  · simp only [GFrame.ok, R64]; omega
  · simp only [GFrame.ok, R64]; omega
set_option maxHeartbeats 4000000 in
theorem laws_FnSeams_a (bs : List Int) (hbl : bs.length ≤ 9223372036854775807) : PCon Try.prog 4 [.c (.view (vw bytC bs))] fun res rows => res = .t (abl true) ∧ rows = [] := by
  have cg := laws_big_a bs
  by_cases h6 : bs.length ≤ 1048576
  case neg =>
    rw [decide_eq_true (by omega)] at cg
    obtain ⟨V, hV⟩ : ∃ V, V = vw bytC bs := ⟨_, rfl⟩
    rw [← hV] at cg ⊢
    refine pcon_run (c := body Try.f4) fits Try.func4 (by kernel_rfl) (by kernel_rfl) (by rfl) (by kernel_rfl) fun g F hg hF => ?_
    cbv
    (first | refine call0 hg (cg) rfl rfl ?_ | refine call0P hg (cg) rfl rfl ?_); cbv
    exact fin0b hF rfl
  rw [decide_eq_false (by omega)] at cg
  have c1 := spec_DrawSnapAll_a bs h6
  have c2 := spec_DrawPlaces_a bs h6
  obtain ⟨V, hV⟩ : ∃ V, V = vw bytC bs := ⟨_, rfl⟩
  rw [← hV] at cg c1 c2 ⊢
  refine pcon_run (c := body Try.f4) fits Try.func4 (by kernel_rfl) (by kernel_rfl) (by rfl) (by kernel_rfl) fun g F hg hF => ?_
  cbv
  (first | refine call0 hg (cg) rfl rfl ?_ | refine call0P hg (cg) rfl rfl ?_); cbv
  refine callC hg (pcall_pure c1 rfl fun res rows hq => ?_)
  obtain ⟨xs, s, hxl, rfl, rfl⟩ := hq
  have ci := impl_SnapAll_a xs s (by omega)
  have cs := spec_SnapAll_a xs s (by omega)
  have cm := laws_sameFrames_a (xs.map (snapG s)) (by rw [List.length_map]; omega)
  obtain ⟨X, hX⟩ : ∃ X, X = vw GFrame.c xs := ⟨_, rfl⟩
  obtain ⟨Y, hY⟩ : ∃ X, X = vw GFrame.c (xs.map (snapG s)) := ⟨_, rfl⟩
  have pX : plainE X = true := by rw [hX]; exact vw_plain _ _
  have iY : immE Y = true := by rw [hY]; exact vw_imm _ _
  have kX : ∀ y ∈ X, y.length = 5 := by rw [hX]; exact vw_k (c := GFrame.c) (k := 5) fun _ => rfl
  have dX : ∀ y ∈ X, y.all dat = true := by rw [hX]; exact vw_dat
  have kY : ∀ y ∈ Y, y.length = 5 := by rw [hY]; exact vw_k (c := GFrame.c) (k := 5) fun _ => rfl
  have dY : ∀ y ∈ Y, y.all dat = true := by rw [hY]; exact vw_dat
  rw [← hX, ← hY] at ci cs
  rw [← hY] at cm
  rw [← hX]
  refine ⟨[.rw ⟨54, 5, X⟩], by simp only [List.map_cons, List.map_nil, shift_row (ab := ⟨54, 5, X⟩) pX]; rfl, ?_⟩
  cbv
  first | (refine callRow hg ci (resA_c (resRow (ab := ⟨_, _, X⟩) rfl kX dX) (resA_c (resDat rfl) (resA_nil))) iY ?_; cbv) | (refine callRowP hg ci (resA_c (resRow (ab := ⟨_, _, X⟩) rfl kX dX) (resA_c (resDat rfl) (resA_nil))) iY ?_; cbv)
  first | (refine callRow hg cs (resA_c (resRow (ab := ⟨_, _, X⟩) rfl kX dX) (resA_c (resDat rfl) (resA_nil))) iY ?_; cbv) | (refine callRowP hg cs (resA_c (resRow (ab := ⟨_, _, X⟩) rfl kX dX) (resA_c (resDat rfl) (resA_nil))) iY ?_; cbv)
  first | (refine callR hg cm (resA_c (resRow (ab := ⟨_, _, Y⟩) rfl kY dY) (resA_c (resRow (ab := ⟨_, _, Y⟩) rfl kY dY) (resA_nil))) rfl ?_; cbv) | (refine callRP hg cm (resA_c (resRow (ab := ⟨_, _, Y⟩) rfl kY dY) (resA_c (resRow (ab := ⟨_, _, Y⟩) rfl kY dY) (resA_nil))) rfl ?_; cbv)
  refine callC hg (pcall_pure c2 rfl fun res rows hq => ?_)
  obtain ⟨ps, hpl, hp, rfl, rfl⟩ := hq
  obtain ⟨p0, p1, p2, p3, tl, rfl⟩ : ∃ p0 p1 p2 p3 tl, ps = p0 :: p1 :: p2 :: p3 :: tl := by
    match ps, hpl with
    | p0 :: p1 :: p2 :: p3 :: tl, _ => exact ⟨p0, p1, p2, p3, tl, rfl⟩
  have hp0 := hp p0 (by simp)
  have hp1 := hp p1 (by simp)
  have hp2 := hp p2 (by simp)
  have hp3 := hp p3 (by simp)
  obtain ⟨W, hW⟩ : ∃ W, W = vw intC (p0 :: p1 :: p2 :: p3 :: tl) := ⟨_, rfl⟩
  have pW : plainE W = true := by rw [hW]; exact vw_plain _ _
  have hWl : 4 ≤ lenI W := by rw [hW, lenI_eq, vw_length]; simp; omega
  have hlk : ∀ k : Int, k < 4 → k < lenI W := fun k h => by omega
  rw [← hW]
  refine ⟨[.rw ⟨3, 1, W⟩], by simp only [List.map_cons, List.map_nil, shift_row (ab := ⟨3, 1, W⟩) pW]; rfl, ?_⟩
  cbv
  refine goY hg (by decide) (hlk _ (by decide)) fun j0 hj0 hl0 => ?_
  cbv
  refine ⟨_, by rw [hj0, hW]; exact vw_at (x := p0) rfl, ?_⟩
  cbv
  refine goY hg (by decide) (hlk _ (by decide)) fun j1 hj1 hl1 => ?_
  cbv
  refine ⟨_, by rw [hj1, hW]; exact vw_at (x := p1) rfl, ?_⟩
  cbv
  refine goNZ hg (by decide) ?_
  cbv
  obtain ⟨x0, hx0⟩ : ∃ v, v = g .w .sub .i64 p0 5000 := ⟨_, rfl⟩
  obtain ⟨w0, hw0⟩ : ∃ v, v = g .w .rem .i64 p1 500 := ⟨_, rfl⟩
  rw [← hx0, ← hw0]
  refine goY hg (by decide) (hlk _ (by decide)) fun j2 hj2 hl2 => ?_
  cbv
  refine ⟨_, by rw [hj2, hW]; exact vw_at (x := p2) rfl, ?_⟩
  cbv
  refine goNZ hg (by decide) ?_
  cbv
  obtain ⟨x1, hx1⟩ : ∃ v, v = g .w .add .i64 x0 w0 := ⟨_, rfl⟩
  obtain ⟨w1, hw1⟩ : ∃ v, v = g .w .rem .i64 p2 500 := ⟨_, rfl⟩
  rw [← hx1, ← hw1]
  refine goY hg (by decide) (hlk _ (by decide)) fun j3 hj3 hl3 => ?_
  cbv
  refine ⟨_, by rw [hj3, hW]; exact vw_at (x := p3) rfl, ?_⟩
  cbv
  refine goNZ hg (by decide) ?_
  cbv
  obtain ⟨st, hst⟩ : ∃ v, v = g .w .add .i64 1 (g .w .rem .i64 p3 200) := ⟨_, rfl⟩
  rw [← hst]
  rw [goSub hg] at hx0
  rw [goRem hg] at hw0 hw1
  rw [goAdd hg] at hx1
  rw [goRem hg, goAdd hg] at hst
  have m1 := Int.tmod_lt_of_pos p1 (show (0 : Int) < 500 by decide)
  have m1' := Int.tmod_nonneg 500 hp1.1
  have m2 := Int.tmod_lt_of_pos p2 (show (0 : Int) < 500 by decide)
  have m2' := Int.tmod_nonneg 500 hp2.1
  have m3 := Int.tmod_lt_of_pos p3 (show (0 : Int) < 200 by decide)
  have m3' := Int.tmod_nonneg 200 hp3.1
  have ex0 : x0 = p0 - 5000 := by rw [hx0]; unfold wrap64; omega
  have ex1 : x1 = x0 + w0 := by rw [hx1]; unfold wrap64; omega
  have est : st = 1 + p3.tmod 200 := by rw [hst]; unfold wrap64; omega
  have hseam := seam (p0 := x0) (w0 := w0) (w1 := w1) (st := st) (by omega) (by omega) (by omega) (by omega) (by omega) (by omega) (by omega) (by omega)
  rw [← ex1] at hseam
  have c3 := impl_SnapAll_a [⟨1, x0, 0, w0, 10⟩, ⟨2, x1, 0, w1, 10⟩] st (by simp)
  obtain ⟨t0, ht0⟩ : ∃ t, t = snapG st ⟨1, x0, 0, w0, 10⟩ := ⟨_, rfl⟩
  obtain ⟨t1, ht1⟩ : ∃ t, t = snapG st ⟨2, x1, 0, w1, 10⟩ := ⟨_, rfl⟩
  simp only [List.map_cons, List.map_nil, ← ht0, ← ht1] at c3
  rw [← ht0, ← ht1] at hseam
  have co := spec_Overlaps_a t0 t1 hseam.ha hseam.hb
  rw [hseam.apart] at co
  obtain ⟨s1, _, _, _, s2, s3, s4⟩ := hseam
  obtain ⟨a0, a1, a2, a3, a4⟩ := t0
  obtain ⟨b0, b1, b2, b3, b4⟩ := t1
  dsimp only at s1 s2 s3 s4
  obtain ⟨U, hU⟩ : ∃ U, U = vw GFrame.c [⟨a0, a1, a2, a3, a4⟩, ⟨b0, b1, b2, b3, b4⟩] := ⟨_, rfl⟩
  have iU : immE U = true := by rw [hU]; exact vw_imm _ _
  have hUl : lenI U = 2 := by rw [hU]; rfl
  rw [← hU] at c3
  first | refine callRow hg c3 (resA_c (resRow (ab := ⟨54, 5, vw GFrame.c [⟨1, x0, 0, w0, 10⟩, ⟨2, x1, 0, w1, 10⟩]⟩) (by rfl) (vw_k (c := GFrame.c) (k := 5) fun _ => rfl) vw_dat) (resA_c (resDat rfl) resA_nil)) iU ?_ | refine callRowP hg c3 (resA_c (resRow (ab := ⟨54, 5, vw GFrame.c [⟨1, x0, 0, w0, 10⟩, ⟨2, x1, 0, w1, 10⟩]⟩) (by rfl) (vw_k (c := GFrame.c) (k := 5) fun _ => rfl) vw_dat) (resA_c (resDat rfl) resA_nil)) iU ?_
  have hU0 : U[(0 : Int).toNat]? = some (lc (GFrame.c ⟨a0, a1, a2, a3, a4⟩)) := by rw [hU]; rfl
  have hU1 : U[(1 : Int).toNat]? = some (lc (GFrame.c ⟨b0, b1, b2, b3, b4⟩)) := by rw [hU]; rfl
  have u0 : (0 : Int) < lenI U := by rw [hUl]; decide
  have u1 : (1 : Int) < lenI U := by rw [hUl]; decide
  have q0 : g .q .eql (g .ln U) 2 = true := by rw [goEql hg, goLn hg, hUl]; rfl
  have q1 : g .q .eql (g .w .add .i64 a1 a3) b1 = true := by rw [goEql hg, goAdd hg, s1]; simp
  have q2 : g .q .eql a2 b2 = true := by rw [goEql hg, s2]; simp
  have q3 : g .q .eql a4 b4 = true := by rw [goEql hg, s3]; simp
  have q4 : g .q .eql a0 1 = true := by rw [goEql hg, s4]; rfl
  cbv
  repeat' first
    | (rw [q0]; cbv)
    | (rw [q1]; cbv)
    | (rw [q2]; cbv)
    | (rw [q3]; cbv)
    | (rw [q4]; cbv)
    | (refine goY hg (by decide) u0 fun j hj hl => ?_; cbv; refine ⟨_, by rw [hj]; exact hU0, ?_⟩; cbv; clear hj hl)
    | (refine goY hg (by decide) u1 fun j hj hl => ?_; cbv; refine ⟨_, by rw [hj]; exact hU1, ?_⟩; cbv; clear hj hl)
    | (refine call0 hg co rfl rfl ?_; cbv)
    | (refine call0P hg co rfl rfl ?_; cbv)
  exact fin0b hF rfl

end Go.Proofs.Ytacngamcjgkjkaa
