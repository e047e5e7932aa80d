/- The law FnHolds as a map of data. -/
import Derived.Test.YtcohgnecmgcajaaH7
import Derived.Test.YtcohgnecmgcajaaD3
import Derived.Test.YtcohgnecmgcajaaQ6
namespace Go.Proofs.Ytcohgnecmgcajaa
open Go.ChangeShapes Go.WideShapes Go.ChangeAt Go.RowKit Am
set_option linter.unusedVariables false
set_option linter.unusedSimpArgs false
set_option maxRecDepth 100000

def gstp (gap s : Int) (x : GItem) : Int :=
  let t := wrap64 (wrap64 (wrap64 (s + x.base) + x.least) + wrap64 (2 * gap))
  let u := if 0 < x.most then wrap64 (t + x.most) else t
  wrap64 (wrap64 (wrap64 (wrap64 (u + bro x.before 0 1048576) - bro x.before (-1048576) 0) + bro x.behind 0 1048576) - bro x.behind (-1048576) 0)
def gsum (gap : Int) : Int → List GItem → Int
  | s, [] => s
  | s, x :: r => gsum gap (gstp gap s x) r
theorem gterm_max {x : GItem} (h : ItB x) {gap : Int} (h0 : 0 ≤ gap) (h1 : gap ≤ 1048576) : 0 ≤ gterm gap x ∧ gterm gap x ≤ 16777216 := by
  obtain ⟨h1, h2, h3, h4, h5, h6, h7, h8, h9, h10, h11, h12, h13, h14⟩ := h
  unfold gterm bro
  grind
theorem gstp_eq {x : GItem} (h : ItB x) {gap s : Int} (h0 : 0 ≤ gap) (h1 : gap ≤ 1048576) (s0 : 0 ≤ s) (s1 : s ≤ 1152921504606846976) : gstp gap s x = s + gterm gap x := by
  obtain ⟨p1, p2, p3, p4, p5, p6, p7, p8, p9, p10, p11, p12, p13, p14⟩ := h
  have b1 : 0 ≤ bro x.before 0 1048576 ∧ bro x.before 0 1048576 ≤ 1048576 := by unfold bro; grind
  have b2 : -1048576 ≤ bro x.before (-1048576) 0 ∧ bro x.before (-1048576) 0 ≤ 0 := by unfold bro; grind
  have b3 : 0 ≤ bro x.behind 0 1048576 ∧ bro x.behind 0 1048576 ≤ 1048576 := by unfold bro; grind
  have b4 : -1048576 ≤ bro x.behind (-1048576) 0 ∧ bro x.behind (-1048576) 0 ≤ 0 := by unfold bro; grind
  simp only [gstp, gterm]
  generalize bro x.before 0 1048576 = c1 at *
  generalize bro x.before (-1048576) 0 = c2 at *
  generalize bro x.behind 0 1048576 = c3 at *
  generalize bro x.behind (-1048576) 0 = c4 at *
  by_cases hm : 0 < x.most
  · rw [if_pos hm, if_pos hm]; unfold wrap64; omega
  · rw [if_neg hm, if_neg hm]; unfold wrap64; omega
theorem gsum_eq {gap : Int} (h0 : 0 ≤ gap) (h1 : gap ≤ 1048576) : ∀ (xs : List GItem) (s : Int), (∀ x ∈ xs, ItB x) → 0 ≤ s → s + 16777216 * (xs.length : Int) ≤ 1152921504606846976 → gsum gap s xs = s + (xs.map (gterm gap)).sum
  | [], s, _, _, _ => by simp [gsum]
  | x :: r, s, hx, s0, s1 => by
    have g := gterm_max (hx x (by simp)) h0 h1
    simp only [List.length_cons, Int.natCast_add, Int.cast_ofNat_Int] at s1
    rw [gsum, gstp_eq (hx x (by simp)) h0 h1 s0 (by omega), gsum_eq h0 h1 r _ (fun y hy => hx y (by simp [hy])) (by omega) (by omega), List.map_cons, List.sum_cons]
    omega
theorem inner_bd {xs : List GItem} (hok : itsOk xs = true) {inner : Int} (h : inner = wrap64 (outer xs (xs.map hyp) 0) ∨ -1 ≤ inner ∧ inner ≤ 1048576) : inner ≤ 1073741824 := by
  obtain ⟨hb, hl⟩ := itsOk_mem hok
  rcases h with h | h
  · have t1 := ss_le (l := xs) (f := lenB) (h := fun _ => 2097152) fun x hx => by have := (hb x hx).f1; have := (hb x hx).h1; unfold lenB; omega
    have t2 := ss_le (l := xs) (f := fun _ => -2097152) (h := lenB) fun x hx => by have := (hb x hx).f0; have := (hb x hx).h0; unfold lenB; omega
    have t3 := ss_le (l := xs) (f := hyp) (h := fun _ => 3145728) fun x hx => by have := (hyp_facts (hb x hx)).2.1; have := (hb x hx).b1; have := (hb x hx).l1; have := (hb x hx).m1; unfold bigS most0 at *; split at * <;> omega
    have t4 := ss_nonneg (l := xs) (f := hyp) fun x hx => by have := (hyp_facts (hb x hx)).1.1; have := (hb x hx).l0; omega
    have cst : ∀ (c : Int) (l : List GItem), (l.map fun _ => c).sum = c * l.length := fun c l => by
      induction l with
      | nil => simp
      | cons a l ih => simp only [List.map_cons, List.sum_cons, ih, List.length_cons, Int.natCast_add, Int.cast_ofNat_Int, Int.mul_add, Int.mul_one]; omega
    rw [cst] at t1 t2 t3
    have e : outer xs (xs.map hyp) 0 = (xs.map lenB).sum + 0 + (xs.map hyp).sum := by
      rw [outer, List.map_id]
      congr 2
      unfold gapS; split <;> simp
    rw [h, e]
    unfold wrap64
    omega
  · omega
theorem holds_fin {xs : List GItem} {gap inner : Int} (hin : inner = wrap64 (outer xs (xs.map hyp) 0) ∨ -1 ≤ inner ∧ inner ≤ 1048576) (hok : itsOk xs = true) (hg0 : ¬ gap < 0) (hg1 : ¬ 1048576 < gap) (hi0 : ¬ inner < 0) (hs : ¬ 500000 < gsum gap inner xs) :
    inbB xs (flx xs gap inner) = true ∧ (canF xs gap inner = true → (wrap64 (outer xs (flx xs gap inner) gap) == inner) = true) := by
  have hb := inner_bd hok hin
  have hl := (itsOk_mem hok).2
  rw [gsum_eq (by omega) (by omega) xs inner (itsOk_mem hok).1 (by omega) (by omega)] at hs
  obtain ⟨h1, h2⟩ := flx_holds hok (gap := gap) (inner := inner) (by omega) (by omega) (by omega) (by omega)
  exact ⟨h1, fun hc => by rw [h2 hc]; simp⟩
set_option maxHeartbeats 8000000 in
theorem laws_FnHolds_a (bs : List Int) (hbl : bs.length ≤ 9223372036854775807) : PCon Try.prog 3 [.c (.view (vw bytC bs))] fun res rows => res = .t (abl true) ∧ rows = [] := by
  have cg := laws_big_a bs
  by_cases h6 : bs.length ≤ 1048576
  case neg =>
    rw [decide_eq_true (by omega)] at cg
    obtain ⟨V, hV⟩ : ∃ V, V = vw bytC bs := ⟨_, rfl⟩
    rw [← hV] at cg ⊢
    refine pcon_run (c := body Try.f3) fits Try.func3 (by kernel_rfl) (by kernel_rfl) (by rfl) (by kernel_rfl) fun g F hg hF => ?_
    cbv
    (first | refine call0 hg (cg) rfl rfl ?_ | refine call0P hg (cg) rfl rfl ?_); cbv
    exact fin0b hF rfl
  rw [decide_eq_false (by omega)] at cg
  have c1 := spec_DrawCanFlex_a bs h6
  have c2 := spec_DrawInBounds_a bs h6
  have c3 := spec_DrawFillsLine_a bs h6
  have c4 := spec_DrawAtBound_a bs h6
  have c5 := spec_DrawApartly_a bs h6
  have c6 := spec_DrawSpreadOf_a bs h6
  obtain ⟨V, hV⟩ : ∃ V, V = vw bytC bs := ⟨_, rfl⟩
  rw [← hV] at cg c1 c2 c3 c4 c5 c6 ⊢
  refine pcon_run (c := body Try.f3) fits Try.func3 (by kernel_rfl) (by kernel_rfl) (by rfl) (by kernel_rfl) fun g F hg hF => ?_
  cbv
  (first | refine call0 hg (cg) rfl rfl ?_ | refine call0P hg (cg) rfl rfl ?_); cbv
  refine callC hg (pcall_pure c1 rfl fun res rows hq => ?_)
  obtain ⟨xs, gap, inner, hxl, hin, rfl, rfl⟩ := hq
  clear c1
  have hx : xs.length ≤ 1048576 := by omega
  have hyl : (flx xs gap inner).length ≤ 1048576 := by rw [flx_len]; exact hx
  have ci := impl_CanFlex_a xs gap inner hx
  have cs := spec_CanFlex_a xs gap inner hx
  have cx := impl_FlexLine_a xs gap inner hx
  have cf := impl_FillsLine_a xs (flx xs gap inner) gap inner hx hyl
  have cb := impl_InBounds_a xs (flx xs gap inner) hx hyl
  have ck := spec_ItemsOk_a xs hx
  have hfin := fun a b c d e => holds_fin (xs := xs) (gap := gap) (inner := inner) hin a b c d e
  obtain ⟨C, hC⟩ : ∃ C, C = canF xs gap inner := ⟨_, rfl⟩
  obtain ⟨FV, hFV⟩ : ∃ C, C = (wrap64 (outer xs (flx xs gap inner) gap) == inner) := ⟨_, rfl⟩
  obtain ⟨BV, hBV⟩ : ∃ C, C = inbB xs (flx xs gap inner) := ⟨_, rfl⟩
  obtain ⟨IV, hIV⟩ : ∃ C, C = itsOk xs := ⟨_, rfl⟩
  obtain ⟨GS, hGS⟩ : ∃ C, C = gsum gap inner xs := ⟨_, rfl⟩
  rw [← hC, ← hFV, ← hBV, ← hIV, ← hGS] at hfin
  obtain ⟨E, hE⟩ : ∃ E, E = vw GItem.c xs := ⟨_, rfl⟩
  have hEl : E.length = xs.length := by rw [hE, vw_length]
  have iE : immE E = true := by rw [hE]; exact vw_imm _ _
  have kE : ∀ y ∈ E, y.length = 9 := by rw [hE]; exact vw_k (c := GItem.c) (k := 9) fun _ => rfl
  have dE : ∀ y ∈ E, y.all dat = true := by rw [hE]; exact vw_dat
  obtain ⟨D, hD⟩ : ∃ D, D = vw intC (flx xs gap inner) := ⟨_, rfl⟩
  have hDl : D.length = (flx xs gap inner).length := by rw [hD, vw_length]
  have iD : immE D = true := by rw [hD]; exact vw_imm _ _
  have kD : ∀ y ∈ D, y.length = 1 := by rw [hD]; exact vw_k (c := intC) (k := 1) fun _ => rfl
  have dD : ∀ y ∈ D, y.all dat = true := by rw [hD]; exact vw_dat
  have pE : plainE E = true := imm_plainE iE
  have pD : plainE D = true := imm_plainE iD
  rw [← hE, ← hC] at ci cs
  rw [← hE, ← hD] at cx
  rw [← hE, ← hD, ← hFV] at cf
  rw [← hE, ← hD, ← hBV] at cb
  rw [← hE, ← hIV] at ck
  rw [← hE]
  refine ⟨[.rw ⟨35, 9, E⟩], by simp only [List.map_cons, List.map_nil, shift_row (ab := ⟨35, 9, E⟩) pE]; rfl, ?_⟩
  cbv
  first | (refine callR hg ci (resA_c (resRow (ab := ⟨_, _, E⟩) rfl kE dE) (resA_c (resDat rfl) (resA_c (resDat rfl) (resA_nil)))) rfl ?_; cbv) | (refine callRP hg ci (resA_c (resRow (ab := ⟨_, _, E⟩) rfl kE dE) (resA_c (resDat rfl) (resA_c (resDat rfl) (resA_nil)))) rfl ?_; cbv)
  first | (refine callR hg cs (resA_c (resRow (ab := ⟨_, _, E⟩) rfl kE dE) (resA_c (resDat rfl) (resA_c (resDat rfl) (resA_nil)))) rfl ?_; cbv) | (refine callRP hg cs (resA_c (resRow (ab := ⟨_, _, E⟩) rfl kE dE) (resA_c (resDat rfl) (resA_c (resDat rfl) (resA_nil)))) rfl ?_; cbv)
  have e3 : g .qb .neq C C = false := by rw [goNeqB hg]; simp
  rw [e3]
  cbv
  first | (refine callRow hg cx (resA_c (resRow (ab := ⟨_, _, E⟩) rfl kE dE) (resA_c (resDat rfl) (resA_c (resDat rfl) (resA_nil)))) iD ?_; cbv) | (refine callRowP hg cx (resA_c (resRow (ab := ⟨_, _, E⟩) rfl kE dE) (resA_c (resDat rfl) (resA_c (resDat rfl) (resA_nil)))) iD ?_; cbv)
  refine callC hg (pcall_pure c2 rfl fun res rows hq => ?_)
  obtain ⟨x1, y1, hx1, hy1, rfl, rfl⟩ := hq
  have k1 := impl_InBounds_a x1 y1 (by omega) (by omega)
  have k1s := spec_InBounds_a x1 y1 (by omega) (by omega)
  obtain ⟨B1, hB1⟩ : ∃ C, C = inbB x1 y1 := ⟨_, rfl⟩
  obtain ⟨X1, hX1⟩ : ∃ X1, X1 = vw GItem.c x1 := ⟨_, rfl⟩
  have hX1l : X1.length = x1.length := by rw [hX1, vw_length]
  have iX1 : immE X1 = true := by rw [hX1]; exact vw_imm _ _
  have kX1 : ∀ y ∈ X1, y.length = 9 := by rw [hX1]; exact vw_k (c := GItem.c) (k := 9) fun _ => rfl
  have dX1 : ∀ y ∈ X1, y.all dat = true := by rw [hX1]; exact vw_dat
  obtain ⟨Y1, hY1⟩ : ∃ Y1, Y1 = vw intC y1 := ⟨_, rfl⟩
  have hY1l : Y1.length = y1.length := by rw [hY1, vw_length]
  have iY1 : immE Y1 = true := by rw [hY1]; exact vw_imm _ _
  have kY1 : ∀ y ∈ Y1, y.length = 1 := by rw [hY1]; exact vw_k (c := intC) (k := 1) fun _ => rfl
  have dY1 : ∀ y ∈ Y1, y.all dat = true := by rw [hY1]; exact vw_dat
  have pX1 : plainE X1 = true := imm_plainE iX1
  have pY1 : plainE Y1 = true := imm_plainE iY1
  rw [← hX1, ← hY1, ← hB1] at k1 k1s
  rw [← hX1, ← hY1]
  refine ⟨[.rw ⟨35, 9, X1⟩, .rw ⟨3, 1, Y1⟩], by simp only [List.map_cons, List.map_nil, shift_row (ab := ⟨35, 9, X1⟩) pX1, shift_row (ab := ⟨3, 1, Y1⟩) pY1]; rfl, ?_⟩
  clear c2
  cbv
  refine callC hg (pcall_pure c3 rfl fun res rows hq => ?_)
  obtain ⟨x2, y2, gap2, inner2, hx2, hy2, rfl, rfl⟩ := hq
  have k2 := impl_FillsLine_a x2 y2 gap2 inner2 (by omega) (by omega)
  have k2s := spec_FillsLine_a x2 y2 gap2 inner2 (by omega) (by omega)
  obtain ⟨B2, hB2⟩ : ∃ C, C = (wrap64 (outer x2 y2 gap2) == inner2) := ⟨_, rfl⟩
  obtain ⟨X2, hX2⟩ : ∃ X2, X2 = vw GItem.c x2 := ⟨_, rfl⟩
  have hX2l : X2.length = x2.length := by rw [hX2, vw_length]
  have iX2 : immE X2 = true := by rw [hX2]; exact vw_imm _ _
  have kX2 : ∀ y ∈ X2, y.length = 9 := by rw [hX2]; exact vw_k (c := GItem.c) (k := 9) fun _ => rfl
  have dX2 : ∀ y ∈ X2, y.all dat = true := by rw [hX2]; exact vw_dat
  obtain ⟨Y2, hY2⟩ : ∃ Y2, Y2 = vw intC y2 := ⟨_, rfl⟩
  have hY2l : Y2.length = y2.length := by rw [hY2, vw_length]
  have iY2 : immE Y2 = true := by rw [hY2]; exact vw_imm _ _
  have kY2 : ∀ y ∈ Y2, y.length = 1 := by rw [hY2]; exact vw_k (c := intC) (k := 1) fun _ => rfl
  have dY2 : ∀ y ∈ Y2, y.all dat = true := by rw [hY2]; exact vw_dat
  have pX2 : plainE X2 = true := imm_plainE iX2
  have pY2 : plainE Y2 = true := imm_plainE iY2
  rw [← hX2, ← hY2, ← hB2] at k2 k2s
  rw [← hX2, ← hY2]
  refine ⟨[.rw ⟨35, 9, X2⟩, .rw ⟨3, 1, Y2⟩], by simp only [List.map_cons, List.map_nil, shift_row (ab := ⟨35, 9, X2⟩) pX2, shift_row (ab := ⟨3, 1, Y2⟩) pY2]; rfl, ?_⟩
  clear c3
  cbv
  refine callC hg (pcall_pure c4 rfl fun res rows hq => ?_)
  obtain ⟨⟨⟨a0, a1, a2, a3, a4, a5, a6, a7, a8⟩, sa, rfl⟩, rfl⟩ := hq
  have k3 := impl_AtBound_a ⟨a0, a1, a2, a3, a4, a5, a6, a7, a8⟩ sa
  have k3s := spec_AtBound_a ⟨a0, a1, a2, a3, a4, a5, a6, a7, a8⟩ sa
  obtain ⟨B3, hB3⟩ : ∃ C, C = atB ⟨a0, a1, a2, a3, a4, a5, a6, a7, a8⟩ sa := ⟨_, rfl⟩
  rw [← hB3] at k3 k3s
  refine ⟨[], rfl, ?_⟩
  clear c4
  cbv
  refine callC hg (pcall_pure c5 rfl fun res rows hq => ?_)
  obtain ⟨x4, y4, hx4, hy4, rfl, rfl⟩ := hq
  have k4 := impl_Apartly_a x4 y4 hx4 (by omega)
  have k4s := spec_Apartly_a x4 y4 hx4 (by omega)
  obtain ⟨B4, hB4⟩ : ∃ C, C = apB x4 y4 := ⟨_, rfl⟩
  obtain ⟨X4, hX4⟩ : ∃ X4, X4 = vw intC x4 := ⟨_, rfl⟩
  have hX4l : X4.length = x4.length := by rw [hX4, vw_length]
  have iX4 : immE X4 = true := by rw [hX4]; exact vw_imm _ _
  have kX4 : ∀ y ∈ X4, y.length = 1 := by rw [hX4]; exact vw_k (c := intC) (k := 1) fun _ => rfl
  have dX4 : ∀ y ∈ X4, y.all dat = true := by rw [hX4]; exact vw_dat
  obtain ⟨Y4, hY4⟩ : ∃ Y4, Y4 = vw intC y4 := ⟨_, rfl⟩
  have hY4l : Y4.length = y4.length := by rw [hY4, vw_length]
  have iY4 : immE Y4 = true := by rw [hY4]; exact vw_imm _ _
  have kY4 : ∀ y ∈ Y4, y.length = 1 := by rw [hY4]; exact vw_k (c := intC) (k := 1) fun _ => rfl
  have dY4 : ∀ y ∈ Y4, y.all dat = true := by rw [hY4]; exact vw_dat
  have pX4 : plainE X4 = true := imm_plainE iX4
  have pY4 : plainE Y4 = true := imm_plainE iY4
  rw [← hX4, ← hY4, ← hB4] at k4 k4s
  rw [← hX4, ← hY4]
  refine ⟨[.rw ⟨3, 1, X4⟩, .rw ⟨3, 1, Y4⟩], by simp only [List.map_cons, List.map_nil, shift_row (ab := ⟨3, 1, X4⟩) pX4, shift_row (ab := ⟨3, 1, Y4⟩) pY4]; rfl, ?_⟩
  clear c5
  cbv
  refine callC hg (pcall_pure c6 rfl fun res rows hq => ?_)
  obtain ⟨x5, y5, hx5, hy5, rfl, rfl⟩ := hq
  have k5 := impl_SpreadOf_a x5 y5 (by omega) (by omega)
  have k5s := spec_SpreadOf_a x5 y5 (by omega) (by omega)
  obtain ⟨B5, hB5⟩ : ∃ C, C = wrap64 (spreadE x5 y5) := ⟨_, rfl⟩
  obtain ⟨X5, hX5⟩ : ∃ X5, X5 = vw GItem.c x5 := ⟨_, rfl⟩
  have hX5l : X5.length = x5.length := by rw [hX5, vw_length]
  have iX5 : immE X5 = true := by rw [hX5]; exact vw_imm _ _
  have kX5 : ∀ y ∈ X5, y.length = 9 := by rw [hX5]; exact vw_k (c := GItem.c) (k := 9) fun _ => rfl
  have dX5 : ∀ y ∈ X5, y.all dat = true := by rw [hX5]; exact vw_dat
  obtain ⟨Y5, hY5⟩ : ∃ Y5, Y5 = vw intC y5 := ⟨_, rfl⟩
  have hY5l : Y5.length = y5.length := by rw [hY5, vw_length]
  have iY5 : immE Y5 = true := by rw [hY5]; exact vw_imm _ _
  have kY5 : ∀ y ∈ Y5, y.length = 1 := by rw [hY5]; exact vw_k (c := intC) (k := 1) fun _ => rfl
  have dY5 : ∀ y ∈ Y5, y.all dat = true := by rw [hY5]; exact vw_dat
  have pX5 : plainE X5 = true := imm_plainE iX5
  have pY5 : plainE Y5 = true := imm_plainE iY5
  rw [← hX5, ← hY5, ← hB5] at k5 k5s
  rw [← hX5, ← hY5]
  refine ⟨[.rw ⟨35, 9, X5⟩, .rw ⟨3, 1, Y5⟩], by simp only [List.map_cons, List.map_nil, shift_row (ab := ⟨35, 9, X5⟩) pX5, shift_row (ab := ⟨3, 1, Y5⟩) pY5]; rfl, ?_⟩
  clear c6
  cbv
  have nb : ∀ b, g .qb .neq b b = false := fun b => by rw [goNeqB hg]; simp
  have ni : g .q .neq B5 B5 = false := by rw [goNeq hg]; simp
  first | (refine callR hg k1 (resA_c (resRow (ab := ⟨_, _, X1⟩) rfl kX1 dX1) (resA_c (resRow (ab := ⟨_, _, Y1⟩) rfl kY1 dY1) (resA_nil))) rfl ?_; cbv) | (refine callRP hg k1 (resA_c (resRow (ab := ⟨_, _, X1⟩) rfl kX1 dX1) (resA_c (resRow (ab := ⟨_, _, Y1⟩) rfl kY1 dY1) (resA_nil))) rfl ?_; cbv)
  first | (refine callR hg k1s (resA_c (resRow (ab := ⟨_, _, X1⟩) rfl kX1 dX1) (resA_c (resRow (ab := ⟨_, _, Y1⟩) rfl kY1 dY1) (resA_nil))) rfl ?_; cbv) | (refine callRP hg k1s (resA_c (resRow (ab := ⟨_, _, X1⟩) rfl kX1 dX1) (resA_c (resRow (ab := ⟨_, _, Y1⟩) rfl kY1 dY1) (resA_nil))) rfl ?_; cbv)
  rw [nb]
  cbv
  first | (refine callR hg k2 (resA_c (resRow (ab := ⟨_, _, X2⟩) rfl kX2 dX2) (resA_c (resRow (ab := ⟨_, _, Y2⟩) rfl kY2 dY2) (resA_c (resDat rfl) (resA_c (resDat rfl) (resA_nil))))) rfl ?_; cbv) | (refine callRP hg k2 (resA_c (resRow (ab := ⟨_, _, X2⟩) rfl kX2 dX2) (resA_c (resRow (ab := ⟨_, _, Y2⟩) rfl kY2 dY2) (resA_c (resDat rfl) (resA_c (resDat rfl) (resA_nil))))) rfl ?_; cbv)
  first | (refine callR hg k2s (resA_c (resRow (ab := ⟨_, _, X2⟩) rfl kX2 dX2) (resA_c (resRow (ab := ⟨_, _, Y2⟩) rfl kY2 dY2) (resA_c (resDat rfl) (resA_c (resDat rfl) (resA_nil))))) rfl ?_; cbv) | (refine callRP hg k2s (resA_c (resRow (ab := ⟨_, _, X2⟩) rfl kX2 dX2) (resA_c (resRow (ab := ⟨_, _, Y2⟩) rfl kY2 dY2) (resA_c (resDat rfl) (resA_c (resDat rfl) (resA_nil))))) rfl ?_; cbv)
  rw [nb]
  cbv
  first | (refine call0 hg k3 rfl rfl ?_; cbv) | (refine call0P hg k3 rfl rfl ?_; cbv)
  first | (refine call0 hg k3s rfl rfl ?_; cbv) | (refine call0P hg k3s rfl rfl ?_; cbv)
  rw [nb]
  cbv
  first | (refine callR hg k4 (resA_c (resRow (ab := ⟨_, _, X4⟩) rfl kX4 dX4) (resA_c (resRow (ab := ⟨_, _, Y4⟩) rfl kY4 dY4) (resA_nil))) rfl ?_; cbv) | (refine callRP hg k4 (resA_c (resRow (ab := ⟨_, _, X4⟩) rfl kX4 dX4) (resA_c (resRow (ab := ⟨_, _, Y4⟩) rfl kY4 dY4) (resA_nil))) rfl ?_; cbv)
  first | (refine callR hg k4s (resA_c (resRow (ab := ⟨_, _, X4⟩) rfl kX4 dX4) (resA_c (resRow (ab := ⟨_, _, Y4⟩) rfl kY4 dY4) (resA_nil))) rfl ?_; cbv) | (refine callRP hg k4s (resA_c (resRow (ab := ⟨_, _, X4⟩) rfl kX4 dX4) (resA_c (resRow (ab := ⟨_, _, Y4⟩) rfl kY4 dY4) (resA_nil))) rfl ?_; cbv)
  rw [nb]
  cbv
  first | (refine callR hg k5 (resA_c (resRow (ab := ⟨_, _, X5⟩) rfl kX5 dX5) (resA_c (resRow (ab := ⟨_, _, Y5⟩) rfl kY5 dY5) (resA_nil))) rfl ?_; cbv) | (refine callRP hg k5 (resA_c (resRow (ab := ⟨_, _, X5⟩) rfl kX5 dX5) (resA_c (resRow (ab := ⟨_, _, Y5⟩) rfl kY5 dY5) (resA_nil))) rfl ?_; cbv)
  first | (refine callR hg k5s (resA_c (resRow (ab := ⟨_, _, X5⟩) rfl kX5 dX5) (resA_c (resRow (ab := ⟨_, _, Y5⟩) rfl kY5 dY5) (resA_nil))) rfl ?_; cbv) | (refine callRP hg k5s (resA_c (resRow (ab := ⟨_, _, X5⟩) rfl kX5 dX5) (resA_c (resRow (ab := ⟨_, _, Y5⟩) rfl kY5 dY5) (resA_nil))) rfl ?_; cbv)
  rw [ni]
  cbv
  clear k1 k1s k2 k2s k3 k3s k4 k4s k5 k5s
  have kB : PCon Try.prog 14 [.c (.view [[.imm (.int .i64 5), .imm (.int .i64 0), .imm (.int .i64 (-1)), .imm (.int .i64 0), .imm (.int .i64 0), .imm (.int .i64 0), .imm (.int .i64 0), .imm (.bool false), .imm (.bool false)]]), .c (.view [[.imm (.int .i64 5)]])] fun res rows => res = .t (abl true) ∧ rows = [] := by
    have := impl_InBounds_a [⟨5, 0, -1, 0, 0, 0, 0, false, false⟩] [5] (by decide) (by decide)
    rw [show inbB [⟨5, 0, -1, 0, 0, 0, 0, false, false⟩] [5] = true from by decide] at this
    exact this
  have kLI : ∀ y ∈ ([[.imm (.int .i64 5), .imm (.int .i64 0), .imm (.int .i64 (-1)), .imm (.int .i64 0), .imm (.int .i64 0), .imm (.int .i64 0), .imm (.int .i64 0), .imm (.bool false), .imm (.bool false)]] : List (List AC)), y.length = 9 := fun y hy => by
    simp only [List.mem_singleton] at hy; subst hy; rfl
  have dLI : ∀ y ∈ ([[.imm (.int .i64 5), .imm (.int .i64 0), .imm (.int .i64 (-1)), .imm (.int .i64 0), .imm (.int .i64 0), .imm (.int .i64 0), .imm (.int .i64 0), .imm (.bool false), .imm (.bool false)]] : List (List AC)), y.all dat = true := fun y hy => by
    simp only [List.mem_singleton] at hy; subst hy; rfl
  have kLS : ∀ y ∈ ([[.imm (.int .i64 5)]] : List (List AC)), y.length = 1 := fun y hy => by
    simp only [List.mem_singleton] at hy; subst hy; rfl
  have dLS : ∀ y ∈ ([[.imm (.int .i64 5)]] : List (List AC)), y.all dat = true := fun y hy => by
    simp only [List.mem_singleton] at hy; subst hy; rfl
  refine loop_go hg fits (by kernel_rfl) E (fun x => lc (GItem.c x)) xs hE hx (fun z (s : Int) => [(3, .t (.c (.own 0))), (4, .t (ai (gap))), (5, .t (ai (inner))), (6, .t (abl (C))), (7, .t (.c (.own 1))), (20, .t (ai (s))), (21, .t (ai (z)))]) (fun z (s : Int) => [.rw ⟨35, 9, E⟩, .rw ⟨3, 1, D⟩]) (fun z (s : Int) => True) (fun (s : Int) rest => gsum gap s rest) (GS) inner hGS.symm trivial (Wk.weak (wkG [some 0, some 1] ⟨rfl, rfl, rfl, rfl, rfl, rfl, rfl, trivial⟩ ⟨⟨_, _, rfl, rfl, rfl, rfl, .inl ⟨rfl, pE⟩⟩, ⟨_, _, rfl, rfl, rfl, rfl, .inl ⟨rfl, pD⟩⟩, trivial⟩ (by decide) no_lt)) (fun z s B hz h0 hi he => ?_) (fun z s x rest B z0 z1 z2 hx hy h0 hi hc e1 hB => ?_)
  rotate_left
  · obtain ⟨y0, y1, y2, y3, y4, y5, y6, y7, y8⟩ := x
    obtain ⟨b1, hb1⟩ : ∃ b, b = bro y5 0 1048576 := ⟨_, rfl⟩
    obtain ⟨b2, hb2⟩ : ∃ b, b = bro y5 (-1048576) 0 := ⟨_, rfl⟩
    obtain ⟨b3, hb3⟩ : ∃ b, b = bro y6 0 1048576 := ⟨_, rfl⟩
    obtain ⟨b4, hb4⟩ : ∃ b, b = bro y6 (-1048576) 0 := ⟨_, rfl⟩
    have d1 := spec_Brought_a y5 0 1048576
    have d2 := spec_Brought_a y5 (-1048576) 0
    have d3 := spec_Brought_a y6 0 1048576
    have d4 := spec_Brought_a y6 (-1048576) 0
    rw [← hb1] at d1
    rw [← hb2] at d2
    rw [← hb3] at d3
    rw [← hb4] at d4
    obtain ⟨q, hq⟩ : ∃ q, q = decide (0 < y2) := ⟨_, rfl⟩
    have tq : g .q .gtr y2 0 = q := by rw [hq, goGtr hg]
    have zE : z < lenI E := z1
    cbv
    rw [hc]
    cbv
    repeat' first
      | (refine goY hg z0 zE fun j hj hjl => ?_; cbv; refine ⟨_, by rw [hj]; exact hy, ?_⟩; cbv; clear hj hjl)
      | (rw [tq]; cases hqq : q <;> cbv)
      | (refine call0 hg d1 rfl rfl ?_; cbv)
      | (refine call0P hg d1 rfl rfl ?_; cbv)
      | (refine call0 hg d2 rfl rfl ?_; cbv)
      | (refine call0P hg d2 rfl rfl ?_; cbv)
      | (refine call0 hg d3 rfl rfl ?_; cbv)
      | (refine call0P hg d3 rfl rfl ?_; cbv)
      | (refine call0 hg d4 rfl rfl ?_; cbv)
      | (refine call0P hg d4 rfl rfl ?_; cbv)
    · have hn : ¬ 0 < y2 := of_decide_eq_false (hq.symm.trans hqq)
      have hs1 : gstp gap s ⟨y0, y1, y2, y3, y4, y5, y6, y7, y8⟩ = wrap64 (wrap64 (wrap64 (wrap64 (wrap64 (wrap64 (wrap64 (s + y0) + y1) + wrap64 (2 * gap)) + b1) - b2) + b3) - b4) := by
        rw [hb1, hb2, hb3, hb4]; simp only [gstp, if_neg hn]
      rw [e1]
      simp only [goAdd hg, goSub hg, goMul hg]
      rw [← hs1]
      exact hB (gstp gap s ⟨y0, y1, y2, y3, y4, y5, y6, y7, y8⟩) _ _ ⟨h0, trivial⟩ (Wk.weak (wkG [some 0, some 1] ⟨rfl, rfl, rfl, rfl, rfl, rfl, rfl, trivial⟩ ⟨⟨_, _, rfl, rfl, rfl, rfl, .inl ⟨rfl, pE⟩⟩, ⟨_, _, rfl, rfl, rfl, rfl, .inl ⟨rfl, pD⟩⟩, trivial⟩ (by decide) no_lt))
    · have hn : 0 < y2 := of_decide_eq_true (hq.symm.trans hqq)
      have hs1 : gstp gap s ⟨y0, y1, y2, y3, y4, y5, y6, y7, y8⟩ = wrap64 (wrap64 (wrap64 (wrap64 (wrap64 (wrap64 (wrap64 (wrap64 (s + y0) + y1) + wrap64 (2 * gap)) + y2) + b1) - b2) + b3) - b4) := by
        rw [hb1, hb2, hb3, hb4]; simp only [gstp, if_pos hn]
      rw [e1]
      simp only [goAdd hg, goSub hg, goMul hg]
      rw [← hs1]
      exact hB (gstp gap s ⟨y0, y1, y2, y3, y4, y5, y6, y7, y8⟩) _ _ ⟨h0, trivial⟩ (Wk.weak (wkG [some 0, some 1] ⟨rfl, rfl, rfl, rfl, rfl, rfl, rfl, trivial⟩ ⟨⟨_, _, rfl, rfl, rfl, rfl, .inl ⟨rfl, pE⟩⟩, ⟨_, _, rfl, rfl, rfl, rfl, .inl ⟨rfl, pD⟩⟩, trivial⟩ (by decide) no_lt))
  have h0 : s = GS := h0
  subst h0
  cbv; rw [he]; cbv
  have r0 : g .q .lss gap 0 = decide (gap < 0) := goLss hg _ _
  have r1 : g .q .gtr gap 1048576 = decide (1048576 < gap) := by rw [goGtr hg]
  have r2 : g .q .lss inner 0 = decide (inner < 0) := goLss hg _ _
  have r3 : g .q .gtr s 500000 = decide (500000 < s) := by rw [goGtr hg]
  first | (refine callR hg ck (resA_c (resRow (ab := ⟨_, _, E⟩) rfl kE dE) (resA_nil)) rfl ?_; cbv) | (refine callRP hg ck (resA_c (resRow (ab := ⟨_, _, E⟩) rfl kE dE) (resA_nil)) rfl ?_; cbv)
  obtain ⟨q0, hq0⟩ : ∃ q, q = decide (gap < 0) := ⟨_, rfl⟩
  obtain ⟨q1, hq1⟩ : ∃ q, q = decide (1048576 < gap) := ⟨_, rfl⟩
  obtain ⟨q2, hq2⟩ : ∃ q, q = decide (inner < 0) := ⟨_, rfl⟩
  obtain ⟨q3, hq3⟩ : ∃ q, q = decide (500000 < s) := ⟨_, rfl⟩
  rw [← hq0] at r0
  rw [← hq1] at r1
  rw [← hq2] at r2
  rw [← hq3] at r3
  have hfin : IV = true → q0 = false → q1 = false → q2 = false → q3 = false → BV = true ∧ (C = true → FV = true) := fun a b c d e => hfin a (of_decide_eq_false (hq0.symm.trans b)) (of_decide_eq_false (hq1.symm.trans c)) (of_decide_eq_false (hq2.symm.trans d)) (of_decide_eq_false (hq3.symm.trans e))
  clear hq0 hq1 hq2 hq3
  cases IV <;> cbv
  all_goals repeat' first
    | (rw [r0]; cases hz0 : q0 <;> cbv)
    | (rw [r1]; cases hz1 : q1 <;> cbv)
    | (rw [r2]; cases hz2 : q2 <;> cbv)
    | (rw [r3]; cases hz3 : q3 <;> cbv)
    | (refine callR hg cf (resA_c (resRow (ab := ⟨_, _, E⟩) rfl kE dE) (resA_c (resRow (ab := ⟨_, _, D⟩) rfl kD dD) (resA_c (resDat rfl) (resA_c (resDat rfl) (resA_nil))))) rfl ?_; cbv) | (refine callRP hg cf (resA_c (resRow (ab := ⟨_, _, E⟩) rfl kE dE) (resA_c (resRow (ab := ⟨_, _, D⟩) rfl kD dD) (resA_c (resDat rfl) (resA_c (resDat rfl) (resA_nil))))) rfl ?_; cbv)
    | (refine callR hg cb (resA_c (resRow (ab := ⟨_, _, E⟩) rfl kE dE) (resA_c (resRow (ab := ⟨_, _, D⟩) rfl kD dD) (resA_nil))) rfl ?_; cbv) | (refine callRP hg cb (resA_c (resRow (ab := ⟨_, _, E⟩) rfl kE dE) (resA_c (resRow (ab := ⟨_, _, D⟩) rfl kD dD) (resA_nil))) rfl ?_; cbv)
    | (refine callR hg kB (resA_c (resRow (ab := ⟨_, _, _⟩) rfl kLI dLI) (resA_c (resRow (ab := ⟨_, _, _⟩) rfl kLS dLS) resA_nil)) rfl ?_; cbv)
    | (refine callRP hg kB (resA_c (resRow (ab := ⟨_, _, _⟩) rfl kLI dLI) (resA_c (resRow (ab := ⟨_, _, _⟩) rfl kLS dLS) resA_nil)) rfl ?_; cbv)
  case' pos.refine_1.true.false.false.false.false =>
    obtain ⟨hB, hFl⟩ := hfin rfl (by first | rfl | assumption) (by first | rfl | assumption) (by first | rfl | assumption) (by first | rfl | assumption)
    subst hB
    cases C <;> (first | (have hFl := hFl rfl; subst hFl; cbv) | cbv)
  all_goals repeat' first
    | (refine callR hg cf (resA_c (resRow (ab := ⟨_, _, E⟩) rfl kE dE) (resA_c (resRow (ab := ⟨_, _, D⟩) rfl kD dD) (resA_c (resDat rfl) (resA_c (resDat rfl) (resA_nil))))) rfl ?_; cbv) | (refine callRP hg cf (resA_c (resRow (ab := ⟨_, _, E⟩) rfl kE dE) (resA_c (resRow (ab := ⟨_, _, D⟩) rfl kD dD) (resA_c (resDat rfl) (resA_c (resDat rfl) (resA_nil))))) rfl ?_; cbv)
    | (refine callR hg cb (resA_c (resRow (ab := ⟨_, _, E⟩) rfl kE dE) (resA_c (resRow (ab := ⟨_, _, D⟩) rfl kD dD) (resA_nil))) rfl ?_; cbv) | (refine callRP hg cb (resA_c (resRow (ab := ⟨_, _, E⟩) rfl kE dE) (resA_c (resRow (ab := ⟨_, _, D⟩) rfl kD dD) (resA_nil))) rfl ?_; cbv)
    | (refine callR hg kB (resA_c (resRow (ab := ⟨_, _, _⟩) rfl kLI dLI) (resA_c (resRow (ab := ⟨_, _, _⟩) rfl kLS dLS) resA_nil)) rfl ?_; cbv)
    | (refine callRP hg kB (resA_c (resRow (ab := ⟨_, _, _⟩) rfl kLI dLI) (resA_c (resRow (ab := ⟨_, _, _⟩) rfl kLS dLS) resA_nil)) rfl ?_; cbv)
  all_goals exact fin0b hF rfl

end Go.Proofs.Ytcohgnecmgcajaa
