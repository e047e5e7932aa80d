/- Draws of lines with sizes. -/
import Derived.Test.YtcohgnecmgcajaaH3
namespace Go.Proofs.Ytcohgnecmgcajaa
open Go.ChangeShapes Go.WideShapes Go.ChangeAt Go.RowKit Am
set_option linter.unusedVariables false
set_option linter.unusedSimpArgs false
set_option maxRecDepth 100000
theorem spec_l15Justify_a (bs : List Int) (hl : bs.length ≤ 1048576) (i h : Int) (hi : 0 ≤ i) : CuCon 54 76 (vw bytC bs) i h [] fun res => ∃ x : Int, res = .t (ai x) := by
  have cb := fun (i h n : Int) (hi : 0 ≤ i) => spec_l01Below_a bs hl i h n hi
  obtain ⟨V, hV⟩ : ∃ V, V = vw bytC bs := ⟨_, rfl⟩
  simp only [← hV] at cb ⊢
  refine con_run (c := body Try.f54) fits Try.func54 (by kernel_rfl) (by kernel_rfl) (bl (by rfl)) (by kernel_rfl) fun g F hg hF => ?_
  replace hg : g = G0 Try.prog 1 Try.f54.ntmps := hg
  replace hF : F = FinP 1 _ := hF
  cbv
  refine callCu hg 0 (cb _ _ _ hi) rfl rfl fun i1 k1 res hi1 hq => ?_
  obtain ⟨x, rfl, _⟩ := hq
  cbv
  exact finCu hF rfl rfl rfl ⟨_, rfl, _, _, hi1, rfl, _, rfl⟩
set_option maxHeartbeats 4000000 in
theorem spec_l15Case_a (bs : List Int) (hl : bs.length ≤ 1048576) : PCon Try.prog 34 [.c (.view (vw bytC bs))] fun res rows => ∃ (xs : List GItem) (ys : List Int) (gap inner js : Int), xs.length ≤ 13 ∧ ys.length ≤ 14 ∧ res = .tup [.c (.own 0), .c (.own 1), ai gap, ai inner, ai js] ∧ rows = [⟨35, 9, vw GItem.c xs⟩, ⟨3, 1, vw intC ys⟩] := by
  have cn := spec_l01New_a bs hl
  have cb := fun (i h n : Int) (hi : 0 ≤ i) => spec_l01Below_a bs hl i h n hi
  have cj := fun (i h : Int) (hi : 0 ≤ i) => spec_l15Justify_a bs hl i h hi
  have cp := fun (i h : Int) (hi : 0 ≤ i) (ls : List Int) (h0 : ls ≠ []) => spec_l01PickInt_a bs hl i h hi ls h0
  have ci := fun (i h : Int) (hi : 0 ≤ i) => spec_l13Any_a bs hl i h hi
  obtain ⟨V, hV⟩ : ∃ V, V = vw bytC bs := ⟨_, rfl⟩
  simp only [← hV] at cn cb cj cp ci ⊢
  refine pcon_run (c := body Try.f34) fits Try.func34 (by kernel_rfl) (by kernel_rfl) (by rfl) (by kernel_rfl) fun g F hg hF => ?_
  cbv
  refine callNew hg cn fun hv => ?_
  cbv
  refine callCuRow hg 0 (ci _ _ (Int.le_refl 0)) rfl rfl fun i1 k1 ab hi1 pE hR => ?_
  obtain ⟨xs, hxl, rfl⟩ := hR
  have cF := fun gap inner => spec_FlexLine_a xs gap inner (by omega)
  obtain ⟨E, hE⟩ : ∃ E, E = vw GItem.c xs := ⟨_, rfl⟩
  have hEl : E.length = xs.length := by rw [hE, vw_length]
  have iE : immE E = true := by rw [hE]; exact vw_imm _ _
  have kE : ∀ y ∈ E, y.length = 9 := by rw [hE]; exact vw_k (c := GItem.c) (k := 9) fun _ => rfl
  have dE : ∀ y ∈ E, y.all dat = true := by rw [hE]; exact vw_dat
  simp only [← hE] at cF
  rw [← hE]
  rw [← hE] at pE
  cbv
  refine callPickL hg (cp _ _ hi1) rfl rfl rfl rfl (by decide) fun i2 k2 gap hi2 hv => ?_
  clear hv
  cbv
  refine callPickL hg (cp _ _ hi2) rfl rfl rfl rfl (by decide) fun i3 k3 inner hi3 hv => ?_
  clear hv
  have cF := cF gap inner
  have hfl := flx_len xs gap inner
  obtain ⟨ys, hys⟩ : ∃ ys, ys = flx xs gap inner := ⟨_, rfl⟩
  rw [← hys] at cF hfl
  have hyl : ys.length ≤ 13 := by omega
  clear hys hfl
  obtain ⟨D, hD⟩ : ∃ D, D = vw intC ys := ⟨_, rfl⟩
  have hDl : D.length = ys.length := by rw [hD, vw_length]
  have iD : immE D = true := by rw [hD]; exact vw_imm _ _
  have kD : ∀ y ∈ D, y.length = 1 := by rw [hD]; exact vw_k (c := intC) (k := 1) fun _ => rfl
  have dD : ∀ y ∈ D, y.all dat = true := by rw [hD]; exact vw_dat
  rw [← hD] at cF
  have pD : plainE D = true := by rw [hD]; exact vw_plain _ _
  have hDl : D.length ≤ 1048576 := by omega
  have aD : D ++ [[.imm (.int .i64 10)]] = vw intC (ys ++ [10]) := by rw [vw_snocD, hD]; rfl
  have haD : (ys ++ [10]).length ≤ 14 := by simp; omega
  have hyl4 : ys.length ≤ 14 := by omega
  cbv
  first | (refine callRow hg cF (resA_c (resRow (ab := ⟨_, _, E⟩) rfl kE dE) (resA_c (resDat rfl) (resA_c (resDat rfl) (resA_nil)))) iD ?_; cbv) | (refine callRowP hg cF (resA_c (resRow (ab := ⟨_, _, E⟩) rfl kE dE) (resA_c (resDat rfl) (resA_c (resDat rfl) (resA_nil)))) iD ?_; cbv)
  refine callCu hg 0 (cb _ _ _ hi3) rfl rfl fun i4 k4 res hi4 hq => ?_
  obtain ⟨x, rfl, _⟩ := hq
  cbv
  cases q0 : g .q .eql x 0 <;> cbv
  rotate_left
  · refine goNA1 hg rfl (by decide) hDl ?_
    cbv
    rw [goAp hg]
    generalize D ++ _ = D2 at aD ⊢
    have aD : D2 = _ := aD
    have pD2 : plainE D2 = true := by rw [aD]; exact vw_plain _ _
    refine callCu hg 0 (cj _ _ hi4) rfl rfl fun i5 k5 res hi5 hq => ?_
    obtain ⟨js, rfl⟩ := hq
    cbv
    exact finR2 hF rfl rfl (by decide) pE pD2 ⟨xs, _, gap, inner, js, hxl, haD, rfl, by rw [hE, aD]⟩
  cases q1 : g .q .eql x 1 <;> cbv
  · refine callCu hg 0 (cj _ _ hi4) rfl rfl fun i5 k5 res hi5 hq => ?_
    obtain ⟨js, rfl⟩ := hq
    cbv
    exact finR2 hF rfl rfl (by decide) pE pD ⟨xs, ys, gap, inner, js, hxl, hyl4, rfl, by rw [hE, hD]⟩
  refine loop_runW hg fits (by kernel_rfl) (fun s : (Int × List Int × List (List AC)) × Int × Int => [(7, .t (.c (.ptr 0 0 0))), (8, .t (.c (.own 1))), (9, .t (ai (gap))), (10, .t (ai (inner))), (11, .t (.c (.own 2))), (12, .t (ai (s.1.1)))]) (fun s => [.bx 76 3 (Cur V s.2.1 s.2.2), .rw ⟨35, 9, E⟩, .rw ⟨3, 1, s.1.2.2⟩]) (fun s => 0 ≤ s.1.1 ∧ s.1.1 ≤ s.1.2.1.length ∧ s.1.2.1.length ≤ 13 ∧ s.1.2.2 = vw intC s.1.2.1 ∧ 0 ≤ s.2.1) (fun s => s.1.2.1.length - s.1.1.toNat)
    ((0, ys, D), i4, k4) ⟨by simp, by simp, hyl, hD, hi4⟩ (Wk.weak (wkG [some 0, some 1, some 4] ⟨rfl, rfl, rfl, rfl, rfl, rfl, trivial⟩ ⟨⟨_, _, rfl, rfl, rfl, rfl, .inl ⟨rfl, rfl⟩⟩, ⟨_, _, rfl, rfl, rfl, rfl, .inl ⟨rfl, pE⟩⟩, ⟨_, _, rfl, rfl, rfl, rfl, .inl ⟨rfl, pD⟩⟩, trivial⟩ (by decide) no_lt)) (fun s B hs hB => ?_)
  obtain ⟨⟨z, ys, D⟩, i, h⟩ := s
  obtain ⟨h0, h1, hyl, hD, h4⟩ := hs
  dsimp only at h0 h1 hyl hD h4
  have pD : plainE D = true := by rw [hD]; exact vw_plain _ _
  have hyl4 : ys.length ≤ 14 := by omega
  have hDl : lenI D = ys.length := by rw [hD, vw_lenI]
  have tz : g .q .lss z (g .ln D) = decide (z < ys.length) := by rw [goLss hg, goLn hg, hDl]
  have ez : g .w .add .i64 z 1 = z + 1 := by rw [goAdd hg]; exact wr1 (by omega) (by omega)
  have hset : ∀ v : Int, D.set z.toNat [.imm (.int .i64 v)] = vw intC (ys.set z.toNat v) := fun v => by rw [hD]; exact (vw_set _ _ _ _).symm
  by_cases hz : z < ys.length
  · have hzD : z < lenI D := by omega
    have hcell : ∃ e, D[z.toNat]? = some e ∧ e.length = 1 := by
      refine ⟨_, by rw [hD]; exact vw_at (List.getElem?_eq_getElem (show z.toNat < ys.length by omega)), rfl⟩
    have fin : ∀ v, (0 ≤ z + 1 ∧ z + 1 ≤ ((ys.set z.toNat v).length : Int) ∧ (ys.set z.toNat v).length ≤ 13) ∧ (ys.set z.toNat v).length - (z + 1).toNat < ys.length - z.toNat := fun v => by rw [List.length_set]; omega
    cbv
    rw [tz, decide_eq_true hz]
    cbv
    refine callCu hg 0 (cb _ _ _ h4) rfl rfl fun i5 k5 res hi5 hq => ?_
    obtain ⟨v, rfl, _⟩ := hq
    cbv
    refine goY hg h0 hzD fun j hj hjl => ?_
    cbv
    refine goN hg (by rw [hj]; exact hcell) ?_
    cbv
    rw [goSt hg, hj, ez]
    have pS : plainE (D.set z.toNat [.imm (.int .i64 v)]) = true := by rw [hset]; exact vw_plain _ _
    subst hB
    exact ⟨((z + 1, ys.set z.toNat v, _), i5, k5), ⟨(fin v).1.1, (fin v).1.2.1, (fin v).1.2.2, hset v, hi5⟩, (fin v).2, Wk.weak (wkG [some 0, some 1, some 2] ⟨rfl, rfl, rfl, rfl, rfl, rfl, trivial⟩ ⟨⟨_, _, rfl, rfl, rfl, rfl, .inl ⟨rfl, rfl⟩⟩, ⟨_, _, rfl, rfl, rfl, rfl, .inl ⟨rfl, pE⟩⟩, ⟨_, _, rfl, rfl, rfl, rfl, .inl ⟨rfl, pS⟩⟩, trivial⟩ (by decide) no_lt)⟩
  · cbv
    rw [tz, decide_eq_false hz]
    cbv
    refine callCu hg 0 (cj _ _ h4) rfl rfl fun i5 k5 res hi5 hq => ?_
    obtain ⟨js, rfl⟩ := hq
    cbv
    exact finR2 hF rfl rfl (by decide) pE pD ⟨xs, ys, gap, inner, js, hxl, hyl4, rfl, by rw [hE, hD]⟩
theorem spec_l24Sizes_a (bs : List Int) (hl : bs.length ≤ 1048576) : PCon Try.prog 33 [.c (.view (vw bytC bs))] fun res rows => ∃ (xs : List GItem) (ys : List Int), xs.length ≤ 13 ∧ ys.length ≤ 14 ∧ res = .tup [.c (.own 0), .c (.own 1)] ∧ rows = [⟨35, 9, vw GItem.c xs⟩, ⟨3, 1, vw intC ys⟩] := by
  have cn := spec_l15Case_a bs hl
  obtain ⟨V, hV⟩ : ∃ V, V = vw bytC bs := ⟨_, rfl⟩
  simp only [← hV] at cn ⊢
  refine pcon_run (c := body Try.f33) fits Try.func33 (by kernel_rfl) (by kernel_rfl) (by rfl) (by kernel_rfl) fun g F hg hF => ?_
  cbv
  refine callC hg (pcall_pure cn rfl fun res rows hq => ?_)
  obtain ⟨xs, ys, gap, inner, js, h1, h2, rfl, rfl⟩ := hq
  obtain ⟨E, hE⟩ : ∃ E, E = vw GItem.c xs := ⟨_, rfl⟩
  have pE : plainE E = true := by rw [hE]; exact vw_plain _ _
  obtain ⟨D, hD⟩ : ∃ E, E = vw intC ys := ⟨_, rfl⟩
  have pD : plainE D = true := by rw [hD]; exact vw_plain _ _
  rw [← hE, ← hD]
  refine ⟨[.rw ⟨35, 9, E⟩, .rw ⟨3, 1, D⟩], by simp only [List.map_cons, List.map_nil, shift_row (ab := ⟨35, 9, E⟩) pE, shift_row (ab := ⟨3, 1, D⟩) pD]; rfl, ?_⟩
  cbv
  exact finR2v hF rfl rfl (by decide) pE pD ⟨xs, ys, h1, h2, rfl, by rw [hE, hD]⟩
theorem spec_DrawInBounds_a (bs : List Int) (hl : bs.length ≤ 1048576) : PCon Try.prog 9 [.c (.view (vw bytC bs))] fun res rows => ∃ (xs : List GItem) (ys : List Int), xs.length ≤ 13 ∧ ys.length ≤ 14 ∧ res = .tup [.c (.own 0), .c (.own 1)] ∧ rows = [⟨35, 9, vw GItem.c xs⟩, ⟨3, 1, vw intC ys⟩] := by
  have cn := spec_l24Sizes_a bs hl
  obtain ⟨V, hV⟩ : ∃ V, V = vw bytC bs := ⟨_, rfl⟩
  simp only [← hV] at cn ⊢
  refine pcon_run (c := body Try.f9) fits Try.func9 (by kernel_rfl) (by kernel_rfl) (by rfl) (by kernel_rfl) fun g F hg hF => ?_
  cbv
  refine callC hg (pcall_pure cn rfl fun res rows hq => ?_)
  obtain ⟨xs, ys, h1, h2, rfl, rfl⟩ := hq
  obtain ⟨E, hE⟩ : ∃ E, E = vw GItem.c xs := ⟨_, rfl⟩
  have pE : plainE E = true := by rw [hE]; exact vw_plain _ _
  obtain ⟨D, hD⟩ : ∃ E, E = vw intC ys := ⟨_, rfl⟩
  have pD : plainE D = true := by rw [hD]; exact vw_plain _ _
  rw [← hE, ← hD]
  refine ⟨[.rw ⟨35, 9, E⟩, .rw ⟨3, 1, D⟩], by simp only [List.map_cons, List.map_nil, shift_row (ab := ⟨35, 9, E⟩) pE, shift_row (ab := ⟨3, 1, D⟩) pD]; rfl, ?_⟩
  cbv
  exact finR2v hF rfl rfl (by decide) pE pD ⟨xs, ys, h1, h2, rfl, by rw [hE, hD]⟩
theorem spec_DrawSpreadOf_a (bs : List Int) (hl : bs.length ≤ 1048576) : PCon Try.prog 13 [.c (.view (vw bytC bs))] fun res rows => ∃ (xs : List GItem) (ys : List Int), xs.length ≤ 13 ∧ ys.length ≤ 14 ∧ res = .tup [.c (.own 0), .c (.own 1)] ∧ rows = [⟨35, 9, vw GItem.c xs⟩, ⟨3, 1, vw intC ys⟩] := by
  have cn := spec_l24Sizes_a bs hl
  obtain ⟨V, hV⟩ : ∃ V, V = vw bytC bs := ⟨_, rfl⟩
  simp only [← hV] at cn ⊢
  refine pcon_run (c := body Try.f13) fits Try.func13 (by kernel_rfl) (by kernel_rfl) (by rfl) (by kernel_rfl) fun g F hg hF => ?_
  cbv
  refine callC hg (pcall_pure cn rfl fun res rows hq => ?_)
  obtain ⟨xs, ys, h1, h2, rfl, rfl⟩ := hq
  obtain ⟨E, hE⟩ : ∃ E, E = vw GItem.c xs := ⟨_, rfl⟩
  have pE : plainE E = true := by rw [hE]; exact vw_plain _ _
  obtain ⟨D, hD⟩ : ∃ E, E = vw intC ys := ⟨_, rfl⟩
  have pD : plainE D = true := by rw [hD]; exact vw_plain _ _
  rw [← hE, ← hD]
  refine ⟨[.rw ⟨35, 9, E⟩, .rw ⟨3, 1, D⟩], by simp only [List.map_cons, List.map_nil, shift_row (ab := ⟨35, 9, E⟩) pE, shift_row (ab := ⟨3, 1, D⟩) pD]; rfl, ?_⟩
  cbv
  exact finR2v hF rfl rfl (by decide) pE pD ⟨xs, ys, h1, h2, rfl, by rw [hE, hD]⟩
theorem spec_DrawFillsLine_a (bs : List Int) (hl : bs.length ≤ 1048576) : PCon Try.prog 10 [.c (.view (vw bytC bs))] fun res rows => ∃ (xs : List GItem) (ys : List Int) (gap inner : Int), xs.length ≤ 13 ∧ ys.length ≤ 14 ∧ res = .tup [.c (.own 0), .c (.own 1), ai gap, ai inner] ∧ rows = [⟨35, 9, vw GItem.c xs⟩, ⟨3, 1, vw intC ys⟩] := by
  have cn := spec_l15Case_a bs hl
  obtain ⟨V, hV⟩ : ∃ V, V = vw bytC bs := ⟨_, rfl⟩
  simp only [← hV] at cn ⊢
  refine pcon_run (c := body Try.f10) fits Try.func10 (by kernel_rfl) (by kernel_rfl) (by rfl) (by kernel_rfl) fun g F hg hF => ?_
  cbv
  refine callC hg (pcall_pure cn rfl fun res rows hq => ?_)
  obtain ⟨xs, ys, gap, inner, js, h1, h2, rfl, rfl⟩ := hq
  obtain ⟨E, hE⟩ : ∃ E, E = vw GItem.c xs := ⟨_, rfl⟩
  have pE : plainE E = true := by rw [hE]; exact vw_plain _ _
  obtain ⟨D, hD⟩ : ∃ E, E = vw intC ys := ⟨_, rfl⟩
  have pD : plainE D = true := by rw [hD]; exact vw_plain _ _
  rw [← hE, ← hD]
  refine ⟨[.rw ⟨35, 9, E⟩, .rw ⟨3, 1, D⟩], by simp only [List.map_cons, List.map_nil, shift_row (ab := ⟨35, 9, E⟩) pE, shift_row (ab := ⟨3, 1, D⟩) pD]; rfl, ?_⟩
  cbv
  exact finR2w hF rfl rfl (by decide) pE pD ⟨xs, ys, gap, inner, h1, h2, rfl, by rw [hE, hD]⟩

end Go.Proofs.Ytcohgnecmgcajaa
