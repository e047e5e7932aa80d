/- Draws of items and of lists of items. -/
import Derived.Test.YtcohgnecmgcajaaD2
import Derived.Test.YtcohgnecmgcajaaQ6
import Derived.Test.YtcohgnecmgcajaaAmAG
namespace Go.Proofs.Ytcohgnecmgcajaa
open Go.ChangeShapes Go.WideShapes Go.ChangeAt Go.RowKit Am
set_option linter.unusedVariables false
set_option linter.unusedSimpArgs false
set_option maxRecDepth 100000
/-- The numbers of a row of plain numbers. -/
def unI : List (List AC) → List Int
  | [] => []
  | [.imm (.int _ v)] :: l => v :: unI l
  | _ :: l => 0 :: unI l
section
variable {n0 N : Nat} {g : Gd}
theorem callPickL (hg : g = G0 Try.prog n0 N) {H : EH} {r q : Nat} {f : FuncId} {tc ti : Nat} {V : List (List AC)} {i h : Int} {es : List (List AC)} {K : AV → EH → Prop}
    (hc : ∀ ls : List Int, ls ≠ [] → Con Try.prog f (toH [.bx tc 3 (Cur V i h), .rw ⟨ti, 1, vw intC ls⟩]) [.c (.ptr 0 0 0), .c (.own 1)] fun res h' => ∃ eh, toH eh = h' ∧ ∃ i' k' v, 0 ≤ i' ∧ eh = [.bx tc 3 (Cur V i' k'), .rw ⟨ti, 1, vw intC ls⟩] ∧ res = .t (ai v) ∧ v ∈ ls)
    (hr : nth H r = some (.bx tc 3 (Cur V i h))) (hq : nth H q = some (.rw ⟨ti, 1, es⟩)) (he : vw intC (unI es) = es) (hn : (unI es).isEmpty = false) (hne : r ≠ q)
    (hK : ∀ (i' k' v : Int), 0 ≤ i' → v ∈ unI es → K (.t (ai v)) (setL H r (.bx tc 3 (Cur V i' k')))) : g .C f H [.c (.ptr r 0 0), .c (.own q)] K :=
  callPick hg r q (hc (unI es) (by intro h; rw [h] at hn; cases hn)) hr (by rw [he]; exact hq) hne hK
/-- What a function of the cursor comes to that makes a row. -/
abbrev CuRow (f : FuncId) (tc : Nat) (V : List (List AC)) (i h : Int) (args : List AT) (R : AB → Prop) : Prop :=
  Con Try.prog f (toH [.bx tc 3 (Cur V i h)]) (.c (.ptr 0 0 0) :: args) fun res h' => ∃ eh, toH eh = h' ∧ ∃ i' k' ab, 0 ≤ i' ∧ eh = [.bx tc 3 (Cur V i' k'), .rw ab] ∧ res = .t (.c (.own 1)) ∧ plainE ab.es = true ∧ R ab
theorem callCuRow (hg : g = G0 Try.prog n0 N) {H : EH} (r : Nat) {f : FuncId} {tc : Nat} {V : List (List AC)} {i h : Int} {args : List AT} {R : AB → Prop} {K : AV → EH → Prop} (hc : CuRow f tc V i h args R) (hr : nth H r = some (.bx tc 3 (Cur V i h))) (ha : (args.all plainT) = true)
    (hK : ∀ (i' k' : Int) (ab : AB), 0 ≤ i' → plainE ab.es = true → R ab → K (.t (.c (.own (lenL H)))) (setL H r (.bx tc 3 (Cur V i' k')) ++ [.rw ab])) : g .C f H (.c (.ptr r 0 0) :: args) K := by
  have hrl : r < H.length := by rw [nth_eq] at hr; exact (List.getElem?_eq_some_iff.1 hr).1
  refine callH hg [r] hc (by simp) (by simpa using hrl) ⟨⟨_, _, rfl, by rw [hr]; rfl, rfl, rfl, .inl ⟨rfl, rfl⟩⟩, trivial⟩ ⟨rfl, rnTs_plain ha⟩ fun res eh ⟨i', k', ab, h1, h2, h3, h4, h5⟩ => ?_
  subst h2 h3
  have := hK i' k' ab h1 h4 h5
  rw [setL_eq, lenL_eq] at this
  have e : ∀ s, EE.mv s (.rw ab) = .rw ab := fun s => by obtain ⟨t, k, es⟩ := ab; exact congrArg EE.rw (mv_rowE h4 t k s)
  simp only [putBack, e, List.map_cons, List.map_nil]
  have e2 : AV.mv (plc [r] H.length) (.t (.c (.own 1))) = .t (.c (.own H.length)) := by
    show AV.t (.c (.own (plc [r] H.length 1))) = _
    rw [plc_eq]; simp
  rw [e2]
  exact this
/-- The end of a function that was told of the cursor and that makes one row. -/
theorem finCuRow {F : List AT → EH → Prop} {Post : AV → AH → Prop} {eh : EH} {t k r : Nat} {c : List AC} {ab : AB} (hF : F = FinP 1 Post) (h0 : nth eh 0 = some (.bx t k c)) (h1 : nth eh r = some (.rw ab)) (hr : 0 ≠ r) (hc : c.all plain = true) (hp : plainE ab.es = true) (hpost : Post (.t (.c (.own 1))) (toH [.bx t k c, .rw ab])) : F [.c (.own r)] eh := by
  subst hF
  exact .inl ⟨.t (.c (.own 1)), toH [.bx t k c, .rw ab], [some 0, some r], wkG [some 0, some r] ⟨rfl, trivial⟩ ⟨⟨_, _, nth_bx h0, rfl, rfl, rfl, .inl ⟨rfl, by simpa [plainE] using hc⟩⟩, ⟨_, _, nth_rw h1, rfl, rfl, rfl, .inl ⟨rfl, hp⟩⟩, trivial⟩ (by simpa using hr) (by simp), hpost⟩
end
set_option maxHeartbeats 4000000 in
theorem spec_l13Item_a (bs : List Int) (hl : bs.length ≤ 1048576) (i h : Int) (hi : 0 ≤ i) : CuCon 55 76 (vw bytC bs) i h [] fun res => ∃ x : GItem, res = .t (.agg (lc (GItem.c x))) := by
  have cb := fun (i h n : Int) (hi : 0 ≤ i) => spec_l01Below_a bs hl i h n hi
  have co := fun (i h n : Int) (hi : 0 ≤ i) => spec_l01Once_a bs hl i h n hi
  have cp := fun (i h : Int) (hi : 0 ≤ i) (ls : List Int) (h0 : ls ≠ []) => spec_l01PickInt_a bs hl i h hi ls h0
  obtain ⟨V, hV⟩ : ∃ V, V = vw bytC bs := ⟨_, rfl⟩
  simp only [← hV] at cb co cp ⊢
  refine con_run (c := body Try.f55) fits Try.func55 (by kernel_rfl) (by kernel_rfl) (bl (by rfl)) (by kernel_rfl) fun g F hg hF => ?_
  replace hg : g = G0 Try.prog 1 Try.f55.ntmps := hg
  replace hF : F = FinP 1 _ := hF
  cbv
  refine callCu hg 0 (cb _ _ _ hi) rfl rfl fun i1 k1 res hi1 hq => ?_
  obtain ⟨b0, rfl, _⟩ := hq
  cbv
  refine callPickL hg (cp _ _ hi1) rfl rfl rfl rfl (by decide) fun i2 k2 v0 hi2 hv => ?_
  clear hv
  cbv
  refine callCu hg 0 (co _ _ _ hi2) rfl rfl fun i3 k3 res hi3 hq => ?_
  obtain ⟨o1, rfl⟩ := hq
  cbv
  cases o1 <;> cbv
  rotate_left
  refine callPickL hg (cp _ _ hi3) rfl rfl rfl rfl (by decide) fun i3 k3 v1 hi3 hv => ?_
  clear hv
  cbv
  all_goals
    refine callCu hg 0 (co _ _ _ (by assumption)) rfl rfl fun i4 k4 res hi4 hq => ?_
    obtain ⟨o2, rfl⟩ := hq
    cbv
    cases o2 <;> cbv
    rotate_left
    refine callPickL hg (cp _ _ hi4) rfl rfl rfl rfl (by decide) fun i4 k4 v2 hi4 hv => ?_
    clear hv
    cbv
    all_goals
      refine callPickL hg (cp _ _ (by assumption)) rfl rfl rfl rfl (by decide) fun i5 k5 v3 hi5 hv => ?_
      clear hv
      cbv
      refine callPickL hg (cp _ _ hi5) rfl rfl rfl rfl (by decide) fun i6 k6 v4 hi6 hv => ?_
      clear hv
      cbv
      refine callCu hg 0 (co _ _ _ hi6) rfl rfl fun i7 k7 res hi7 hq => ?_
      obtain ⟨o3, rfl⟩ := hq
      cbv
      cases o3 <;> cbv
      rotate_left
      refine callPickL hg (cp _ _ hi7) rfl rfl rfl rfl (by decide) fun i7 k7 v5 hi7 hv => ?_
      clear hv
      cbv
      refine callPickL hg (cp _ _ hi7) rfl rfl rfl rfl (by decide) fun i8 k8 v6 hi7 hv => ?_
      clear hv
      cbv
      all_goals
        refine callCu hg 0 (co _ _ _ (by assumption)) rfl rfl fun i9 k9 res hi9 hq => ?_
        obtain ⟨o4, rfl⟩ := hq
        cbv
        refine callCu hg 0 (co _ _ _ hi9) rfl rfl fun i10 k10 res hi10 hq => ?_
        obtain ⟨o5, rfl⟩ := hq
        cbv
        exact finCu hF rfl rfl rfl ⟨_, rfl, _, _, hi10, rfl, ⟨_, _, _, _, _, _, _, _, _⟩, rfl⟩
set_option maxHeartbeats 4000000 in
theorem spec_l13Items_a (bs : List Int) (hl : bs.length ≤ 1048576) (i h : Int) (hi : 0 ≤ i) : CuRow 60 76 (vw bytC bs) i h [] fun ab => ∃ xs : List GItem, xs.length ≤ 6 ∧ ab = ⟨35, 9, vw GItem.c xs⟩ := by
  have cb := fun (i h n : Int) (hi : 0 ≤ i) => spec_l01Below_a bs hl i h n hi
  have cf := fun (i h : Int) (hi : 0 ≤ i) => spec_l13Item_a bs hl i h hi
  obtain ⟨V, hV⟩ : ∃ V, V = vw bytC bs := ⟨_, rfl⟩
  simp only [← hV] at cb cf ⊢
  refine con_run (c := body Try.f60) fits Try.func60 (by kernel_rfl) (by kernel_rfl) (bl (by rfl)) (by kernel_rfl) fun g F hg hF => ?_
  replace hg : g = G0 Try.prog 1 Try.f60.ntmps := hg
  replace hF : F = FinP 1 _ := hF
  cbv
  refine loop_runW hg fits (by kernel_rfl) (fun s : (Int × List GItem × List (List AC)) × Int × Int => [(0, .t (.c (.ptr 0 0 0))), (3, .t (.c (.own 1))), (4, .t (ai (s.1.1)))]) (fun s => [.bx 76 3 (Cur V s.2.1 s.2.2), .rw ⟨35, 9, s.1.2.2⟩]) (fun s => 0 ≤ s.1.1 ∧ s.1.1 ≤ 6 ∧ (s.1.2.1.length : Int) = s.1.1 ∧ s.1.2.2 = vw GItem.c s.1.2.1 ∧ 0 ≤ s.2.1) (fun s => 6 - s.1.1.toNat)
    ((0, [], []), i, h) ⟨by simp, by simp, by simp, rfl, by simpa using hi⟩ (Wk.weak (wkG [some 0, some 1] ⟨rfl, rfl, rfl, trivial⟩ ⟨⟨_, _, rfl, rfl, rfl, rfl, .inl ⟨rfl, rfl⟩⟩, ⟨_, _, rfl, rfl, rfl, rfl, .inl ⟨rfl, rfl⟩⟩, trivial⟩ (by decide) (by decide))) (fun s B hs hB => ?_)
  obtain ⟨⟨z, xs, eX⟩, i, h⟩ := s
  obtain ⟨h0, h1, h2, h3, h4⟩ := hs
  dsimp only at h0 h1 h2 h3 h4
  have hel : eX.length ≤ 1048576 := by rw [h3, vw_length]; omega
  have pX : plainE eX = true := by rw [h3]; exact vw_plain _ _
  have ez : g .w .add .i64 z 1 = z + 1 := by rw [goAdd hg]; exact wr1 (by omega) (by omega)
  have hxl : xs.length ≤ 6 := by omega
  have hl1 : ∀ f, ((xs ++ [f]).length : Int) = z + 1 := fun f => by simp; omega
  cbv
  refine callCu hg 0 (cb _ _ _ h4) rfl rfl fun i1 k1 res hi1 hq => ?_
  obtain ⟨x, rfl, hx0, hx1, _⟩ := hq
  have hx4 := hx1 (by decide)
  have tz : g .q .lss z x = decide (z < x) := goLss hg _ _
  cbv
  rw [tz]
  by_cases hzx : z < x
  · rw [decide_eq_true hzx]
    cbv
    refine callCu hg 0 (cf _ _ hi1) rfl rfl fun i2 k2 res hi2 hq => ?_
    obtain ⟨⟨f0, f1, f2, f3, f4, f5, f6, f7, f8⟩, rfl⟩ := hq
    have aX : eX ++ [lc (GItem.c ⟨f0, f1, f2, f3, f4, f5, f6, f7, f8⟩)] = vw GItem.c (xs ++ [⟨f0, f1, f2, f3, f4, f5, f6, f7, f8⟩]) := by rw [vw_snocD, h3]
    cbv
    refine goNA1 hg rfl (by decide) hel ?_
    cbv
    rw [ez, goAp hg]
    subst hB
    exact ⟨((z + 1, xs ++ [⟨f0, f1, f2, f3, f4, f5, f6, f7, f8⟩], _), i2, k2), ⟨by simp only; omega, by simp only; omega, hl1 _, aX, hi2⟩, by simp only; omega, Wk.weak (wkG [some 0, some 3] ⟨rfl, rfl, rfl, trivial⟩ ⟨⟨_, _, rfl, rfl, rfl, rfl, .inl ⟨rfl, rfl⟩⟩, ⟨_, _, rfl, rfl, rfl, rfl, .inl ⟨rfl, aX.symm ▸ vw_plain _ _⟩⟩, trivial⟩ (by decide) (by decide))⟩
  · rw [decide_eq_false hzx]
    cbv
    exact finCuRow hF rfl rfl (by decide) rfl pX ⟨_, rfl, _, _, _, hi1, rfl, rfl, pX, xs, hxl, by rw [h3]⟩
set_option maxHeartbeats 4000000 in
theorem spec_l13Any_a (bs : List Int) (hl : bs.length ≤ 1048576) (i h : Int) (hi : 0 ≤ i) : CuRow 46 76 (vw bytC bs) i h [] fun ab => ∃ xs : List GItem, xs.length ≤ 13 ∧ ab = ⟨35, 9, vw GItem.c xs⟩ := by
  have cb := fun (i h n : Int) (hi : 0 ≤ i) => spec_l01Below_a bs hl i h n hi
  have co := fun (i h n : Int) (hi : 0 ≤ i) => spec_l01Once_a bs hl i h n hi
  have cp := fun (i h : Int) (hi : 0 ≤ i) (ls : List Int) (h0 : ls ≠ []) => spec_l01PickInt_a bs hl i h hi ls h0
  have cf := fun (i h : Int) (hi : 0 ≤ i) => spec_l13Item_a bs hl i h hi
  have ci := fun (i h : Int) (hi : 0 ≤ i) => spec_l13Items_a bs hl i h hi
  obtain ⟨V, hV⟩ : ∃ V, V = vw bytC bs := ⟨_, rfl⟩
  simp only [← hV] at cb cf co cp ci ⊢
  refine con_run (c := body Try.f46) fits Try.func46 (by kernel_rfl) (by kernel_rfl) (bl (by rfl)) (by kernel_rfl) fun g F hg hF => ?_
  replace hg : g = G0 Try.prog 1 Try.f46.ntmps := hg
  replace hF : F = FinP 1 _ := hF
  cbv
  refine callCuRow hg 0 (ci _ _ hi) rfl rfl fun i1 k1 ab hi1 pE hR => ?_
  obtain ⟨xs, hxl, rfl⟩ := hR
  obtain ⟨E, hE⟩ : ∃ E, E = vw GItem.c xs := ⟨_, rfl⟩
  rw [← hE]
  cbv
  have t0 : g .q .gtr (g .ln E) 0 = decide (0 < (xs.length : Int)) := by rw [goGtr hg, goLn hg, hE, lenI_eq, vw_length]
  rw [t0]
  have hxl : xs.length ≤ 13 := by omega
  by_cases hx0 : 0 < (xs.length : Int)
  · rw [decide_eq_true hx0]
    obtain ⟨y, hy⟩ : ∃ y, xs[0]? = some y := ⟨_, List.getElem?_eq_getElem (by omega)⟩
    have hEy : E[(0 : Int).toNat]? = some (lc (GItem.c y)) := by rw [hE]; exact vw_at hy
    have hEl : (0 : Int) < lenI E := by rw [hE, lenI_eq, vw_length]; exact hx0
    obtain ⟨y0, y1, y2, y3, y4, y5, y6, y7, y8⟩ := y
    have st : ∀ z : GItem, E.set (0 : Int).toNat (lc (GItem.c z)) = vw GItem.c (xs.set 0 z) := fun z => by rw [hE]; exact (vw_set _ _ _ _).symm
    cbv
    refine callCu hg 0 (cb _ _ _ hi1) rfl rfl fun i2 k2 res hi2 hq => ?_
    obtain ⟨b, rfl, _⟩ := hq
    cbv
    cases q0 : g .q .eql b 0 <;> cbv
    rotate_left
    · refine callPickL hg (cp _ _ hi2) rfl rfl rfl rfl (by decide) fun i1 k1 v hi1 hv => ?_
      clear hv
      cbv
      refine goY hg (by decide) hEl fun j hj hjl => ?_
      cbv
      refine ⟨_, by rw [hj]; exact hEy, ?_⟩
      cbv
      generalize hst : g .st _ j _ = E2
      have hE2 : E2 = vw GItem.c (xs.set 0 ⟨v, y1, y2, y3, y4, y5, y6, y7, y8⟩) := by rw [← hst, goSt hg, hj]; exact st ⟨v, y1, y2, y3, y4, y5, y6, y7, y8⟩
      have hxl2 : (xs.set 0 ⟨v, y1, y2, y3, y4, y5, y6, y7, y8⟩).length ≤ 13 := by rw [List.length_set]; exact hxl
      obtain ⟨xs, hxs⟩ : ∃ x, x = xs.set 0 ⟨v, y1, y2, y3, y4, y5, y6, y7, y8⟩ := ⟨_, rfl⟩
      rw [← hxs] at hxl2 hE2
      have hxl := hxl2
      obtain ⟨E, hEe⟩ : ∃ E, E = E2 := ⟨_, rfl⟩
      have hE : E = vw GItem.c xs := by rw [hEe, hE2]
      rw [← hEe]
      clear hst hxs hE2 hEe
      have pX : plainE E = true := by rw [hE]; exact vw_plain _ _
      refine callCu hg 0 (co _ _ _ hi1) rfl rfl fun i3 k3 res hi3 hq => ?_
      obtain ⟨o, rfl⟩ := hq
      cbv
      cases o <;> cbv
      · exact finCuRow hF rfl rfl (by decide) rfl pX ⟨_, rfl, _, _, _, hi3, rfl, rfl, pX, xs, hxl, by rw [hE]⟩
      · refine loop_runW hg fits (by kernel_rfl) (fun s : (List GItem × List (List AC)) × Int × Int => [(0, .t (.c (.ptr 0 0 0))), (3, .t (.c (.own 1)))]) (fun s => [.bx 76 3 (Cur V s.2.1 s.2.2), .rw ⟨35, 9, s.1.2⟩]) (fun s => s.1.1.length ≤ 13 ∧ s.1.2 = vw GItem.c s.1.1 ∧ 0 ≤ s.2.1) (fun s => 13 - s.1.1.length)
          ((xs, E), i3, k3) ⟨hxl, hE, hi3⟩ (Wk.weak (wkG [some 0, some 1] ⟨rfl, rfl, trivial⟩ ⟨⟨_, _, rfl, rfl, rfl, rfl, .inl ⟨rfl, rfl⟩⟩, ⟨_, _, rfl, rfl, rfl, rfl, .inl ⟨rfl, pX⟩⟩, trivial⟩ (by decide) (by decide))) (fun s B hs hB => ?_)
        obtain ⟨⟨xs, E⟩, i, h⟩ := s
        obtain ⟨hxl, hE, hi⟩ := hs
        dsimp only at hxl hE hi
        have pX : plainE E = true := by rw [hE]; exact vw_plain _ _
        have hel : E.length ≤ 1048576 := by rw [hE, vw_length]; omega
        have hln : g .ln E = (xs.length : Int) := by rw [goLn hg, hE, lenI_eq, vw_length]
        have tz : ∀ x : Int, 0 ≤ x → x < 2 → g .q .lss (g .ln E) (g .w .add .i64 12 x) = decide ((xs.length : Int) < 12 + x) := fun x h0 h1 => by
          rw [goLss hg, hln, goAdd hg, show wrap64 (12 + x) = 12 + x by unfold wrap64; omega]
        have fin : ∀ (x : Int), x < 2 → (xs.length : Int) < 12 + x → ∀ f : GItem, (xs ++ [f]).length ≤ 13 ∧ 13 - (xs ++ [f]).length < 13 - xs.length := fun x h1 h2 f => by
          rw [List.length_append, List.length_singleton]; omega
        cbv
        refine callCu hg 0 (cb _ _ _ hi) rfl rfl fun i1 k1 res hi1 hq => ?_
        obtain ⟨x, rfl, hx0, hx1, _⟩ := hq
        have hx2 := hx1 (by decide)
        have fin := fin x hx2
        cbv
        rw [tz x hx0 hx2]
        by_cases hzx : (xs.length : Int) < 12 + x
        · rw [decide_eq_true hzx]
          have fin := fin hzx
          cbv
          refine callCu hg 0 (cf _ _ hi1) rfl rfl fun i2 k2 res hi2 hq => ?_
          obtain ⟨⟨f0, f1, f2, f3, f4, f5, f6, f7, f8⟩, rfl⟩ := hq
          have aX : E ++ [lc (GItem.c ⟨f0, f1, f2, f3, f4, f5, f6, f7, f8⟩)] = vw GItem.c (xs ++ [⟨f0, f1, f2, f3, f4, f5, f6, f7, f8⟩]) := by rw [vw_snocD, hE]
          obtain ⟨fin1, fin2⟩ := fin ⟨f0, f1, f2, f3, f4, f5, f6, f7, f8⟩
          cbv
          refine goNA1 hg rfl (by decide) hel ?_
          cbv
          rw [goAp hg]
          subst hB
          exact ⟨((xs ++ [⟨f0, f1, f2, f3, f4, f5, f6, f7, f8⟩], _), i2, k2), ⟨fin1, aX, hi2⟩, fin2, Wk.weak (wkG [some 0, some 3] ⟨rfl, rfl, trivial⟩ ⟨⟨_, _, rfl, rfl, rfl, rfl, .inl ⟨rfl, rfl⟩⟩, ⟨_, _, rfl, rfl, rfl, rfl, .inl ⟨rfl, aX.symm ▸ vw_plain _ _⟩⟩, trivial⟩ (by decide) (by decide))⟩
        · rw [decide_eq_false hzx]
          cbv
          exact finCuRow hF rfl rfl (by decide) rfl pX ⟨_, rfl, _, _, _, hi1, rfl, rfl, pX, xs, hxl, by rw [hE]⟩
    cases q1 : g .q .eql b 1 <;> cbv
    rotate_left
    · refine callPickL hg (cp _ _ hi2) rfl rfl rfl rfl (by decide) fun i1 k1 v hi1 hv => ?_
      clear hv
      cbv
      refine goY hg (by decide) hEl fun j hj hjl => ?_
      cbv
      refine ⟨_, by rw [hj]; exact hEy, ?_⟩
      cbv
      generalize hst : g .st _ j _ = E2
      have hE2 : E2 = vw GItem.c (xs.set 0 ⟨y0, y1, y2, v, y4, y5, y6, y7, y8⟩) := by rw [← hst, goSt hg, hj]; exact st ⟨y0, y1, y2, v, y4, y5, y6, y7, y8⟩
      have hxl2 : (xs.set 0 ⟨y0, y1, y2, v, y4, y5, y6, y7, y8⟩).length ≤ 13 := by rw [List.length_set]; exact hxl
      obtain ⟨xs, hxs⟩ : ∃ x, x = xs.set 0 ⟨y0, y1, y2, v, y4, y5, y6, y7, y8⟩ := ⟨_, rfl⟩
      rw [← hxs] at hxl2 hE2
      have hxl := hxl2
      obtain ⟨E, hEe⟩ : ∃ E, E = E2 := ⟨_, rfl⟩
      have hE : E = vw GItem.c xs := by rw [hEe, hE2]
      rw [← hEe]
      clear hst hxs hE2 hEe
      have pX : plainE E = true := by rw [hE]; exact vw_plain _ _
      refine callCu hg 0 (co _ _ _ hi1) rfl rfl fun i3 k3 res hi3 hq => ?_
      obtain ⟨o, rfl⟩ := hq
      cbv
      cases o <;> cbv
      · exact finCuRow hF rfl rfl (by decide) rfl pX ⟨_, rfl, _, _, _, hi3, rfl, rfl, pX, xs, hxl, by rw [hE]⟩
      · refine loop_runW hg fits (by kernel_rfl) (fun s : (List GItem × List (List AC)) × Int × Int => [(0, .t (.c (.ptr 0 0 0))), (3, .t (.c (.own 1)))]) (fun s => [.bx 76 3 (Cur V s.2.1 s.2.2), .rw ⟨35, 9, s.1.2⟩]) (fun s => s.1.1.length ≤ 13 ∧ s.1.2 = vw GItem.c s.1.1 ∧ 0 ≤ s.2.1) (fun s => 13 - s.1.1.length)
          ((xs, E), i3, k3) ⟨hxl, hE, hi3⟩ (Wk.weak (wkG [some 0, some 1] ⟨rfl, rfl, trivial⟩ ⟨⟨_, _, rfl, rfl, rfl, rfl, .inl ⟨rfl, rfl⟩⟩, ⟨_, _, rfl, rfl, rfl, rfl, .inl ⟨rfl, pX⟩⟩, trivial⟩ (by decide) (by decide))) (fun s B hs hB => ?_)
        obtain ⟨⟨xs, E⟩, i, h⟩ := s
        obtain ⟨hxl, hE, hi⟩ := hs
        dsimp only at hxl hE hi
        have pX : plainE E = true := by rw [hE]; exact vw_plain _ _
        have hel : E.length ≤ 1048576 := by rw [hE, vw_length]; omega
        have hln : g .ln E = (xs.length : Int) := by rw [goLn hg, hE, lenI_eq, vw_length]
        have tz : ∀ x : Int, 0 ≤ x → x < 2 → g .q .lss (g .ln E) (g .w .add .i64 12 x) = decide ((xs.length : Int) < 12 + x) := fun x h0 h1 => by
          rw [goLss hg, hln, goAdd hg, show wrap64 (12 + x) = 12 + x by unfold wrap64; omega]
        have fin : ∀ (x : Int), x < 2 → (xs.length : Int) < 12 + x → ∀ f : GItem, (xs ++ [f]).length ≤ 13 ∧ 13 - (xs ++ [f]).length < 13 - xs.length := fun x h1 h2 f => by
          rw [List.length_append, List.length_singleton]; omega
        cbv
        refine callCu hg 0 (cb _ _ _ hi) rfl rfl fun i1 k1 res hi1 hq => ?_
        obtain ⟨x, rfl, hx0, hx1, _⟩ := hq
        have hx2 := hx1 (by decide)
        have fin := fin x hx2
        cbv
        rw [tz x hx0 hx2]
        by_cases hzx : (xs.length : Int) < 12 + x
        · rw [decide_eq_true hzx]
          have fin := fin hzx
          cbv
          refine callCu hg 0 (cf _ _ hi1) rfl rfl fun i2 k2 res hi2 hq => ?_
          obtain ⟨⟨f0, f1, f2, f3, f4, f5, f6, f7, f8⟩, rfl⟩ := hq
          have aX : E ++ [lc (GItem.c ⟨f0, f1, f2, f3, f4, f5, f6, f7, f8⟩)] = vw GItem.c (xs ++ [⟨f0, f1, f2, f3, f4, f5, f6, f7, f8⟩]) := by rw [vw_snocD, hE]
          obtain ⟨fin1, fin2⟩ := fin ⟨f0, f1, f2, f3, f4, f5, f6, f7, f8⟩
          cbv
          refine goNA1 hg rfl (by decide) hel ?_
          cbv
          rw [goAp hg]
          subst hB
          exact ⟨((xs ++ [⟨f0, f1, f2, f3, f4, f5, f6, f7, f8⟩], _), i2, k2), ⟨fin1, aX, hi2⟩, fin2, Wk.weak (wkG [some 0, some 3] ⟨rfl, rfl, trivial⟩ ⟨⟨_, _, rfl, rfl, rfl, rfl, .inl ⟨rfl, rfl⟩⟩, ⟨_, _, rfl, rfl, rfl, rfl, .inl ⟨rfl, aX.symm ▸ vw_plain _ _⟩⟩, trivial⟩ (by decide) (by decide))⟩
        · rw [decide_eq_false hzx]
          cbv
          exact finCuRow hF rfl rfl (by decide) rfl pX ⟨_, rfl, _, _, _, hi1, rfl, rfl, pX, xs, hxl, by rw [hE]⟩
    cases q2 : g .q .eql b 2 <;> cbv
    rotate_left
    · refine callPickL hg (cp _ _ hi2) rfl rfl rfl rfl (by decide) fun i1 k1 v hi1 hv => ?_
      clear hv
      cbv
      refine goY hg (by decide) hEl fun j hj hjl => ?_
      cbv
      refine ⟨_, by rw [hj]; exact hEy, ?_⟩
      cbv
      generalize hst : g .st _ j _ = E2
      have hE2 : E2 = vw GItem.c (xs.set 0 ⟨y0, y1, v, y3, y4, y5, y6, y7, y8⟩) := by rw [← hst, goSt hg, hj]; exact st ⟨y0, y1, v, y3, y4, y5, y6, y7, y8⟩
      have hxl2 : (xs.set 0 ⟨y0, y1, v, y3, y4, y5, y6, y7, y8⟩).length ≤ 13 := by rw [List.length_set]; exact hxl
      obtain ⟨xs, hxs⟩ : ∃ x, x = xs.set 0 ⟨y0, y1, v, y3, y4, y5, y6, y7, y8⟩ := ⟨_, rfl⟩
      rw [← hxs] at hxl2 hE2
      have hxl := hxl2
      obtain ⟨E, hEe⟩ : ∃ E, E = E2 := ⟨_, rfl⟩
      have hE : E = vw GItem.c xs := by rw [hEe, hE2]
      rw [← hEe]
      clear hst hxs hE2 hEe
      have pX : plainE E = true := by rw [hE]; exact vw_plain _ _
      refine callCu hg 0 (co _ _ _ hi1) rfl rfl fun i3 k3 res hi3 hq => ?_
      obtain ⟨o, rfl⟩ := hq
      cbv
      cases o <;> cbv
      · exact finCuRow hF rfl rfl (by decide) rfl pX ⟨_, rfl, _, _, _, hi3, rfl, rfl, pX, xs, hxl, by rw [hE]⟩
      · refine loop_runW hg fits (by kernel_rfl) (fun s : (List GItem × List (List AC)) × Int × Int => [(0, .t (.c (.ptr 0 0 0))), (3, .t (.c (.own 1)))]) (fun s => [.bx 76 3 (Cur V s.2.1 s.2.2), .rw ⟨35, 9, s.1.2⟩]) (fun s => s.1.1.length ≤ 13 ∧ s.1.2 = vw GItem.c s.1.1 ∧ 0 ≤ s.2.1) (fun s => 13 - s.1.1.length)
          ((xs, E), i3, k3) ⟨hxl, hE, hi3⟩ (Wk.weak (wkG [some 0, some 1] ⟨rfl, rfl, trivial⟩ ⟨⟨_, _, rfl, rfl, rfl, rfl, .inl ⟨rfl, rfl⟩⟩, ⟨_, _, rfl, rfl, rfl, rfl, .inl ⟨rfl, pX⟩⟩, trivial⟩ (by decide) (by decide))) (fun s B hs hB => ?_)
        obtain ⟨⟨xs, E⟩, i, h⟩ := s
        obtain ⟨hxl, hE, hi⟩ := hs
        dsimp only at hxl hE hi
        have pX : plainE E = true := by rw [hE]; exact vw_plain _ _
        have hel : E.length ≤ 1048576 := by rw [hE, vw_length]; omega
        have hln : g .ln E = (xs.length : Int) := by rw [goLn hg, hE, lenI_eq, vw_length]
        have tz : ∀ x : Int, 0 ≤ x → x < 2 → g .q .lss (g .ln E) (g .w .add .i64 12 x) = decide ((xs.length : Int) < 12 + x) := fun x h0 h1 => by
          rw [goLss hg, hln, goAdd hg, show wrap64 (12 + x) = 12 + x by unfold wrap64; omega]
        have fin : ∀ (x : Int), x < 2 → (xs.length : Int) < 12 + x → ∀ f : GItem, (xs ++ [f]).length ≤ 13 ∧ 13 - (xs ++ [f]).length < 13 - xs.length := fun x h1 h2 f => by
          rw [List.length_append, List.length_singleton]; omega
        cbv
        refine callCu hg 0 (cb _ _ _ hi) rfl rfl fun i1 k1 res hi1 hq => ?_
        obtain ⟨x, rfl, hx0, hx1, _⟩ := hq
        have hx2 := hx1 (by decide)
        have fin := fin x hx2
        cbv
        rw [tz x hx0 hx2]
        by_cases hzx : (xs.length : Int) < 12 + x
        · rw [decide_eq_true hzx]
          have fin := fin hzx
          cbv
          refine callCu hg 0 (cf _ _ hi1) rfl rfl fun i2 k2 res hi2 hq => ?_
          obtain ⟨⟨f0, f1, f2, f3, f4, f5, f6, f7, f8⟩, rfl⟩ := hq
          have aX : E ++ [lc (GItem.c ⟨f0, f1, f2, f3, f4, f5, f6, f7, f8⟩)] = vw GItem.c (xs ++ [⟨f0, f1, f2, f3, f4, f5, f6, f7, f8⟩]) := by rw [vw_snocD, hE]
          obtain ⟨fin1, fin2⟩ := fin ⟨f0, f1, f2, f3, f4, f5, f6, f7, f8⟩
          cbv
          refine goNA1 hg rfl (by decide) hel ?_
          cbv
          rw [goAp hg]
          subst hB
          exact ⟨((xs ++ [⟨f0, f1, f2, f3, f4, f5, f6, f7, f8⟩], _), i2, k2), ⟨fin1, aX, hi2⟩, fin2, Wk.weak (wkG [some 0, some 3] ⟨rfl, rfl, trivial⟩ ⟨⟨_, _, rfl, rfl, rfl, rfl, .inl ⟨rfl, rfl⟩⟩, ⟨_, _, rfl, rfl, rfl, rfl, .inl ⟨rfl, aX.symm ▸ vw_plain _ _⟩⟩, trivial⟩ (by decide) (by decide))⟩
        · rw [decide_eq_false hzx]
          cbv
          exact finCuRow hF rfl rfl (by decide) rfl pX ⟨_, rfl, _, _, _, hi1, rfl, rfl, pX, xs, hxl, by rw [hE]⟩
    cases q3 : g .q .eql b 3 <;> cbv
    rotate_left
    · refine callPickL hg (cp _ _ hi2) rfl rfl rfl rfl (by decide) fun i1 k1 v hi1 hv => ?_
      clear hv
      cbv
      refine goY hg (by decide) hEl fun j hj hjl => ?_
      cbv
      refine ⟨_, by rw [hj]; exact hEy, ?_⟩
      cbv
      generalize hst : g .st _ j _ = E2
      have hE2 : E2 = vw GItem.c (xs.set 0 ⟨y0, y1, y2, y3, y4, v, y6, y7, y8⟩) := by rw [← hst, goSt hg, hj]; exact st ⟨y0, y1, y2, y3, y4, v, y6, y7, y8⟩
      have hxl2 : (xs.set 0 ⟨y0, y1, y2, y3, y4, v, y6, y7, y8⟩).length ≤ 13 := by rw [List.length_set]; exact hxl
      obtain ⟨xs, hxs⟩ : ∃ x, x = xs.set 0 ⟨y0, y1, y2, y3, y4, v, y6, y7, y8⟩ := ⟨_, rfl⟩
      rw [← hxs] at hxl2 hE2
      have hxl := hxl2
      obtain ⟨E, hEe⟩ : ∃ E, E = E2 := ⟨_, rfl⟩
      have hE : E = vw GItem.c xs := by rw [hEe, hE2]
      rw [← hEe]
      clear hst hxs hE2 hEe
      have pX : plainE E = true := by rw [hE]; exact vw_plain _ _
      refine callCu hg 0 (co _ _ _ hi1) rfl rfl fun i3 k3 res hi3 hq => ?_
      obtain ⟨o, rfl⟩ := hq
      cbv
      cases o <;> cbv
      · exact finCuRow hF rfl rfl (by decide) rfl pX ⟨_, rfl, _, _, _, hi3, rfl, rfl, pX, xs, hxl, by rw [hE]⟩
      · refine loop_runW hg fits (by kernel_rfl) (fun s : (List GItem × List (List AC)) × Int × Int => [(0, .t (.c (.ptr 0 0 0))), (3, .t (.c (.own 1)))]) (fun s => [.bx 76 3 (Cur V s.2.1 s.2.2), .rw ⟨35, 9, s.1.2⟩]) (fun s => s.1.1.length ≤ 13 ∧ s.1.2 = vw GItem.c s.1.1 ∧ 0 ≤ s.2.1) (fun s => 13 - s.1.1.length)
          ((xs, E), i3, k3) ⟨hxl, hE, hi3⟩ (Wk.weak (wkG [some 0, some 1] ⟨rfl, rfl, trivial⟩ ⟨⟨_, _, rfl, rfl, rfl, rfl, .inl ⟨rfl, rfl⟩⟩, ⟨_, _, rfl, rfl, rfl, rfl, .inl ⟨rfl, pX⟩⟩, trivial⟩ (by decide) (by decide))) (fun s B hs hB => ?_)
        obtain ⟨⟨xs, E⟩, i, h⟩ := s
        obtain ⟨hxl, hE, hi⟩ := hs
        dsimp only at hxl hE hi
        have pX : plainE E = true := by rw [hE]; exact vw_plain _ _
        have hel : E.length ≤ 1048576 := by rw [hE, vw_length]; omega
        have hln : g .ln E = (xs.length : Int) := by rw [goLn hg, hE, lenI_eq, vw_length]
        have tz : ∀ x : Int, 0 ≤ x → x < 2 → g .q .lss (g .ln E) (g .w .add .i64 12 x) = decide ((xs.length : Int) < 12 + x) := fun x h0 h1 => by
          rw [goLss hg, hln, goAdd hg, show wrap64 (12 + x) = 12 + x by unfold wrap64; omega]
        have fin : ∀ (x : Int), x < 2 → (xs.length : Int) < 12 + x → ∀ f : GItem, (xs ++ [f]).length ≤ 13 ∧ 13 - (xs ++ [f]).length < 13 - xs.length := fun x h1 h2 f => by
          rw [List.length_append, List.length_singleton]; omega
        cbv
        refine callCu hg 0 (cb _ _ _ hi) rfl rfl fun i1 k1 res hi1 hq => ?_
        obtain ⟨x, rfl, hx0, hx1, _⟩ := hq
        have hx2 := hx1 (by decide)
        have fin := fin x hx2
        cbv
        rw [tz x hx0 hx2]
        by_cases hzx : (xs.length : Int) < 12 + x
        · rw [decide_eq_true hzx]
          have fin := fin hzx
          cbv
          refine callCu hg 0 (cf _ _ hi1) rfl rfl fun i2 k2 res hi2 hq => ?_
          obtain ⟨⟨f0, f1, f2, f3, f4, f5, f6, f7, f8⟩, rfl⟩ := hq
          have aX : E ++ [lc (GItem.c ⟨f0, f1, f2, f3, f4, f5, f6, f7, f8⟩)] = vw GItem.c (xs ++ [⟨f0, f1, f2, f3, f4, f5, f6, f7, f8⟩]) := by rw [vw_snocD, hE]
          obtain ⟨fin1, fin2⟩ := fin ⟨f0, f1, f2, f3, f4, f5, f6, f7, f8⟩
          cbv
          refine goNA1 hg rfl (by decide) hel ?_
          cbv
          rw [goAp hg]
          subst hB
          exact ⟨((xs ++ [⟨f0, f1, f2, f3, f4, f5, f6, f7, f8⟩], _), i2, k2), ⟨fin1, aX, hi2⟩, fin2, Wk.weak (wkG [some 0, some 3] ⟨rfl, rfl, trivial⟩ ⟨⟨_, _, rfl, rfl, rfl, rfl, .inl ⟨rfl, rfl⟩⟩, ⟨_, _, rfl, rfl, rfl, rfl, .inl ⟨rfl, aX.symm ▸ vw_plain _ _⟩⟩, trivial⟩ (by decide) (by decide))⟩
        · rw [decide_eq_false hzx]
          cbv
          exact finCuRow hF rfl rfl (by decide) rfl pX ⟨_, rfl, _, _, _, hi1, rfl, rfl, pX, xs, hxl, by rw [hE]⟩
    · have hi1 := hi2
      have pX : plainE E = true := by rw [hE]; exact vw_plain _ _
      refine callCu hg 0 (co _ _ _ hi1) rfl rfl fun i3 k3 res hi3 hq => ?_
      obtain ⟨o, rfl⟩ := hq
      cbv
      cases o <;> cbv
      · exact finCuRow hF rfl rfl (by decide) rfl pX ⟨_, rfl, _, _, _, hi3, rfl, rfl, pX, xs, hxl, by rw [hE]⟩
      · refine loop_runW hg fits (by kernel_rfl) (fun s : (List GItem × List (List AC)) × Int × Int => [(0, .t (.c (.ptr 0 0 0))), (3, .t (.c (.own 1)))]) (fun s => [.bx 76 3 (Cur V s.2.1 s.2.2), .rw ⟨35, 9, s.1.2⟩]) (fun s => s.1.1.length ≤ 13 ∧ s.1.2 = vw GItem.c s.1.1 ∧ 0 ≤ s.2.1) (fun s => 13 - s.1.1.length)
          ((xs, E), i3, k3) ⟨hxl, hE, hi3⟩ (Wk.weak (wkG [some 0, some 1] ⟨rfl, rfl, trivial⟩ ⟨⟨_, _, rfl, rfl, rfl, rfl, .inl ⟨rfl, rfl⟩⟩, ⟨_, _, rfl, rfl, rfl, rfl, .inl ⟨rfl, pX⟩⟩, trivial⟩ (by decide) (by decide))) (fun s B hs hB => ?_)
        obtain ⟨⟨xs, E⟩, i, h⟩ := s
        obtain ⟨hxl, hE, hi⟩ := hs
        dsimp only at hxl hE hi
        have pX : plainE E = true := by rw [hE]; exact vw_plain _ _
        have hel : E.length ≤ 1048576 := by rw [hE, vw_length]; omega
        have hln : g .ln E = (xs.length : Int) := by rw [goLn hg, hE, lenI_eq, vw_length]
        have tz : ∀ x : Int, 0 ≤ x → x < 2 → g .q .lss (g .ln E) (g .w .add .i64 12 x) = decide ((xs.length : Int) < 12 + x) := fun x h0 h1 => by
          rw [goLss hg, hln, goAdd hg, show wrap64 (12 + x) = 12 + x by unfold wrap64; omega]
        have fin : ∀ (x : Int), x < 2 → (xs.length : Int) < 12 + x → ∀ f : GItem, (xs ++ [f]).length ≤ 13 ∧ 13 - (xs ++ [f]).length < 13 - xs.length := fun x h1 h2 f => by
          rw [List.length_append, List.length_singleton]; omega
        cbv
        refine callCu hg 0 (cb _ _ _ hi) rfl rfl fun i1 k1 res hi1 hq => ?_
        obtain ⟨x, rfl, hx0, hx1, _⟩ := hq
        have hx2 := hx1 (by decide)
        have fin := fin x hx2
        cbv
        rw [tz x hx0 hx2]
        by_cases hzx : (xs.length : Int) < 12 + x
        · rw [decide_eq_true hzx]
          have fin := fin hzx
          cbv
          refine callCu hg 0 (cf _ _ hi1) rfl rfl fun i2 k2 res hi2 hq => ?_
          obtain ⟨⟨f0, f1, f2, f3, f4, f5, f6, f7, f8⟩, rfl⟩ := hq
          have aX : E ++ [lc (GItem.c ⟨f0, f1, f2, f3, f4, f5, f6, f7, f8⟩)] = vw GItem.c (xs ++ [⟨f0, f1, f2, f3, f4, f5, f6, f7, f8⟩]) := by rw [vw_snocD, hE]
          obtain ⟨fin1, fin2⟩ := fin ⟨f0, f1, f2, f3, f4, f5, f6, f7, f8⟩
          cbv
          refine goNA1 hg rfl (by decide) hel ?_
          cbv
          rw [goAp hg]
          subst hB
          exact ⟨((xs ++ [⟨f0, f1, f2, f3, f4, f5, f6, f7, f8⟩], _), i2, k2), ⟨fin1, aX, hi2⟩, fin2, Wk.weak (wkG [some 0, some 3] ⟨rfl, rfl, trivial⟩ ⟨⟨_, _, rfl, rfl, rfl, rfl, .inl ⟨rfl, rfl⟩⟩, ⟨_, _, rfl, rfl, rfl, rfl, .inl ⟨rfl, aX.symm ▸ vw_plain _ _⟩⟩, trivial⟩ (by decide) (by decide))⟩
        · rw [decide_eq_false hzx]
          cbv
          exact finCuRow hF rfl rfl (by decide) rfl pX ⟨_, rfl, _, _, _, hi1, rfl, rfl, pX, xs, hxl, by rw [hE]⟩
  · rw [decide_eq_false hx0]
    cbv
    have hi2 := hi1
    have pX : plainE E = true := by rw [hE]; exact vw_plain _ _
    refine callCu hg 0 (co _ _ _ hi1) rfl rfl fun i3 k3 res hi3 hq => ?_
    obtain ⟨o, rfl⟩ := hq
    cbv
    cases o <;> cbv
    · exact finCuRow hF rfl rfl (by decide) rfl pX ⟨_, rfl, _, _, _, hi3, rfl, rfl, pX, xs, hxl, by rw [hE]⟩
    · refine loop_runW hg fits (by kernel_rfl) (fun s : (List GItem × List (List AC)) × Int × Int => [(0, .t (.c (.ptr 0 0 0))), (3, .t (.c (.own 1)))]) (fun s => [.bx 76 3 (Cur V s.2.1 s.2.2), .rw ⟨35, 9, s.1.2⟩]) (fun s => s.1.1.length ≤ 13 ∧ s.1.2 = vw GItem.c s.1.1 ∧ 0 ≤ s.2.1) (fun s => 13 - s.1.1.length)
        ((xs, E), i3, k3) ⟨hxl, hE, hi3⟩ (Wk.weak (wkG [some 0, some 1] ⟨rfl, rfl, trivial⟩ ⟨⟨_, _, rfl, rfl, rfl, rfl, .inl ⟨rfl, rfl⟩⟩, ⟨_, _, rfl, rfl, rfl, rfl, .inl ⟨rfl, pX⟩⟩, trivial⟩ (by decide) (by decide))) (fun s B hs hB => ?_)
      obtain ⟨⟨xs, E⟩, i, h⟩ := s
      obtain ⟨hxl, hE, hi⟩ := hs
      dsimp only at hxl hE hi
      have pX : plainE E = true := by rw [hE]; exact vw_plain _ _
      have hel : E.length ≤ 1048576 := by rw [hE, vw_length]; omega
      have hln : g .ln E = (xs.length : Int) := by rw [goLn hg, hE, lenI_eq, vw_length]
      have tz : ∀ x : Int, 0 ≤ x → x < 2 → g .q .lss (g .ln E) (g .w .add .i64 12 x) = decide ((xs.length : Int) < 12 + x) := fun x h0 h1 => by
        rw [goLss hg, hln, goAdd hg, show wrap64 (12 + x) = 12 + x by unfold wrap64; omega]
      have fin : ∀ (x : Int), x < 2 → (xs.length : Int) < 12 + x → ∀ f : GItem, (xs ++ [f]).length ≤ 13 ∧ 13 - (xs ++ [f]).length < 13 - xs.length := fun x h1 h2 f => by
        rw [List.length_append, List.length_singleton]; omega
      cbv
      refine callCu hg 0 (cb _ _ _ hi) rfl rfl fun i1 k1 res hi1 hq => ?_
      obtain ⟨x, rfl, hx0, hx1, _⟩ := hq
      have hx2 := hx1 (by decide)
      have fin := fin x hx2
      cbv
      rw [tz x hx0 hx2]
      by_cases hzx : (xs.length : Int) < 12 + x
      · rw [decide_eq_true hzx]
        have fin := fin hzx
        cbv
        refine callCu hg 0 (cf _ _ hi1) rfl rfl fun i2 k2 res hi2 hq => ?_
        obtain ⟨⟨f0, f1, f2, f3, f4, f5, f6, f7, f8⟩, rfl⟩ := hq
        have aX : E ++ [lc (GItem.c ⟨f0, f1, f2, f3, f4, f5, f6, f7, f8⟩)] = vw GItem.c (xs ++ [⟨f0, f1, f2, f3, f4, f5, f6, f7, f8⟩]) := by rw [vw_snocD, hE]
        obtain ⟨fin1, fin2⟩ := fin ⟨f0, f1, f2, f3, f4, f5, f6, f7, f8⟩
        cbv
        refine goNA1 hg rfl (by decide) hel ?_
        cbv
        rw [goAp hg]
        subst hB
        exact ⟨((xs ++ [⟨f0, f1, f2, f3, f4, f5, f6, f7, f8⟩], _), i2, k2), ⟨fin1, aX, hi2⟩, fin2, Wk.weak (wkG [some 0, some 3] ⟨rfl, rfl, trivial⟩ ⟨⟨_, _, rfl, rfl, rfl, rfl, .inl ⟨rfl, rfl⟩⟩, ⟨_, _, rfl, rfl, rfl, rfl, .inl ⟨rfl, aX.symm ▸ vw_plain _ _⟩⟩, trivial⟩ (by decide) (by decide))⟩
      · rw [decide_eq_false hzx]
        cbv
        exact finCuRow hF rfl rfl (by decide) rfl pX ⟨_, rfl, _, _, _, hi1, rfl, rfl, pX, xs, hxl, by rw [hE]⟩

end Go.Proofs.Ytcohgnecmgcajaa
