/- Draws of lines: items, sizes, gaps. -/
import Derived.Test.YtcohgnecmgcajaaH2
import Derived.Test.YtcohgnecmgcajaaC6
namespace Go.Proofs.Ytcohgnecmgcajaa
open Go.ChangeShapes Go.WideShapes Go.ChangeAt Go.RowKit Am
set_option linter.unusedVariables false
set_option linter.unusedSimpArgs false
set_option maxRecDepth 100000
theorem finR1 {F : List AT → EH → Prop} {Post : AV → List AB → Prop} {eh : EH} {u v : Value} {r : Nat} {ab : AB} (hF : F = FinP 0 (fun res h' => ∃ rows, h' = rows.map .live ∧ Post res rows)) (h1 : nth eh r = some (.rw ab)) (hp : plainE ab.es = true) (hpost : Post (.tup [.c (.own 0), .c (.imm u), .c (.imm v)]) [ab]) : F [.c (.own r), .c (.imm u), .c (.imm v)] eh := by
  subst hF
  exact .inl ⟨.tup [.c (.own 0), .c (.imm u), .c (.imm v)], toH [.rw ab], [some r], wkG [some r] ⟨⟨rfl, rfl, rfl, trivial⟩, trivial⟩ ⟨⟨_, _, nth_rw h1, rfl, rfl, rfl, .inl ⟨rfl, hp⟩⟩, trivial⟩ (by simp) no_lt, _, rfl, hpost⟩
theorem finR2 {F : List AT → EH → Prop} {Post : AV → List AB → Prop} {eh : EH} {u v z : Value} {r q : Nat} {ab cb : AB} (hF : F = FinP 0 (fun res h' => ∃ rows, h' = rows.map .live ∧ Post res rows)) (h1 : nth eh r = some (.rw ab)) (h2 : nth eh q = some (.rw cb)) (hne : r ≠ q) (hp : plainE ab.es = true) (hq : plainE cb.es = true) (hpost : Post (.tup [.c (.own 0), .c (.own 1), .c (.imm u), .c (.imm v), .c (.imm z)]) [ab, cb]) : F [.c (.own r), .c (.own q), .c (.imm u), .c (.imm v), .c (.imm z)] eh := by
  subst hF
  exact .inl ⟨.tup [.c (.own 0), .c (.own 1), .c (.imm u), .c (.imm v), .c (.imm z)], toH [.rw ab, .rw cb], [some r, some q], wkG [some r, some q] ⟨⟨rfl, rfl, rfl, rfl, rfl, trivial⟩, trivial⟩ ⟨⟨_, _, nth_rw h1, rfl, rfl, rfl, .inl ⟨rfl, hp⟩⟩, ⟨_, _, nth_rw h2, rfl, rfl, rfl, .inl ⟨rfl, hq⟩⟩, trivial⟩ (by simpa using hne) no_lt, _, rfl, hpost⟩
theorem finR2w {F : List AT → EH → Prop} {Post : AV → List AB → Prop} {eh : EH} {u v : Value} {r q : Nat} {ab cb : AB} (hF : F = FinP 0 (fun res h' => ∃ rows, h' = rows.map .live ∧ Post res rows)) (h1 : nth eh r = some (.rw ab)) (h2 : nth eh q = some (.rw cb)) (hne : r ≠ q) (hp : plainE ab.es = true) (hq : plainE cb.es = true) (hpost : Post (.tup [.c (.own 0), .c (.own 1), .c (.imm u), .c (.imm v)]) [ab, cb]) : F [.c (.own r), .c (.own q), .c (.imm u), .c (.imm v)] eh := by
  subst hF
  exact .inl ⟨.tup [.c (.own 0), .c (.own 1), .c (.imm u), .c (.imm v)], toH [.rw ab, .rw cb], [some r, some q], wkG [some r, some q] ⟨⟨rfl, rfl, rfl, rfl, trivial⟩, trivial⟩ ⟨⟨_, _, nth_rw h1, rfl, rfl, rfl, .inl ⟨rfl, hp⟩⟩, ⟨_, _, nth_rw h2, rfl, rfl, rfl, .inl ⟨rfl, hq⟩⟩, trivial⟩ (by simpa using hne) no_lt, _, rfl, hpost⟩
theorem finR2v {F : List AT → EH → Prop} {Post : AV → List AB → Prop} {eh : EH} {r q : Nat} {ab cb : AB} (hF : F = FinP 0 (fun res h' => ∃ rows, h' = rows.map .live ∧ Post res rows)) (h1 : nth eh r = some (.rw ab)) (h2 : nth eh q = some (.rw cb)) (hne : r ≠ q) (hp : plainE ab.es = true) (hq : plainE cb.es = true) (hpost : Post (.tup [.c (.own 0), .c (.own 1)]) [ab, cb]) : F [.c (.own r), .c (.own q)] eh := by
  subst hF
  exact .inl ⟨.tup [.c (.own 0), .c (.own 1)], toH [.rw ab, .rw cb], [some r, some q], wkG [some r, some q] ⟨⟨rfl, rfl, trivial⟩, trivial⟩ ⟨⟨_, _, nth_rw h1, rfl, rfl, rfl, .inl ⟨rfl, hp⟩⟩, ⟨_, _, nth_rw h2, rfl, rfl, rfl, .inl ⟨rfl, hq⟩⟩, trivial⟩ (by simpa using hne) no_lt, _, rfl, hpost⟩
theorem spec_l13Case_a (bs : List Int) (hl : bs.length ≤ 1048576) : PCon Try.prog 26 [.c (.view (vw bytC bs))] fun res rows => ∃ (xs : List GItem) (gap inner : Int), xs.length ≤ 13 ∧ (inner = wrap64 (outer xs (xs.map hyp) 0) ∨ -1 ≤ inner ∧ inner ≤ 1048576) ∧ res = .tup [.c (.own 0), ai gap, ai inner] ∧ rows = [⟨35, 9, vw GItem.c xs⟩] := by
  have cn := spec_l01New_a bs hl
  have cp := fun (i h : Int) (hi : 0 ≤ i) (ls : List Int) (h0 : ls ≠ []) => spec_l01PickInt_a bs hl i h hi ls h0
  have ci := fun (i h : Int) (hi : 0 ≤ i) => spec_l13Any_a bs hl i h hi
  obtain ⟨V, hV⟩ : ∃ V, V = vw bytC bs := ⟨_, rfl⟩
  simp only [← hV] at cn cp ci ⊢
  refine pcon_run (c := body Try.f26) fits Try.func26 (by kernel_rfl) (by kernel_rfl) (by rfl) (by kernel_rfl) fun g F hg hF => ?_
  cbv
  refine callNew hg cn fun hv => ?_
  cbv
  refine callCuRow hg 0 (ci _ _ (Int.le_refl 0)) rfl rfl fun i1 k1 ab hi1 pE hR => ?_
  obtain ⟨xs, hxl, rfl⟩ := hR
  have c1 := spec_l13Hyps_a xs (by omega)
  have c2 := spec_OuterOf_a xs (xs.map hyp) 0 (by omega) (by rw [List.length_map]; omega)
  obtain ⟨O, hO⟩ : ∃ O, O = wrap64 (outer xs (xs.map hyp) 0) := ⟨_, rfl⟩
  obtain ⟨E, hE⟩ : ∃ E, E = vw GItem.c xs := ⟨_, rfl⟩
  have hEl : E.length = xs.length := by rw [hE, vw_length]
  have iE : immE E = true := by rw [hE]; exact vw_imm _ _
  have kE : ∀ y ∈ E, y.length = 9 := by rw [hE]; exact vw_k (c := GItem.c) (k := 9) fun _ => rfl
  have dE : ∀ y ∈ E, y.all dat = true := by rw [hE]; exact vw_dat
  obtain ⟨H, hH⟩ : ∃ H, H = vw intC (xs.map hyp) := ⟨_, rfl⟩
  have hHl : H.length = (xs.map hyp).length := by rw [hH, vw_length]
  have iH : immE H = true := by rw [hH]; exact vw_imm _ _
  have kH : ∀ y ∈ H, y.length = 1 := by rw [hH]; exact vw_k (c := intC) (k := 1) fun _ => rfl
  have dH : ∀ y ∈ H, y.all dat = true := by rw [hH]; exact vw_dat
  rw [← hO, ← hE, ← hH] at c2
  rw [← hE, ← hH] at c1
  have fin : ∀ v : Int, v ∈ [0, 640, 1000, 2000, 3333, O, 1048576, -1] → v = O ∨ -1 ≤ v ∧ v ≤ 1048576 := fun v hv => by
    simp only [List.mem_cons, List.not_mem_nil, or_false] at hv; omega
  rw [← hE]
  rw [← hE] at pE
  cbv
  refine callPickL hg (cp _ _ hi1) rfl rfl rfl rfl (by decide) fun i2 k2 gap hi2 hv => ?_
  clear hv
  cbv
  first | (refine callRow hg c1 (resA_c (resRow (ab := ⟨_, _, E⟩) rfl kE dE) (resA_nil)) iH ?_; cbv) | (refine callRowP hg c1 (resA_c (resRow (ab := ⟨_, _, E⟩) rfl kE dE) (resA_nil)) iH ?_; cbv)
  first | (refine callR hg c2 (resA_c (resRow (ab := ⟨_, _, E⟩) rfl kE dE) (resA_c (resRow (ab := ⟨_, _, H⟩) rfl kH dH) (resA_c (resDat rfl) (resA_nil)))) rfl ?_; cbv) | (refine callRP hg c2 (resA_c (resRow (ab := ⟨_, _, E⟩) rfl kE dE) (resA_c (resRow (ab := ⟨_, _, H⟩) rfl kH dH) (resA_c (resDat rfl) (resA_nil)))) rfl ?_; cbv)
  refine callPickL hg (cp _ _ hi2) rfl rfl rfl rfl (by decide) fun i3 k3 inner hi3 hv => ?_
  have hin := fin _ hv
  clear hv
  cbv
  exact finR1 hF rfl pE ⟨xs, gap, inner, hxl, hO ▸ hin, rfl, by rw [hE]⟩
theorem spec_DrawCanFlex_a (bs : List Int) (hl : bs.length ≤ 1048576) : PCon Try.prog 5 [.c (.view (vw bytC bs))] fun res rows => ∃ (xs : List GItem) (gap inner : Int), xs.length ≤ 13 ∧ (inner = wrap64 (outer xs (xs.map hyp) 0) ∨ -1 ≤ inner ∧ inner ≤ 1048576) ∧ res = .tup [.c (.own 0), ai gap, ai inner] ∧ rows = [⟨35, 9, vw GItem.c xs⟩] := by
  have cn := spec_l13Case_a bs hl
  obtain ⟨V, hV⟩ : ∃ V, V = vw bytC bs := ⟨_, rfl⟩
  simp only [← hV] at cn ⊢
  refine pcon_run (c := body Try.f5) fits Try.func5 (by kernel_rfl) (by kernel_rfl) (by rfl) (by kernel_rfl) fun g F hg hF => ?_
  cbv
  refine callC hg (pcall_pure cn rfl fun res rows hq => ?_)
  obtain ⟨xs, gap, inner, h1, h2, rfl, rfl⟩ := hq
  obtain ⟨E, hE⟩ : ∃ E, E = vw GItem.c xs := ⟨_, rfl⟩
  have pE : plainE E = true := by rw [hE]; exact vw_plain _ _
  rw [← hE]
  refine ⟨[.rw ⟨35, 9, E⟩], by simp only [List.map_cons, List.map_nil, shift_row (ab := ⟨35, 9, E⟩) pE]; rfl, ?_⟩
  cbv
  exact finR1 hF rfl pE ⟨xs, gap, inner, h1, h2, rfl, by rw [hE]⟩
theorem spec_DrawItemOk_a (bs : List Int) (hl : bs.length ≤ 1048576) : PCon Try.prog 35 [.c (.view (vw bytC bs))] fun res rows => (∃ x : GItem, res = .t (.agg (lc (GItem.c x)))) ∧ rows = [] := by
  have cn := spec_l01New_a bs hl
  have cf := fun (i h : Int) (hi : 0 ≤ i) => spec_l13Item_a bs hl i h hi
  have ci := fun (i h : Int) (hi : 0 ≤ i) => spec_l13Any_a bs hl i h hi
  obtain ⟨V, hV⟩ : ∃ V, V = vw bytC bs := ⟨_, rfl⟩
  simp only [← hV] at cn cf ci ⊢
  refine pcon_run (c := body Try.f35) fits Try.func35 (by kernel_rfl) (by kernel_rfl) (by rfl) (by kernel_rfl) fun g F hg hF => ?_
  cbv
  refine callNew hg cn fun hv => ?_
  cbv
  refine callCuRow hg 1 (ci _ _ (Int.le_refl 0)) rfl rfl fun i1 k1 ab hi1 pE hR => ?_
  obtain ⟨xs, hxl, rfl⟩ := hR
  obtain ⟨E, hE⟩ : ∃ E, E = vw GItem.c xs := ⟨_, rfl⟩
  rw [← hE]
  have t0 : g .q .eql (g .ln E) 0 = decide ((xs.length : Int) = 0) := by rw [goEql hg, goLn hg, hE, lenI_eq, vw_length]; exact (Bool.beq_eq_decide_eq _ _)
  cbv
  rw [t0]
  by_cases hx0 : (xs.length : Int) = 0
  · rw [decide_eq_true hx0]
    cbv
    refine callCu hg 1 (cf _ _ hi1) rfl rfl fun i2 k2 res hi2 hq => ?_
    obtain ⟨⟨f0, f1, f2, f3, f4, f5, f6, f7, f8⟩, rfl⟩ := hq
    cbv
    exact fin0 hF rfl ⟨⟨⟨f0, f1, f2, f3, f4, f5, f6, f7, f8⟩, rfl⟩, rfl⟩
  · rw [decide_eq_false hx0]
    obtain ⟨y, hy⟩ : ∃ y, xs[0]? = some y := ⟨_, List.getElem?_eq_getElem (by omega)⟩
    have hEy : E[(0 : Int).toNat]? = some (lc (GItem.c y)) := by rw [hE]; exact vw_at hy
    have hEl : (0 : Int) < lenI E := by rw [hE, lenI_eq, vw_length]; omega
    obtain ⟨y0, y1, y2, y3, y4, y5, y6, y7, y8⟩ := y
    cbv
    refine goY hg (by decide) hEl fun j hj hjl => ?_
    cbv
    refine ⟨_, by rw [hj]; exact hEy, ?_⟩
    cbv
    exact fin0 hF rfl ⟨⟨⟨y0, y1, y2, y3, y4, y5, y6, y7, y8⟩, rfl⟩, rfl⟩
set_option maxHeartbeats 4000000 in
theorem spec_DrawAtBound_a (bs : List Int) (hl : bs.length ≤ 1048576) : PCon Try.prog 11 [.c (.view (vw bytC bs))] fun res rows => (∃ (x : GItem) (s : Int), res = .tup [.agg (lc (GItem.c x)), ai s]) ∧ rows = [] := by
  have cn := spec_l01New_a bs hl
  have cp := fun (i h : Int) (hi : 0 ≤ i) (ls : List Int) (h0 : ls ≠ []) => spec_l01PickInt_a bs hl i h hi ls h0
  have cd := spec_DrawItemOk_a bs hl
  obtain ⟨V, hV⟩ : ∃ V, V = vw bytC bs := ⟨_, rfl⟩
  simp only [← hV] at cn cp cd ⊢
  refine pcon_run3 ([(3, 11, [0], [([], .op 11 (.op 12 (.op 13 .done .none) .none) .none), ([0], .op 0 (.op 11 (.op 12 (.op 13 .done .none) .none) .none) (.op 11 (.op 0 (.op 12 (.op 13 .done .none) .none) .none) .none))])]) (c := body Try.f11) fits Try.func11 (by kernel_rfl) (by kernel_rfl) (by rfl) (by kernel_rfl) fun g F hg hF => ?_
  cbv
  refine callC hg (pcall_pure cd rfl fun res rows hq => ?_)
  obtain ⟨⟨⟨y0, y1, y2, y3, y4, y5, y6, y7, y8⟩, rfl⟩, rfl⟩ := hq
  refine ⟨[], rfl, ?_⟩
  cbv
  refine callNew hg cn fun hv => ?_
  cbv
  (first | refine callI hg (spec_HypOf_a ⟨y0, y1, y2, y3, y4, y5, y6, y7, y8⟩) rfl (fun HY hHY => ?_) | refine callIP hg (spec_HypOf_a ⟨y0, y1, y2, y3, y4, y5, y6, y7, y8⟩) rfl (fun HY hHY => ?_)); cbv
  clear hHY
  repeat' first
    | exact trivial
    | (refine callPickL hg (cp _ _ (Int.le_refl 0)) rfl rfl rfl rfl (by decide) fun i3 k3 v hi3 hv => ?_; clear hv; cbv)
    | exact fin0 hF rfl ⟨⟨⟨y0, y1, y2, y3, y4, y5, y6, y7, y8⟩, _, rfl⟩, rfl⟩
    | refine ⟨?_, ?_⟩

end Go.Proofs.Ytcohgnecmgcajaa
