/- Draws: picks out of a list, frames, lists of frames and of places. -/
import Derived.Test.YtacngamcjgkjkaaD1
import Derived.Test.YtacngamcjgkjkaaC7
namespace Go.Proofs.Ytacngamcjgkjkaa
open Go.ChangeShapes Go.WideShapes Go.ChangeAt Go.RowKit Am
set_option linter.unusedVariables false
set_option linter.unusedSimpArgs false
set_option maxRecDepth 100000
theorem vw_snocD {α : Type} (c : α → Array Value) (xs : List α) (x : α) : vw c (xs ++ [x]) = vw c xs ++ [lc (c x)] := by simp [vw]
theorem set_same {α : Type} {H : List α} {q : Nat} {y : α} (h : H[q]? = some y) : H.set q y = H := by
  refine List.ext_getElem? fun j => ?_
  rw [List.getElem?_set]
  split
  · rename_i hj; subst hj
    split
    · exact h.symm
    · rename_i hn; rw [List.getElem?_eq_none (by omega)] at h; cases h
  · rfl
section
variable {n0 N : Nat} {g : Gd}
/-- The end of a function that was told of the cursor and of one row. -/
theorem finCuR {F : List AT → EH → Prop} {Post : AV → AH → Prop} {xs : List AT} {eh : EH} {t k : Nat} {c : List AC} {ab : AB} (hF : F = FinP 2 Post) (h0 : nth eh 0 = some (.bx t k c)) (h1 : nth eh 1 = some (.rw ab)) (hc : c.all plain = true) (hp : plainE ab.es = true) (hx : plainV (mkV xs) = true) (hpost : Post (mkV xs) (toH [.bx t k c, .rw ab])) : F xs eh := by
  subst hF
  exact .inl ⟨mkV xs, toH [.bx t k c, .rw ab], [some 0, some 1], wkG [some 0, some 1] ⟨rnV_plain hx, trivial⟩ ⟨⟨_, _, nth_bx h0, rfl, rfl, rfl, .inl ⟨rfl, by simpa [plainE] using hc⟩⟩, ⟨_, _, nth_rw h1, rfl, rfl, rfl, .inl ⟨rfl, hp⟩⟩, trivial⟩ (by decide) (by decide), hpost⟩
theorem finOI {F : List AT → EH → Prop} {Post : AV → List AB → Prop} {eh : EH} {u : Value} {r : Nat} {ab : AB} (hF : F = FinP 0 (fun res h' => ∃ rows, h' = rows.map .live ∧ Post res rows)) (h1 : nth eh r = some (.rw ab)) (hp : plainE ab.es = true) (hpost : Post (.tup [.c (.own 0), .c (.imm u)]) [ab]) : F [.c (.own r), .c (.imm u)] eh := by
  subst hF
  exact .inl ⟨.tup [.c (.own 0), .c (.imm u)], toH [.rw ab], [some r], wkG [some r] ⟨⟨rfl, rfl, trivial⟩, trivial⟩ ⟨⟨_, _, nth_rw h1, rfl, rfl, rfl, .inl ⟨rfl, hp⟩⟩, trivial⟩ (by simp) no_lt, _, rfl, hpost⟩
theorem callPick (hg : g = G0 Try.prog n0 N) {H : EH} (r q : Nat) {f : FuncId} {tc ti : Nat} {V : List (List AC)} {i h : Int} {ls : List Int} {K : AV → EH → Prop}
    (hc : Con Try.prog f (toH [.bx tc 3 (Cur V i h), .rw ⟨ti, 1, vw intC ls⟩]) [.c (.ptr 0 0 0), .c (.own 1)] fun res h' => ∃ eh, toH eh = h' ∧ ∃ i' k' v, 0 ≤ i' ∧ eh = [.bx tc 3 (Cur V i' k'), .rw ⟨ti, 1, vw intC ls⟩] ∧ res = .t (ai v) ∧ v ∈ ls)
    (hr : nth H r = some (.bx tc 3 (Cur V i h))) (hq : nth H q = some (.rw ⟨ti, 1, vw intC ls⟩)) (hne : r ≠ q)
    (hK : ∀ (i' k' v : Int), 0 ≤ i' → v ∈ ls → K (.t (ai v)) (setL H r (.bx tc 3 (Cur V i' k')))) : g .C f H [.c (.ptr r 0 0), .c (.own q)] K := by
  have hrl : r < H.length := by rw [nth_eq] at hr; exact (List.getElem?_eq_some_iff.1 hr).1
  have hql : q < H.length := by rw [nth_eq] at hq; exact (List.getElem?_eq_some_iff.1 hq).1
  refine callH hg [r, q] hc (by simpa using hne) (fun x hx => by simp only [List.mem_cons, List.not_mem_nil, or_false] at hx; omega) ⟨⟨_, _, rfl, by rw [hr]; rfl, rfl, rfl, .inl ⟨rfl, rfl⟩⟩, ⟨_, _, rfl, by rw [hq]; rfl, rfl, rfl, .inl ⟨rfl, vw_plain _ _⟩⟩, trivial⟩ ⟨rfl, rfl, trivial⟩ fun res eh ⟨i', k', v, h1, h2, h3, h4⟩ => ?_
  subst h2 h3
  have := hK i' k' v h1 h4
  rw [setL_eq] at this
  have e1 : AB.mv (plc [r, q] H.length) ⟨ti, 1, vw intC ls⟩ = ⟨ti, 1, vw intC ls⟩ := by
    refine congrArg (AB.mk ti 1) ?_
    refine (List.map_congr_left fun x hx => ?_).trans (List.map_id _)
    refine (List.map_congr_left fun c hc => ?_).trans (List.map_id x)
    have hp := List.all_eq_true.1 (List.all_eq_true.1 (vw_plain intC ls) x hx) c hc
    cases c <;> first | rfl | cases hp
  simp only [putBack, EE.mv, e1, List.map_nil, List.append_nil, List.map_cons, AC.mv]
  have e2 : (H.set r (.bx tc 3 (Cur V i' k'))).set q (.rw ⟨ti, 1, vw intC ls⟩) = H.set r (.bx tc 3 (Cur V i' k')) := set_same (by rw [List.getElem?_set_ne hne, ← nth_eq]; exact hq)
  have e3 : K (AV.mv (plc [r, q] (List.length H)) (.t (ai v))) ((H.set r (.bx tc 3 (Cur V i' k'))).set q (.rw ⟨ti, 1, vw intC ls⟩)) := by rw [e2]; exact this
  exact e3
theorem callNew (hg : g = G0 Try.prog n0 N) {H : EH} {f : FuncId} {tc : Nat} {V : List (List AC)} {K : AV → EH → Prop} (hc : PCon Try.prog f [.c (.view V)] fun res rows => ∃ hv : Int, res = .t (.c (.ptr 0 0 0)) ∧ rows = [⟨tc, 3, [Cur V 0 hv]⟩])
    (hK : ∀ hv : Int, K (.t (.c (.ptr (lenL H) 0 0))) (H ++ [.bx tc 3 (Cur V 0 hv)])) : g .C f H [.c (.view V)] K :=
  callC hg (pcall_pure hc rfl fun res rows ⟨hv, h1, h2⟩ => by
    subst h1 h2
    refine ⟨[.bx tc 3 (Cur V 0 hv)], rfl, ?_⟩
    have := hK hv
    rw [lenL_eq] at this
    simpa [AV.shift, AT.shift, AC.shift, toH_len] using this)
end
theorem spec_l01PickInt_a (bs : List Int) (hl : bs.length ≤ 1048576) (i h : Int) (hi : 0 ≤ i) (ls : List Int) (h0 : ls ≠ []) : Con Try.prog 48 (toH [.bx 95 3 (Cur (vw bytC bs) i h), .rw ⟨3, 1, vw intC ls⟩]) [.c (.ptr 0 0 0), .c (.own 1)] fun res h' => ∃ eh, toH eh = h' ∧ ∃ i' k' v, 0 ≤ i' ∧ eh = [.bx 95 3 (Cur (vw bytC bs) i' k'), .rw ⟨3, 1, vw intC ls⟩] ∧ res = .t (ai v) ∧ v ∈ ls := by
  have cb := fun (i h n : Int) (hi : 0 ≤ i) => spec_l01Below_a bs hl i h n hi
  obtain ⟨V, hV⟩ : ∃ V, V = vw bytC bs := ⟨_, rfl⟩
  obtain ⟨L, hL⟩ : ∃ V, V = vw intC ls := ⟨_, rfl⟩
  have hLl : lenI L = (ls.length : Int) := by rw [hL, lenI_eq, vw_length]
  have hL0 : 0 < lenI L := by rw [hLl]; have := List.length_pos_iff.2 h0; omega
  have pL : plainE L = true := by rw [hL]; exact vw_plain _ _
  have hLn : ∀ x : Int, 0 ≤ x → x < lenI L → ∃ v, ls[x.toNat]? = some v := fun x h1 h2 => ⟨_, List.getElem?_eq_getElem (by rw [hLl] at h2; omega)⟩
  simp only [← hV, ← hL] at cb ⊢
  refine con_run (c := body Try.f48) fits Try.func48 (by kernel_rfl) (by kernel_rfl) (bl (by rfl)) (by kernel_rfl) fun g F hg hF => ?_
  replace hg : g = G0 Try.prog 2 Try.f48.ntmps := hg
  replace hF : F = FinP 2 _ := hF
  cbv
  refine callCu hg 0 (cb _ _ _ hi) rfl rfl fun i1 k1 res hi1 hq => ?_
  obtain ⟨x, rfl, hx0, hx1, _⟩ := hq
  have hxl : x < lenI L := by have := hx1 (by rw [goLn hg]; exact hL0); rw [goLn hg] at this; exact this
  obtain ⟨v, hv⟩ := hLn x hx0 hxl
  cbv
  refine goY hg hx0 hxl fun j hj hjl => ?_
  cbv
  refine ⟨_, by rw [hj, hL]; exact vw_at hv, ?_⟩
  cbv
  exact finCuR hF rfl rfl rfl pL rfl ⟨_, rfl, _, _, _, hi1, rfl, rfl, List.mem_of_getElem? hv⟩
theorem spec_l23Step_a (bs : List Int) (hl : bs.length ≤ 1048576) (i h : Int) (hi : 0 ≤ i) : CuCon 59 95 (vw bytC bs) i h [] fun res => ∃ x : Int, res = .t (ai x) := by
  have cb := fun (i h : Int) (hi : 0 ≤ i) (ls : List Int) (h0 : ls ≠ []) => spec_l01PickInt_a bs hl i h hi ls h0
  obtain ⟨V, hV⟩ : ∃ V, V = vw bytC bs := ⟨_, rfl⟩
  simp only [← hV] at cb ⊢
  refine con_run (c := body Try.f59) fits Try.func59 (by kernel_rfl) (by kernel_rfl) (bl (by rfl)) (by kernel_rfl) fun g F hg hF => ?_
  replace hg : g = G0 Try.prog 1 Try.f59.ntmps := hg
  replace hF : F = FinP 1 _ := hF
  cbv
  refine callPick hg 0 1 (cb _ _ hi [1, 2, 3, 64, 32, 100, 4096, 4097, 0, -1] (by simp)) rfl rfl (by decide) fun i1 k1 v hi1 hv => ?_
  cbv
  exact finCu hF rfl rfl rfl ⟨_, rfl, _, _, hi1, rfl, _, rfl⟩
theorem spec_l23Frame_a (bs : List Int) (hl : bs.length ≤ 1048576) (i h : Int) (hi : 0 ≤ i) : CuCon 58 95 (vw bytC bs) i h [] fun res => ∃ x : GFrame, res = .t (agF x) := by
  have cb := fun (i h n : Int) (hi : 0 ≤ i) => spec_l01Below_a bs hl i h n hi
  obtain ⟨V, hV⟩ : ∃ V, V = vw bytC bs := ⟨_, rfl⟩
  simp only [← hV] at cb ⊢
  refine con_run (c := body Try.f58) fits Try.func58 (by kernel_rfl) (by kernel_rfl) (bl (by rfl)) (by kernel_rfl) fun g F hg hF => ?_
  replace hg : g = G0 Try.prog 1 Try.f58.ntmps := hg
  replace hF : F = FinP 1 _ := hF
  cbv
  refine callCu hg 0 (cb _ _ _ hi) rfl rfl fun i1 k1 res hi1 hq => ?_
  obtain ⟨x1, rfl, _⟩ := hq
  cbv
  refine callCu hg 0 (cb _ _ _ hi1) rfl rfl fun i2 k2 res hi2 hq => ?_
  obtain ⟨x2, rfl, _⟩ := hq
  cbv
  refine callCu hg 0 (cb _ _ _ hi2) rfl rfl fun i3 k3 res hi3 hq => ?_
  obtain ⟨x3, rfl, _⟩ := hq
  cbv
  refine callCu hg 0 (cb _ _ _ hi3) rfl rfl fun i4 k4 res hi4 hq => ?_
  obtain ⟨x4, rfl, _⟩ := hq
  cbv
  exact finCu hF rfl rfl rfl ⟨_, rfl, _, _, hi4, rfl, ⟨_, _, _, _, _⟩, rfl⟩
set_option maxHeartbeats 1600000 in
theorem spec_DrawSnapAll_a (bs : List Int) (hl : bs.length ≤ 1048576) : PCon Try.prog 28 [.c (.view (vw bytC bs))] fun res rows => ∃ (xs : List GFrame) (s : Int), xs.length ≤ 4 ∧ res = .tup [.c (.own 0), ai s] ∧ rows = [⟨54, 5, vw GFrame.c xs⟩] := by
  have cn := spec_l01New_a bs hl
  have cb := fun (i h n : Int) (hi : 0 ≤ i) => spec_l01Below_a bs hl i h n hi
  have cf := fun (i h : Int) (hi : 0 ≤ i) => spec_l23Frame_a bs hl i h hi
  have cs := fun (i h : Int) (hi : 0 ≤ i) => spec_l23Step_a bs hl i h hi
  obtain ⟨V, hV⟩ : ∃ V, V = vw bytC bs := ⟨_, rfl⟩
  simp only [← hV] at cn cb cf cs ⊢
  refine pcon_run (c := body Try.f28) fits Try.func28 (by kernel_rfl) (by kernel_rfl) (by rfl) (by kernel_rfl) fun g F hg hF => ?_
  cbv
  refine callNew hg cn fun hv => ?_
  cbv
  refine loop_runW hg fits (by kernel_rfl) (fun s : (Int × List GFrame × List (List AC)) × Int × Int => [(4, .t (.c (.ptr 0 0 0))), (5, .t (.c (.own 1))), (6, .t (ai (s.1.1)))]) (fun s => [.bx 95 3 (Cur V s.2.1 s.2.2), .rw ⟨54, 5, s.1.2.2⟩]) (fun s => 0 ≤ s.1.1 ∧ s.1.1 ≤ 4 ∧ (s.1.2.1.length : Int) = s.1.1 ∧ s.1.2.2 = vw GFrame.c s.1.2.1 ∧ 0 ≤ s.2.1) (fun s => 4 - s.1.1.toNat)
    ((0, [], []), 0, hv) ⟨by simp, by simp, by simp, rfl, by simp⟩ (Wk.weak (wkG [some 0, some 1] ⟨rfl, rfl, rfl, trivial⟩ ⟨⟨_, _, rfl, rfl, rfl, rfl, .inl ⟨rfl, rfl⟩⟩, ⟨_, _, rfl, rfl, rfl, rfl, .inl ⟨rfl, rfl⟩⟩, trivial⟩ (by decide) no_lt)) (fun s B hs hB => ?_)
  obtain ⟨⟨z, xs, eX⟩, i, h⟩ := s
  obtain ⟨h0, h1, h2, h3, h4⟩ := hs
  dsimp only at h0 h1 h2 h3 h4
  have hel : eX.length ≤ 1048576 := by rw [h3, vw_length]; omega
  have pX : plainE eX = true := by rw [h3]; exact vw_plain _ _
  have ez : g .w .add .i64 z 1 = z + 1 := by rw [goAdd hg]; exact wr1 (by omega) (by omega)
  have hxl : xs.length ≤ 4 := by omega
  have hl1 : ∀ f, ((xs ++ [f]).length : Int) = z + 1 := fun f => by simp; omega
  cbv
  refine callCu hg 0 (cb _ _ _ h4) rfl rfl fun i1 k1 res hi1 hq => ?_
  obtain ⟨x, rfl, hx0, hx1, _⟩ := hq
  have hx4 := hx1 (by decide)
  have tz : g .q .lss z x = decide (z < x) := goLss hg _ _
  cbv
  rw [tz]
  by_cases hzx : z < x
  · rw [decide_eq_true hzx]
    cbv
    refine callCu hg 0 (cf _ _ hi1) rfl rfl fun i2 k2 res hi2 hq => ?_
    obtain ⟨⟨f0, f1, f2, f3, f4⟩, rfl⟩ := hq
    have aX : eX ++ [[.imm (.int .i64 f0), .imm (.int .i64 f1), .imm (.int .i64 f2), .imm (.int .i64 f3), .imm (.int .i64 f4)]] = vw GFrame.c (xs ++ [⟨f0, f1, f2, f3, f4⟩]) := by rw [vw_snocD, h3]; rfl
    cbv
    refine goNA1 hg rfl (by decide) hel ?_
    cbv
    rw [ez, goAp hg]
    subst hB
    exact ⟨((z + 1, xs ++ [⟨f0, f1, f2, f3, f4⟩], _), i2, k2), ⟨by simp only; omega, by simp only; omega, hl1 _, aX, hi2⟩, by simp only; omega, Wk.weak (wkG [some 0, some 3] ⟨rfl, rfl, rfl, trivial⟩ ⟨⟨_, _, rfl, rfl, rfl, rfl, .inl ⟨rfl, rfl⟩⟩, ⟨_, _, rfl, rfl, rfl, rfl, .inl ⟨rfl, aX.symm ▸ vw_plain _ _⟩⟩, trivial⟩ (by decide) no_lt)⟩
  · rw [decide_eq_false hzx]
    cbv
    refine callCu hg 0 (cs _ _ hi1) rfl rfl fun i2 k2 res hi2 hq => ?_
    obtain ⟨s, rfl⟩ := hq
    cbv
    exact finOI hF rfl pX ⟨xs, s, hxl, rfl, by rw [h3]⟩
set_option maxHeartbeats 1600000 in
theorem spec_DrawPlaces_a (bs : List Int) (hl : bs.length ≤ 1048576) : PCon Try.prog 32 [.c (.view (vw bytC bs))] fun res rows => ∃ (xs : List Int), xs.length = 12 ∧ (∀ x ∈ xs, 0 ≤ x ∧ x < 10000) ∧ res = .t (.c (.own 0)) ∧ rows = [⟨3, 1, vw intC xs⟩] := by
  have cn := spec_l01New_a bs hl
  have cb := fun (i h n : Int) (hi : 0 ≤ i) => spec_l01Below_a bs hl i h n hi
  obtain ⟨V, hV⟩ : ∃ V, V = vw bytC bs := ⟨_, rfl⟩
  simp only [← hV] at cn cb ⊢
  refine pcon_run (c := body Try.f32) fits Try.func32 (by kernel_rfl) (by kernel_rfl) (by rfl) (by kernel_rfl) fun g F hg hF => ?_
  cbv
  refine callNew hg cn fun hv => ?_
  cbv
  refine loop_runW hg fits (by kernel_rfl) (fun s : (Int × List Int × List (List AC)) × Int × Int => [(3, .t (.c (.ptr 0 0 0))), (4, .t (.c (.own 1))), (5, .t (ai (s.1.1)))]) (fun s => [.bx 95 3 (Cur V s.2.1 s.2.2), .rw ⟨3, 1, s.1.2.2⟩]) (fun s => 0 ≤ s.1.1 ∧ s.1.1 ≤ 12 ∧ (s.1.2.1.length : Int) = s.1.1 ∧ s.1.2.2 = vw intC s.1.2.1 ∧ 0 ≤ s.2.1 ∧ ∀ x ∈ s.1.2.1, 0 ≤ x ∧ x < 10000) (fun s => 12 - s.1.1.toNat)
    ((0, [], []), 0, hv) ⟨by simp, by simp, by simp, rfl, by simp, by simp⟩ (Wk.weak (wkG [some 0, some 1] ⟨rfl, rfl, rfl, trivial⟩ ⟨⟨_, _, rfl, rfl, rfl, rfl, .inl ⟨rfl, rfl⟩⟩, ⟨_, _, rfl, rfl, rfl, rfl, .inl ⟨rfl, rfl⟩⟩, trivial⟩ (by decide) no_lt)) (fun s B hs hB => ?_)
  obtain ⟨⟨z, xs, eX⟩, i, h⟩ := s
  obtain ⟨h0, h1, h2, h3, h4, h5⟩ := hs
  dsimp only at h0 h1 h2 h3 h4 h5
  have hel : eX.length ≤ 1048576 := by rw [h3, vw_length]; omega
  have pX : plainE eX = true := by rw [h3]; exact vw_plain _ _
  have ez : g .w .add .i64 z 1 = z + 1 := by rw [goAdd hg]; exact wr1 (by omega) (by omega)
  have hl1 : ∀ f, ((xs ++ [f]).length : Int) = z + 1 := fun f => by simp; omega
  have hxl : ¬ z < 12 → xs.length = 12 := fun h => by omega
  have tz : g .q .lss z 12 = decide (z < 12) := goLss hg _ _
  cbv
  rw [tz]
  by_cases hzx : z < 12
  · rw [decide_eq_true hzx]
    cbv
    refine callCu hg 0 (cb _ _ _ h4) rfl rfl fun i2 k2 res hi2 hq => ?_
    obtain ⟨x, rfl, hx0, hx1, _⟩ := hq
    have hx4 := hx1 (by decide)
    have aX : eX ++ [[.imm (.int .i64 x)]] = vw intC (xs ++ [x]) := by rw [vw_snocD, h3]; rfl
    cbv
    refine goNA1 hg rfl (by decide) hel ?_
    cbv
    rw [ez, goAp hg]
    subst hB
    exact ⟨((z + 1, xs ++ [x], _), i2, k2), ⟨by simp only; omega, by simp only; omega, hl1 _, aX, hi2, fun y hy => by
      rcases List.mem_append.1 hy with hy | hy
      · exact h5 y hy
      · rw [List.mem_singleton.1 hy]; exact ⟨hx0, hx4⟩⟩, by simp only; omega, Wk.weak (wkG [some 0, some 3] ⟨rfl, rfl, rfl, trivial⟩ ⟨⟨_, _, rfl, rfl, rfl, rfl, .inl ⟨rfl, rfl⟩⟩, ⟨_, _, rfl, rfl, rfl, rfl, .inl ⟨rfl, aX.symm ▸ vw_plain _ _⟩⟩, trivial⟩ (by decide) no_lt)⟩
  · rw [decide_eq_false hzx]
    cbv
    exact fin1 ⟨3, 1, eX⟩ hF rfl pX ⟨xs, hxl hzx, h5, rfl, by rw [h3]⟩

end Go.Proofs.Ytacngamcjgkjkaa
