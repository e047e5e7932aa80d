/- Where items of a line begin: the reference's places. -/
import Derived.Test.YtcohgnecmgcajaaH4
namespace Go.Proofs.Ytcohgnecmgcajaa
open Go.ChangeShapes Go.WideShapes Go.ChangeAt Go.RowKit Am
set_option linter.unusedVariables false
set_option linter.unusedSimpArgs false
set_option maxRecDepth 100000
section
variable {P : Program} {n0 N : Nat} {g : Gd}
/-- A call that returns one new row of plain cells, of which something is known. -/
theorem callRowX (hg : g = G0 P n0 N) {h : EH} {f : FuncId} {args args' : List AT} {K : AV → EH → Prop} {R : AB → Prop} (hc : PCon P f args' fun res rows => ∃ ab, res = .t (.c (.own 0)) ∧ rows = [ab] ∧ R ab) (hR : ∀ ab, R ab → immE ab.es = true) (ha : ResA (toH h) args args')
    (hK : ∀ ab, R ab → K (.t (.c (.own (lenL h)))) (h ++ [.rw ab])) : g .C f h args K := by
  refine callC hg ⟨args', _, hc, .inr ⟨resA_len _ _ ha, resA_at _ _ ha, fun res rows hpost => ?_⟩⟩
  obtain ⟨ab, rfl, rfl, hr⟩ := hpost
  have hp := hR ab hr
  refine ⟨rfl, fun ab' hab => ?_, [.rw ab], ?_, ?_⟩
  · obtain rfl := List.mem_singleton.1 hab
    exact plain_fresh hp _ _
  · simp only [List.map_cons, List.map_nil, shift_row (imm_plainE hp)]; rfl
  · have := hK ab hr; rw [lenL_eq] at this; rw [toH_len]; exact this
/-- A call that returns a number. -/
theorem callIX (hg : g = G0 P n0 N) {h : EH} {f : FuncId} {args args' : List AT} {K : AV → EH → Prop} (hc : PCon P f args' fun res rows => (∃ v : Int, res = .t (ai v)) ∧ rows = []) (ha : ResA (toH h) args args')
    (hK : ∀ v : Int, K (.t (ai v)) (h ++ [])) : g .C f h args K := by
  refine callC hg ⟨args', _, hc, .inr ⟨resA_len _ _ ha, resA_at _ _ ha, fun res rows hpost => ?_⟩⟩
  obtain ⟨⟨v, rfl⟩, rfl⟩ := hpost
  exact ⟨rfl, fun ab' hab => by simp at hab, [], rfl, hK v⟩
end
theorem spec_l15First_a (ys : List Int) : PCon Try.prog 83 [.c (.view (vw intC ys))] fun res rows => (∃ v : Int, res = .t (ai v)) ∧ rows = [] := by
  obtain ⟨V, hV⟩ : ∃ V, V = vw intC ys := ⟨_, rfl⟩
  have hVl : lenI V = ys.length := by rw [hV, vw_lenI]
  rw [← hV]
  refine pcon_run (c := body Try.f83) fits Try.func83 (by kernel_rfl) (by kernel_rfl) (by rfl) (by kernel_rfl) fun g F hg hF => ?_
  have t0 : g .q .eql (g .ln V) 0 = decide ((ys.length : Int) = 0) := by rw [goEql hg, goLn hg, hVl]; exact (Bool.beq_eq_decide_eq _ _)
  by_cases h0 : (ys.length : Int) = 0
  · cbv
    rw [t0, decide_eq_true h0]
    cbv
    exact fin0 hF rfl ⟨⟨_, rfl⟩, rfl⟩
  · obtain ⟨y, hy⟩ : ∃ y, ys[0]? = some y := ⟨_, List.getElem?_eq_getElem (by omega)⟩
    have hVy : V[(0 : Int).toNat]? = some (lc (intC y)) := by rw [hV]; exact vw_at hy
    cbv
    rw [t0, decide_eq_false h0]
    cbv
    refine goX hg _ (by decide) hVy rfl ?_
    cbv
    exact fin0 hF rfl ⟨⟨_, rfl⟩, rfl⟩
theorem spec_FreeOf_a (xs : List GItem) (ys : List Int) (gap inner : Int) (hx : xs.length ≤ 1048576) (hy : ys.length ≤ 1048576) : PCon Try.prog 71 [.c (.view (vw GItem.c xs)), .c (.view (vw intC ys)), ai gap, ai inner] fun res rows => (∃ v : Int, res = .t (ai v)) ∧ rows = [] := by
  have c1 := spec_OuterOf_a xs ys gap hx hy
  obtain ⟨V, hV⟩ : ∃ V, V = vw GItem.c xs := ⟨_, rfl⟩
  obtain ⟨W, hW⟩ : ∃ V, V = vw intC ys := ⟨_, rfl⟩
  obtain ⟨O, hO⟩ : ∃ V, V = wrap64 (outer xs ys gap) := ⟨_, rfl⟩
  rw [← hV, ← hW, ← hO] at c1
  rw [← hV, ← hW]
  refine pcon_run (c := body Try.f71) fits Try.func71 (by kernel_rfl) (by kernel_rfl) (by rfl) (by kernel_rfl) fun g F hg hF => ?_
  cbv
  refine call0 hg c1 rfl rfl ?_
  cbv
  exact fin0 hF rfl ⟨⟨_, rfl⟩, rfl⟩
def evm (many : Int) : Nat := if many ≤ 64 then many.toNat else 0
def evn (n many : Int) : List Int := shr n (List.replicate (evm many) 1)
theorem evn_len (n many : Int) : (evn n many).length = evm many := by
  have hm : evm many ≤ 64 := by unfold evm; split <;> omega
  have : wsOk (List.replicate (evm many) 1) = true := by
    simp only [wsOk, Bool.and_eq_true, decide_eq_true_eq, List.all_eq_true, List.length_replicate]
    exact ⟨fun w hw => by rw [List.eq_of_mem_replicate hw]; decide, by omega⟩
  rw [evn, shr, if_pos this, shG_len, List.length_replicate]
theorem spec_Evenly_a (n many : Int) : PCon Try.prog 73 [ai n, ai many] fun res rows => res = .t (.c (.own 0)) ∧ rows = [⟨3, 1, vw intC (evn n many)⟩] := by
  have hm : evm many ≤ 64 := by unfold evm; split <;> omega
  have c1 := spec_Shares_a n (List.replicate (evm many) 1) (by rw [List.length_replicate]; omega)
  obtain ⟨S, hS⟩ : ∃ V, V = vw intC (evn n many) := ⟨_, rfl⟩
  have iS : immE S = true := by rw [hS]; exact vw_imm _ _
  have pS : plainE S = true := imm_plainE iS
  rw [show shr n (List.replicate (evm many) 1) = evn n many from rfl, ← hS] at c1
  rw [← hS]
  refine pcon_run (c := body Try.f73) fits Try.func73 (by kernel_rfl) (by kernel_rfl) (by rfl) (by kernel_rfl) fun g F hg hF => ?_
  cbv
  refine loop_runW hg fits (by kernel_rfl) (fun s : Int × List (List AC) => [(0, .t (ai (n))), (1, .t (ai (many))), (5, .t (.c (.own 0))), (6, .t (ai (s.1)))]) (fun s => [.rw ⟨3, 1, s.2⟩]) (fun s => 0 ≤ s.1 ∧ (s.1 = 0 ∨ s.1 ≤ many ∧ many ≤ 64) ∧ s.2 = vw intC (List.replicate s.1.toNat 1)) (fun s => 64 - s.1.toNat)
    (0, []) ⟨by simp, by simp, rfl⟩ (Wk.weak (wkG [some 0] ⟨rfl, rfl, rfl, rfl, trivial⟩ ⟨⟨_, _, rfl, rfl, rfl, rfl, .inl ⟨rfl, rfl⟩⟩, trivial⟩ (by decide) no_lt)) (fun s B hs hB => ?_)
  obtain ⟨z, E⟩ := s
  obtain ⟨h0, h1, hE⟩ := hs
  dsimp only at h0 h1 hE
  have hz64 : z.toNat ≤ 64 := by omega
  have hEl : E.length ≤ 1048576 := by rw [hE, vw_length, List.length_replicate]; omega
  have pE : plainE E = true := by rw [hE]; exact vw_plain _ _
  have kE : ∀ y ∈ E, y.length = 1 := by rw [hE]; exact vw_k (c := intC) (k := 1) fun _ => rfl
  have dE : ∀ y ∈ E, y.all dat = true := by rw [hE]; exact vw_dat
  have tz : g .q .lss z many = decide (z < many) := goLss hg _ _
  have tm : g .q .leq many 64 = decide (many ≤ 64) := goLeq hg _ _
  have ez : g .w .add .i64 z 1 = z + 1 := by rw [goAdd hg]; exact wr1 (by omega) (by omega)
  have aE : E ++ [[.imm (.int .i64 1)]] = vw intC (List.replicate (z + 1).toNat 1) := by
    rw [show (z + 1).toNat = z.toNat + 1 by omega, List.replicate_succ', vw_snocD, hE]; rfl
  have done : ¬ (z < many ∧ many ≤ 64) → E = vw intC (List.replicate (evm many) 1) := fun h => by
    have : z.toNat = evm many := by unfold evm; split <;> omega
    rw [hE, this]
  by_cases hz : z < many
  · by_cases hm64 : many ≤ 64
    · have fin : 0 ≤ z + 1 ∧ (z + 1 = 0 ∨ z + 1 ≤ many ∧ many ≤ 64) ∧ 64 - (z + 1).toNat < 64 - z.toNat := by omega
      cbv
      rw [tz, decide_eq_true hz]
      cbv
      rw [tm, decide_eq_true hm64]
      cbv
      refine goNA1 hg rfl (by decide) hEl ?_
      cbv
      rw [goAp hg, ez]
      generalize E ++ _ = E2 at aE ⊢
      have aE : E2 = _ := aE
      have pE2 : plainE E2 = true := by rw [aE]; exact vw_plain _ _
      subst hB
      exact ⟨(z + 1, E2), ⟨fin.1, fin.2.1, aE⟩, fin.2.2, Wk.weak (wkG [some 2] ⟨rfl, rfl, rfl, rfl, trivial⟩ ⟨⟨_, _, rfl, rfl, rfl, rfl, .inl ⟨rfl, pE2⟩⟩, trivial⟩ (by decide) no_lt)⟩
    · rw [← done (by omega)] at c1
      cbv
      rw [tz, decide_eq_true hz]
      cbv
      rw [tm, decide_eq_false hm64]
      cbv
      first | (refine callRow hg c1 (resA_c (resDat rfl) (resA_c (resRow (ab := ⟨_, _, E⟩) rfl kE dE) (resA_nil))) iS ?_; cbv) | (refine callRowP hg c1 (resA_c (resDat rfl) (resA_c (resRow (ab := ⟨_, _, E⟩) rfl kE dE) (resA_nil))) iS ?_; cbv)
      exact finRow hF rfl pS
  · rw [← done (by omega)] at c1
    cbv
    rw [tz, decide_eq_false hz]
    cbv
    first | (refine callRow hg c1 (resA_c (resDat rfl) (resA_c (resRow (ab := ⟨_, _, E⟩) rfl kE dE) (resA_nil))) iS ?_; cbv) | (refine callRowP hg c1 (resA_c (resDat rfl) (resA_c (resRow (ab := ⟨_, _, E⟩) rfl kE dE) (resA_nil))) iS ?_; cbv)
    exact finRow hF rfl pS
theorem evenly_ex (n many : Int) : ∃ (Y : List (List AC)) (ys : List Int), Y = vw intC ys ∧ immE Y = true ∧ (∀ y ∈ Y, y.length = 1) ∧ (∀ y ∈ Y, y.all dat = true) ∧ PCon Try.prog 73 [ai n, ai many] fun res rows => res = .t (.c (.own 0)) ∧ rows = [⟨3, 1, Y⟩] :=
  ⟨_, evn n many, rfl, vw_imm _ _, vw_k (c := intC) (k := 1) fun _ => rfl, vw_dat, spec_Evenly_a n many⟩
set_option maxHeartbeats 2000000 in
theorem spec_LeadOf_a (free many js : Int) : PCon Try.prog 74 [ai free, ai many, ai js] fun res rows => (∃ v : Int, res = .t (ai v)) ∧ rows = [] := by
  have cE := evenly_ex
  have c1 := fun ys => spec_l15First_a ys
  refine pcon_run (c := body Try.f74) fits Try.func74 (by kernel_rfl) (by kernel_rfl) (by rfl) (by kernel_rfl) fun g F hg hF => ?_
  cbv
  (first | refine callB hg (spec_l01In_a many 1 12) rfl (fun R0 hR0 => ?_) | refine callBP hg (spec_l01In_a many 1 12) rfl (fun R0 hR0 => ?_)); cbv
  clear hR0
  cases R0 <;> cbv
  · exact fin0 hF rfl ⟨⟨_, rfl⟩, rfl⟩
  cases q2 : g .q .eql js 2 <;> cbv
  rotate_left
  · exact fin0 hF rfl ⟨⟨_, rfl⟩, rfl⟩
  cases q3 : g .q .eql js 3 <;> cbv
  rotate_left
  · (first | refine callI hg (spec_FloorDiv_a _ _) rfl (fun Q0 hQ0 => ?_) | refine callIP hg (spec_FloorDiv_a _ _) rfl (fun Q0 hQ0 => ?_)); cbv
    exact fin0 hF rfl ⟨⟨_, rfl⟩, rfl⟩
  cases q5 : g .q .eql js 5 <;> cbv
  rotate_left
  · cases q0 : g .q .lss free 0 <;> cbv
    · obtain ⟨Y, ys, hY, iY, kY, dY, cY⟩ := cE free (g .w .mul .i64 2 many)
      have cv := c1 ys
      rw [← hY] at cv
      refine callRow hg cY (dat_data rfl) iY ?_
      cbv
      refine callIX hg cv (resA_c (resRow (ab := ⟨_, _, Y⟩) rfl kY dY) resA_nil) fun v => ?_
      cbv
      exact fin0 hF rfl ⟨⟨_, rfl⟩, rfl⟩
    · (first | refine callI hg (spec_FloorDiv_a _ _) rfl (fun Q0 hQ0 => ?_) | refine callIP hg (spec_FloorDiv_a _ _) rfl (fun Q0 hQ0 => ?_)); cbv
      exact fin0 hF rfl ⟨⟨_, rfl⟩, rfl⟩
  cases q6 : g .q .eql js 6 <;> cbv
  rotate_left
  · cases q0 : g .q .lss free 0 <;> cbv
    · obtain ⟨Y, ys, hY, iY, kY, dY, cY⟩ := cE free (g .w .add .i64 many 1)
      have cv := c1 ys
      rw [← hY] at cv
      refine callRow hg cY (dat_data rfl) iY ?_
      cbv
      refine callIX hg cv (resA_c (resRow (ab := ⟨_, _, Y⟩) rfl kY dY) resA_nil) fun v => ?_
      cbv
      exact fin0 hF rfl ⟨⟨_, rfl⟩, rfl⟩
    · (first | refine callI hg (spec_FloorDiv_a _ _) rfl (fun Q0 hQ0 => ?_) | refine callIP hg (spec_FloorDiv_a _ _) rfl (fun Q0 hQ0 => ?_)); cbv
      exact fin0 hF rfl ⟨⟨_, rfl⟩, rfl⟩
  · exact fin0 hF rfl ⟨⟨_, rfl⟩, rfl⟩
def autN : List GItem → Int
  | [] => 0
  | x :: r => ((if x.autoBefore then 1 else 0) + (if x.autoBehind then 1 else 0)) + autN r
theorem spec_AutosIn_a (xs : List GItem) (hl : xs.length ≤ 1048576) : PCon Try.prog 72 [.c (.view (vw GItem.c xs))] fun res rows => res = .t (ai (autN xs)) ∧ rows = [] := by
  obtain ⟨V, hV⟩ : ∃ V, V = vw GItem.c xs := ⟨_, rfl⟩
  have hVl : V.length = xs.length := by rw [hV, vw_length]
  have iV : immE V = true := by rw [hV]; exact vw_imm _ _
  have kV : ∀ y ∈ V, y.length = 9 := by rw [hV]; exact vw_k (c := GItem.c) (k := 9) fun _ => rfl
  have dV : ∀ y ∈ V, y.all dat = true := by rw [hV]; exact vw_dat
  obtain ⟨R, hR⟩ : ∃ R, R = autN xs := ⟨_, rfl⟩
  rw [← hV, ← hR]
  refine pcon_run (c := body Try.f72) fits Try.func72 (by kernel_rfl) (by kernel_rfl) (by rfl) (by kernel_rfl) fun g F hg hF => ?_
  cbv
  refine loop_go hg fits (by kernel_rfl) V (fun x => lc (GItem.c x)) xs hV hl (fun z (s : Int) => [(0, .t (.c (.view V))), (3, .t (ai (s))), (4, .t (ai (z)))]) (fun z (s : Int) => []) (fun z (s : Int) => 0 ≤ s ∧ s ≤ 2 * z) (fun (s : Int) rest => s + autN rest) (R) (0 : Int) (by rw [hR]; exact Int.zero_add _) ⟨by decide, by decide⟩ (Wk.weak (wkG [] ⟨rfl, rfl, rfl, trivial⟩ trivial (by decide) no_lt)) (fun z s B hz h0 hi he => ?_) (fun z s x rest B z0 z1 z2 hx hy h0 hi hc e1 hB => ?_)
  · cbv; rw [he]; cbv
    exact fin0i hF (by rw [← h0]; simp [autN])
  · obtain ⟨y0, y1, y2, y3, y4, y5, y6, y7, y8⟩ := x
    have hlV : z < 1048576 := by rw [hVl] at *; omega
    have es : ∀ t : Int, 0 ≤ t → t ≤ 2 * z + 2 → g .w .add .i64 t 1 = t + 1 := fun t k0 k1 => by rw [goAdd hg]; exact wr1 (by omega) (by omega)
    obtain ⟨s1, k1⟩ : ∃ t, t = s + 1 := ⟨_, rfl⟩
    obtain ⟨s2, k2⟩ : ∃ t, t = s1 + 1 := ⟨_, rfl⟩
    have hs1 := es s hi.1 (by omega)
    have hs2 := es s1 (by omega) (by omega)
    rw [← k1] at hs1
    rw [← k2] at hs2
    cases y7 <;> cases y8
    · cbv; rw [hc]; cbv; refine goX hg _ z0 hy rfl ?_; cbv
      try rw [hs1]
      refine goX hg _ z0 hy rfl ?_
      cbv
      try rw [hs1]
      try rw [hs2]
      rw [e1]
      exact hB (s) _ _ ⟨(by rw [← h0]; simp [autN]), ⟨by omega, by omega⟩⟩ (Wk.weak (wkG [] ⟨rfl, rfl, rfl, trivial⟩ trivial (by decide) no_lt))
    · cbv; rw [hc]; cbv; refine goX hg _ z0 hy rfl ?_; cbv
      try rw [hs1]
      refine goX hg _ z0 hy rfl ?_
      cbv
      try rw [hs1]
      try rw [hs2]
      rw [e1]
      exact hB (s1) _ _ ⟨(by rw [← h0]; simp [autN]; omega), ⟨by omega, by omega⟩⟩ (Wk.weak (wkG [] ⟨rfl, rfl, rfl, trivial⟩ trivial (by decide) no_lt))
    · cbv; rw [hc]; cbv; refine goX hg _ z0 hy rfl ?_; cbv
      try rw [hs1]
      refine goX hg _ z0 hy rfl ?_
      cbv
      try rw [hs1]
      try rw [hs2]
      rw [e1]
      exact hB (s1) _ _ ⟨(by rw [← h0]; simp [autN]; omega), ⟨by omega, by omega⟩⟩ (Wk.weak (wkG [] ⟨rfl, rfl, rfl, trivial⟩ trivial (by decide) no_lt))
    · cbv; rw [hc]; cbv; refine goX hg _ z0 hy rfl ?_; cbv
      try rw [hs1]
      refine goX hg _ z0 hy rfl ?_
      cbv
      try rw [hs1]
      try rw [hs2]
      rw [e1]
      exact hB (s2) _ _ ⟨(by rw [← h0]; simp [autN]; omega), ⟨by omega, by omega⟩⟩ (Wk.weak (wkG [] ⟨rfl, rfl, rfl, trivial⟩ trivial (by decide) no_lt))
theorem spec_l15Ok_a (xs : List GItem) (ys : List Int) (gap inner : Int) (hx : xs.length ≤ 1048576) (hy : ys.length ≤ 1048576) : PCon Try.prog 69 [.c (.view (vw GItem.c xs)), .c (.view (vw intC ys)), ai gap, ai inner] fun res rows => (∃ b : Bool, (b = true → itsOk xs = true ∧ ys.length = xs.length) ∧ res = .t (abl b)) ∧ rows = [] := by
  have cI := spec_ItemsOk_a xs hx
  obtain ⟨I, hI⟩ : ∃ V, V = itsOk xs := ⟨_, rfl⟩
  obtain ⟨V, hV⟩ : ∃ V, V = vw GItem.c xs := ⟨_, rfl⟩
  have hVl : V.length = xs.length := by rw [hV, vw_length]
  have iV : immE V = true := by rw [hV]; exact vw_imm _ _
  have kV : ∀ y ∈ V, y.length = 9 := by rw [hV]; exact vw_k (c := GItem.c) (k := 9) fun _ => rfl
  have dV : ∀ y ∈ V, y.all dat = true := by rw [hV]; exact vw_dat
  obtain ⟨W, hW⟩ : ∃ W, W = vw intC ys := ⟨_, rfl⟩
  have hWl : W.length = ys.length := by rw [hW, vw_length]
  have iW : immE W = true := by rw [hW]; exact vw_imm _ _
  have kW : ∀ y ∈ W, y.length = 1 := by rw [hW]; exact vw_k (c := intC) (k := 1) fun _ => rfl
  have dW : ∀ y ∈ W, y.all dat = true := by rw [hW]; exact vw_dat
  rw [← hV, ← hI] at cI
  rw [← hV, ← hW]
  have tl : ∀ {g : Gd} {N : Nat}, g = G0 Try.prog 0 N → g .q .eql (g .ln W) (g .ln V) = decide (ys.length = xs.length) := fun {g N} hg => by
    rw [goEql hg, goLn hg, goLn hg, lenI_eq, lenI_eq, hVl, hWl]
    by_cases h : ys.length = xs.length
    · simp [h]
    · simp [h]; omega
  refine pcon_run (c := body Try.f69) fits Try.func69 (by kernel_rfl) (by kernel_rfl) (by rfl) (by kernel_rfl) fun g F hg hF => ?_
  have tl := tl hg
  obtain ⟨q, hq⟩ : ∃ q, q = decide (ys.length = xs.length) := ⟨_, rfl⟩
  rw [← hq] at tl
  have fin : ∀ b : Bool, (b = true → I = true ∧ q = true) → b = true → itsOk xs = true ∧ ys.length = xs.length := fun b h hb => ⟨by rw [← hI]; exact (h hb).1, of_decide_eq_true (by rw [← hq]; exact (h hb).2)⟩
  cbv
  refine loop_go hg fits (by kernel_rfl) W (fun x => lc (intC x)) ys hW hy (fun z (s : Unit) => [(0, .t (.c (.view V))), (1, .t (.c (.view W))), (2, .t (ai (gap))), (3, .t (ai (inner))), (9, .t (ai (z)))]) (fun z (s : Unit) => []) (fun z (s : Unit) => True) (fun (s : Unit) rest => (0 : Int)) (0) () rfl trivial (Wk.weak (wkG [] ⟨rfl, rfl, rfl, rfl, rfl, trivial⟩ trivial (by decide) no_lt)) (fun z s B hz h0 hi he => ?_) (fun z s x rest B z0 z1 z2 hx hy h0 hi hc e1 hB => ?_)
  rotate_left
  · cbv; rw [hc]; cbv; refine goX hg _ z0 hy rfl ?_; cbv
    (first | refine callB hg (spec_l01In_a x 0 1048576) rfl (fun R0 hR0 => ?_) | refine callBP hg (spec_l01In_a x 0 1048576) rfl (fun R0 hR0 => ?_)); cbv
    clear hR0
    cases R0 <;> cbv
    · exact fin0 hF rfl ⟨⟨false, (fun h => by cases h), rfl⟩, rfl⟩
    · rw [e1]
      exact hB (()) _ _ ⟨rfl, trivial⟩ (Wk.weak (wkG [] ⟨rfl, rfl, rfl, rfl, rfl, trivial⟩ trivial (by decide) no_lt))
  cbv; rw [he]; cbv
  refine call0 hg cI rfl rfl ?_
  cbv
  cases hI2 : I <;> cbv
  · exact fin0 hF rfl ⟨⟨false, (fun h => by cases h), rfl⟩, rfl⟩
  rw [tl]
  cases hq2 : q <;> cbv
  · exact fin0 hF rfl ⟨⟨false, (fun h => by cases h), rfl⟩, rfl⟩
  (first | refine callB hg (spec_l01In_a gap 0 1048576) rfl (fun R1 hR1 => ?_) | refine callBP hg (spec_l01In_a gap 0 1048576) rfl (fun R1 hR1 => ?_)); cbv
  clear hR1
  cases R1 <;> cbv
  · exact fin0 hF rfl ⟨⟨false, (fun h => by cases h), rfl⟩, rfl⟩
  (first | refine callB hg (spec_l01In_a inner 0 1048576) rfl (fun R2 hR2 => ?_) | refine callBP hg (spec_l01In_a inner 0 1048576) rfl (fun R2 hR2 => ?_)); cbv
  exact fin0 hF rfl ⟨⟨_, fin _ (fun _ => ⟨hI2, hq2⟩), rfl⟩, rfl⟩
section
variable {P : Program} {n0 N : Nat} {g : Gd}
theorem goMkI (hg : g = G0 P n0 N) {n : Int} {by_ : Nat} {q : Prop} (hb : by_ ≤ 65536) (h0 : 0 ≤ n) (h1 : n ≤ 1048576) (hq : q) : g .N (n = n ∧ 0 ≤ n ∧ (by_ : Int) * n ≤ 140737488355328 ∧ n ≤ 4611686018427387904) q := by
  subst hg
  have h2 : (by_ : Int) * n ≤ 65536 * 1048576 := Int.mul_le_mul (by omega) h1 h0 (by omega)
  exact ⟨⟨rfl, h0, by omega, by omega⟩, hq⟩
end
theorem evenly_ix (n many : Int) (h0 : 0 ≤ many) (h1 : many ≤ 64) : ∃ (Y : List (List AC)), immE Y = true ∧ lenI Y = many ∧ (∀ z : Int, 0 ≤ z → z < many → ∃ v : Int, Y[z.toNat]? = some [.imm (.int .i64 v)]) ∧ PCon Try.prog 73 [ai n, ai many] fun res rows => res = .t (.c (.own 0)) ∧ rows = [⟨3, 1, Y⟩] := by
  have hl := evn_len n many
  have he : evm many = many.toNat := by unfold evm; rw [if_pos h1]
  refine ⟨_, vw_imm intC (evn n many), by rw [vw_lenI, hl, he]; omega, fun z z0 z1 => ?_, spec_Evenly_a n many⟩
  exact ⟨_, vw_at (c := intC) (List.getElem?_eq_getElem (show z.toNat < (evn n many).length by rw [hl, he]; omega))⟩
set_option maxHeartbeats 4000000 in
theorem spec_l15Spaces_a (free many js : Int) (hm0 : 0 ≤ many) (hm1 : many ≤ 12) : PCon Try.prog 75 [ai free, ai many, ai js] fun res rows => ∃ ab, res = .t (.c (.own 0)) ∧ rows = [ab] ∧ ∃ ys : List Int, (ys.length : Int) = many ∧ ab = ⟨3, 1, vw intC ys⟩ := by
  have cE := evenly_ix
  refine pcon_run (c := body Try.f75) fits Try.func75 (by kernel_rfl) (by kernel_rfl) (by rfl) (by kernel_rfl) fun g F hg hF => ?_
  cbv
  refine goMkI hg (by decide) hm0 (by omega) ?_
  cbv
  generalize hE0 : g .rp many _ = E
  replace hE : E = vw intC (List.replicate many.toNat 0) := by rw [← hE0, goRp hg, vw_rep]; rfl
  clear hE0
  obtain ⟨ys, hys⟩ : ∃ ys, ys = List.replicate many.toNat (0 : Int) := ⟨_, rfl⟩
  have hyl : (ys.length : Int) = many := by rw [hys, List.length_replicate]; omega
  rw [← hys] at hE
  have pE : plainE E = true := by rw [hE]; exact vw_plain _ _
  cases q0 : g .q .lss free 0 <;> cbv
  rotate_left
  · exact fin1 ⟨3, 1, E⟩ hF rfl pE ⟨_, rfl, rfl, ys, hyl, by rw [hE]⟩
  refine loop_runW hg fits (by kernel_rfl) (fun s : Int × List Int × List (List AC) => [(0, .t (ai (free))), (1, .t (ai (many))), (2, .t (ai (js))), (7, .t (.c (.own 0))), (8, .t (ai (s.1)))]) (fun s => [.rw ⟨3, 1, s.2.2⟩]) (fun s => 0 ≤ s.1 ∧ s.1 ≤ 12 ∧ (s.2.1.length : Int) = many ∧ s.2.2 = vw intC s.2.1) (fun s => 12 - s.1.toNat)
    (0, ys, E) ⟨by simp, by simp, hyl, hE⟩ (Wk.weak (wkG [some 0] ⟨rfl, rfl, rfl, rfl, rfl, trivial⟩ ⟨⟨_, _, rfl, rfl, rfl, rfl, .inl ⟨rfl, pE⟩⟩, trivial⟩ (by decide) no_lt)) (fun s B hs hB => ?_)
  obtain ⟨z, ys, E⟩ := s
  obtain ⟨h0, h1, hyl, hE⟩ := hs
  dsimp only at h0 h1 hyl hE
  have pE : plainE E = true := by rw [hE]; exact vw_plain _ _
  obtain ⟨z1, hz1⟩ : ∃ z1, z1 = z + 1 := ⟨_, rfl⟩
  obtain ⟨m1, hm1'⟩ : ∃ z1, z1 = many - 1 := ⟨_, rfl⟩
  obtain ⟨mp, hmp⟩ : ∃ z1, z1 = many + 1 := ⟨_, rfl⟩
  obtain ⟨mm, hmm⟩ : ∃ z1, z1 = 2 * many := ⟨_, rfl⟩
  obtain ⟨zz, hzz⟩ : ∃ z1, z1 = 2 * z := ⟨_, rfl⟩
  obtain ⟨zz1, hzz1⟩ : ∃ z1, z1 = zz + 1 := ⟨_, rfl⟩
  obtain ⟨zz2, hzz2⟩ : ∃ z1, z1 = zz + 2 := ⟨_, rfl⟩
  have ez : g .w .add .i64 z 1 = z1 := by rw [goAdd hg, hz1]; exact wr1 (by omega) (by omega)
  have em1 : g .w .sub .i64 many 1 = m1 := by rw [goSub hg, hm1']; exact wr1 (by omega) (by omega)
  have emp : g .w .add .i64 many 1 = mp := by rw [goAdd hg, hmp]; exact wr1 (by omega) (by omega)
  have emm : g .w .mul .i64 2 many = mm := by rw [goMul hg, hmm]; exact wr1 (by omega) (by omega)
  have ezz : g .w .mul .i64 2 z = zz := by rw [goMul hg, hzz]; exact wr1 (by omega) (by omega)
  have ezz1 : g .w .add .i64 zz 1 = zz1 := by rw [goAdd hg, hzz1]; exact wr1 (by omega) (by omega)
  have ezz2 : g .w .add .i64 zz 2 = zz2 := by rw [goAdd hg, hzz2]; exact wr1 (by omega) (by omega)
  have tz : g .q .lss z1 many = decide (z1 < many) := goLss hg _ _
  by_cases hz : z1 < many
  rotate_left
  · cbv
    rw [ez, tz, decide_eq_false hz]
    cbv
    exact fin1 ⟨3, 1, E⟩ hF rfl pE ⟨_, rfl, rfl, ys, hyl, by rw [hE]⟩
  have hzE : z < lenI E := by rw [hE, vw_lenI]; omega
  have hcell : ∃ e, E[z.toNat]? = some e ∧ e.length = 1 := ⟨_, by rw [hE]; exact vw_at (List.getElem?_eq_getElem (show z.toNat < ys.length by omega)), rfl⟩
  have hset : ∀ v : Int, E.set z.toNat [.imm (.int .i64 v)] = vw intC (ys.set z.toNat v) := fun v => by rw [hE]; exact (vw_set _ _ _ _).symm
  have hsl : ∀ v : Int, ((ys.set z.toNat v).length : Int) = many := fun v => by rw [List.length_set]; exact hyl
  obtain ⟨Y1, i1, l1, x1, c1⟩ := cE free m1 (by omega) (by omega)
  obtain ⟨Y2, i2, l2, x2, c2⟩ := cE free mm (by omega) (by omega)
  obtain ⟨Y3, i3, l3, x3, c3⟩ := cE free mp (by omega) (by omega)
  obtain ⟨v1, hv1⟩ := x1 z h0 (by omega)
  obtain ⟨v2, hv2⟩ := x2 zz1 (by omega) (by omega)
  obtain ⟨v2b, hv2b⟩ := x2 zz2 (by omega) (by omega)
  obtain ⟨v3, hv3⟩ := x3 z1 (by omega) (by omega)
  have b1 : z < lenI Y1 := by omega
  have b2 : zz1 < lenI Y2 := by omega
  have b2b : zz2 < lenI Y2 := by omega
  have b3 : z1 < lenI Y3 := by omega
  have n1 : 0 ≤ z1 := by omega
  have n2 : 0 ≤ zz1 := by omega
  have n2b : 0 ≤ zz2 := by omega
  have z12 : z1 ≤ 12 := by omega
  have fuel : 12 - z1.toNat < 12 - z.toNat := by omega
  clear x1 x2 x3 cE
  cbv
  rw [ez, tz, decide_eq_true hz]
  cbv
  cases q4 : g .q .eql js 4 <;> cbv
  rotate_left
  · rw [em1]
    refine callRow hg c1 (dat_data rfl) i1 ?_
    cbv
    refine goY hg h0 b1 fun j hj hjl => ?_
    cbv
    refine ⟨_, by rw [hj]; exact hv1, ?_⟩
    cbv
    refine goY hg h0 hzE fun j2 hj2 hjl2 => ?_
    cbv
    refine goN hg (by rw [hj2]; exact hcell) ?_
    cbv
    rw [goSt hg, hj2, ez]
    have pS : plainE (E.set z.toNat [.imm (.int .i64 v1)]) = true := by rw [hset]; exact vw_plain _ _
    subst hB
    exact ⟨(z1, ys.set z.toNat v1, _), ⟨n1, z12, hsl v1, hset v1⟩, fuel, Wk.weak (wkG [some 0] ⟨rfl, rfl, rfl, rfl, rfl, trivial⟩ ⟨⟨_, _, rfl, rfl, rfl, rfl, .inl ⟨rfl, pS⟩⟩, trivial⟩ (by decide) no_lt)⟩
  cases q5 : g .q .eql js 5 <;> cbv
  rotate_left
  · rw [emm]
    refine callRow hg c2 (dat_data rfl) i2 ?_
    cbv
    rw [ezz, ezz1]
    refine goY hg n2 b2 fun j hj hjl => ?_
    cbv
    refine ⟨_, by rw [hj]; exact hv2, ?_⟩
    cbv
    rw [ezz, ezz2]
    refine goY hg n2b b2b fun j3 hj3 hjl3 => ?_
    cbv
    refine ⟨_, by rw [hj3]; exact hv2b, ?_⟩
    cbv
    refine goY hg h0 hzE fun j2 hj2 hjl2 => ?_
    cbv
    refine goN hg (by rw [hj2]; exact hcell) ?_
    cbv
    rw [goSt hg, hj2, ez]
    obtain ⟨v, hv⟩ : ∃ v, v = g .w .add .i64 v2 v2b := ⟨_, rfl⟩
    rw [← hv]
    have pS : plainE (E.set z.toNat [.imm (.int .i64 v)]) = true := by rw [hset]; exact vw_plain _ _
    subst hB
    exact ⟨(z1, ys.set z.toNat v, _), ⟨n1, z12, hsl v, hset v⟩, fuel, Wk.weak (wkG [some 0] ⟨rfl, rfl, rfl, rfl, rfl, trivial⟩ ⟨⟨_, _, rfl, rfl, rfl, rfl, .inl ⟨rfl, pS⟩⟩, trivial⟩ (by decide) no_lt)⟩
  cases q6 : g .q .eql js 6 <;> cbv
  · rw [ez]
    subst hB
    exact ⟨(z1, ys, E), ⟨n1, z12, hyl, hE⟩, fuel, Wk.weak (wkG [some 0] ⟨rfl, rfl, rfl, rfl, rfl, trivial⟩ ⟨⟨_, _, rfl, rfl, rfl, rfl, .inl ⟨rfl, pE⟩⟩, trivial⟩ (by decide) no_lt)⟩
  · rw [emp]
    refine callRow hg c3 (dat_data rfl) i3 ?_
    cbv
    rw [ez]
    refine goY hg n1 b3 fun j hj hjl => ?_
    cbv
    refine ⟨_, by rw [hj]; exact hv3, ?_⟩
    cbv
    refine goY hg h0 hzE fun j2 hj2 hjl2 => ?_
    cbv
    refine goN hg (by rw [hj2]; exact hcell) ?_
    cbv
    rw [goSt hg, hj2, ez]
    have pS : plainE (E.set z.toNat [.imm (.int .i64 v3)]) = true := by rw [hset]; exact vw_plain _ _
    subst hB
    exact ⟨(z1, ys.set z.toNat v3, _), ⟨n1, z12, hsl v3, hset v3⟩, fuel, Wk.weak (wkG [some 0] ⟨rfl, rfl, rfl, rfl, rfl, trivial⟩ ⟨⟨_, _, rfl, rfl, rfl, rfl, .inl ⟨rfl, pS⟩⟩, trivial⟩ (by decide) no_lt)⟩

end Go.Proofs.Ytcohgnecmgcajaa
