/- The reference's flexed lines, and the law CanFlex as a map of data. -/
import Derived.Test.YtcohgnecmgcajaaQ5
namespace Go.Proofs.Ytcohgnecmgcajaa
open Go.ChangeShapes Go.WideShapes Go.ChangeAt Go.RowKit Am
set_option linter.unusedVariables false
set_option linter.unusedSimpArgs false
set_option maxRecDepth 100000

def szo (G : Bool) (x : GItem) : Int := if held G x then hyp x else x.base
theorem szo_mix (G : Bool) : ∀ (xs : List GItem), mix xs (xs.map (held G)) (xs.map hyp) = xs.map (szo G)
  | [] => rfl
  | x :: xs => by simp only [List.map_cons, mix, szo_mix G xs]; rfl
theorem finFl2 {F : List AT → EH → Prop} {eh : EH} {z : List (List AC)} {p : Int} {t r : Nat} {D : List Int}
    (hF : F = FinP 0 (fun res h' => ∃ rows, h' = rows.map .live ∧ ∃ (p : Int), res = .tup [.c (.own 0), .c (.imm (.int .i64 p))] ∧ rows = [⟨t, 1, vw intC D⟩]))
    (h1 : nth eh r = some (.rw ⟨t, 1, z⟩)) (hz : z = vw intC D) : F [.c (.own r), .c (.imm (.int .i64 p))] eh := by
  subst hF hz
  exact .inl ⟨.tup [.c (.own 0), .c (.imm (.int .i64 p))], toH [.rw ⟨t, 1, vw intC D⟩], [some r],
    wkG [some r] ⟨⟨rfl, rfl, trivial⟩, trivial⟩ ⟨⟨_, _, nth_rw h1, rfl, rfl, rfl, .inl ⟨rfl, vw_plain _ _⟩⟩, trivial⟩ (by simp) no_lt, _, rfl, p, rfl, rfl⟩
theorem spec_Grows_a (xs : List GItem) (gap inner : Int) (hl : xs.length ≤ 1048576) : PCon Try.prog 29 [.c (.view (vw GItem.c xs)), ai gap, ai inner] fun res rows => res = .t (abl (groB xs gap inner)) ∧ rows = [] := by
  obtain ⟨V, hV⟩ : ∃ V, V = vw GItem.c xs := ⟨_, rfl⟩
  have hVl : V.length = xs.length := by rw [hV, vw_length]
  have iV : immE V = true := by rw [hV]; exact vw_imm _ _
  have kV : ∀ y ∈ V, y.length = 9 := by rw [hV]; exact vw_k (c := GItem.c) (k := 9) fun _ => rfl
  have dV : ∀ y ∈ V, y.all dat = true := by rw [hV]; exact vw_dat
  have c1 := spec_l13Hyps_a xs hl
  have c2 := spec_OuterOf_a xs (xs.map hyp) gap hl (by simpa using hl)
  obtain ⟨H, hH⟩ : ∃ H, H = vw intC (xs.map hyp) := ⟨_, rfl⟩
  have iH : immE H = true := by rw [hH]; exact vw_imm _ _
  have kH : ∀ y ∈ H, y.length = 1 := by rw [hH]; exact vw_k (c := intC) (k := 1) fun _ => rfl
  have dH : ∀ y ∈ H, y.all dat = true := by rw [hH]; exact vw_dat
  obtain ⟨O, hO⟩ : ∃ O, O = wrap64 (outer xs (xs.map hyp) gap) := ⟨_, rfl⟩
  rw [← hV, ← hH] at c1 c2
  rw [← hO] at c2
  rw [← hV]
  refine pcon_run (c := body Try.f29) fits Try.func29 (by kernel_rfl) (by kernel_rfl) (by rfl) (by kernel_rfl) fun g F hg hF => ?_
  cbv
  first | (refine callRow hg c1 (dat_data rfl) iH ?_; cbv) | (refine callRowP hg c1 (dat_data rfl) iH ?_; cbv)
  first | (refine callR hg c2 (resA_c (resDat rfl) (resA_c (resRow (ab := ⟨_, _, H⟩) rfl kH dH) (resA_c (resDat rfl) (resA_nil)))) rfl ?_; cbv) | (refine callRP hg c2 (resA_c (resDat rfl) (resA_c (resRow (ab := ⟨_, _, H⟩) rfl kH dH) (resA_c (resDat rfl) (resA_nil)))) rfl ?_; cbv)
  exact fin0b hF (by rw [goLss hg, groB, hO])
set_option maxHeartbeats 3200000 in
theorem spec_l13Flex_a (xs : List GItem) (gap inner : Int) (hl : xs.length ≤ 1048576) : PCon Try.prog 49 [.c (.view (vw GItem.c xs)), ai gap, ai inner] fun res rows => ∃ (p : Int), res = .tup [.c (.own 0), .c (.imm (.int .i64 p))] ∧ rows = [⟨3, 1, vw intC (flx xs gap inner)⟩] := by
  have c1 := spec_l13Hyps_a xs hl
  have c2 := spec_ItemsOk_a xs hl
  have c3 := spec_Grows_a xs gap inner hl
  have cw := fun (gr : Bool) (i : Int) (h0 : 0 ≤ i) (h1 : i < xs.length) (c1 c2 c4 c5 c6 : AC) => spec_l13Weight_a xs gr i h0 h1 c1 c2 c4 c5 c6
  obtain ⟨V, hV⟩ : ∃ V, V = vw GItem.c xs := ⟨_, rfl⟩
  have hVl : V.length = xs.length := by rw [hV, vw_length]
  have iV : immE V = true := by rw [hV]; exact vw_imm _ _
  have kV : ∀ y ∈ V, y.length = 9 := by rw [hV]; exact vw_k (c := GItem.c) (k := 9) fun _ => rfl
  have dV : ∀ y ∈ V, y.all dat = true := by rw [hV]; exact vw_dat
  obtain ⟨Z, hZ⟩ : ∃ H, H = vw intC (xs.map hyp) := ⟨_, rfl⟩
  have iZ : immE Z = true := by rw [hZ]; exact vw_imm _ _
  have pZ : plainE Z = true := imm_plainE iZ
  obtain ⟨D, hD⟩ : ∃ D, D = flx xs gap inner := ⟨_, rfl⟩
  obtain ⟨IO, hIO⟩ : ∃ b, b = itsOk xs := ⟨_, rfl⟩
  obtain ⟨G, hG⟩ : ∃ b, b = groB xs gap inner := ⟨_, rfl⟩
  simp only [← hV] at c1 c2 c3 cw
  rw [← hZ] at c1
  rw [← hIO] at c2
  rw [← hG] at c3
  rw [← hV, ← hD]
  obtain ⟨HL, hHL⟩ : ∃ HL, HL = xs.map (held G) := ⟨_, rfl⟩
  obtain ⟨SL, hSL⟩ : ∃ SL, SL = xs.map (szo G) := ⟨_, rfl⟩
  refine pcon_run (c := body Try.f49) fits Try.func49 (by kernel_rfl) (by kernel_rfl) (by rfl) (by kernel_rfl) fun g F hg hF => ?_
  cbv
  repeat' (first | (refine callB hg c2 rfl (fun R0 hR0 => ?_); cases R0 <;> cbv) | (refine callBP hg c2 rfl (fun R0 hR0 => ?_); cases R0 <;> cbv))
  · first | (refine callRow hg c1 (dat_data rfl) iZ ?_; cbv) | (refine callRowP hg c1 (dat_data rfl) iZ ?_; cbv)
    exact finFl2 hF rfl (by rw [hZ, hD, flx, if_neg (by rw [← hIO, ← hR0]; simp)])
  (first | refine callB hg (spec_l01In_a _ _ _) rfl (fun I1 hI1 => ?_) | refine callBP hg (spec_l01In_a _ _ _) rfl (fun I1 hI1 => ?_)); cbv
  cases I1 <;> cbv
  · first | (refine callRow hg c1 (dat_data rfl) iZ ?_; cbv) | (refine callRowP hg c1 (dat_data rfl) iZ ?_; cbv)
    exact finFl2 hF rfl (by rw [hZ, hD, flx, if_neg (by rw [inL, ← hI1]; simp)])
  (first | refine callB hg (spec_l01In_a _ _ _) rfl (fun I2 hI2 => ?_) | refine callBP hg (spec_l01In_a _ _ _) rfl (fun I2 hI2 => ?_)); cbv
  cases I2 <;> cbv
  · first | (refine callRow hg c1 (dat_data rfl) iZ ?_; cbv) | (refine callRowP hg c1 (dat_data rfl) iZ ?_; cbv)
    exact finFl2 hF rfl (by rw [hZ, hD, flx, if_neg (by rw [inL, inL, ← hI1, ← hI2]; simp)])
  have hok : (itsOk xs && inL gap && inL inner) = true := by rw [inL, inL, ← hI1, ← hI2, ← hIO, ← hR0]; rfl
  first | (refine callB hg c3 rfl (fun R hR => ?_); cbv) | (refine callBP hg c3 rfl (fun R hR => ?_); cbv)
  obtain rfl : G = R := hR.symm
  refine loop_go hg fits (by kernel_rfl) V (fun x => lc (GItem.c x)) xs hV hl (fun z (s : Int × (List Bool × List Int) × List (List AC) × List (List AC)) => [(0, .t (.c (.view V))), (8, .t (.c (.ptr 0 0 0))), (9, .t (ai (z)))]) (fun z (s : Int × (List Bool × List Int) × List (List AC) × List (List AC)) => [.bx 51 7 [.view V, .imm (.int .i64 gap), .imm (.int .i64 inner), .imm (.bool G), .own 1, .own 2, .imm (.int .i64 0)], .rw ⟨4, 1, s.2.2.1⟩, .rw ⟨3, 1, s.2.2.2⟩]) (fun z (s : Int × (List Bool × List Int) × List (List AC) × List (List AC)) => s.1 = z ∧ s.2.2.1 = vw bolC s.2.1.1 ∧ s.2.2.2 = vw intC s.2.1.2 ∧ (s.2.1.1.length : Int) = z ∧ (s.2.1.2.length : Int) = z) (fun (s : Int × (List Bool × List Int) × List (List AC) × List (List AC)) rest => (s.2.1.1 ++ rest.map (held G), s.2.1.2 ++ rest.map (szo G))) ((HL, SL)) (0, ([], []), [], []) (by rw [hHL, hSL]; rfl) ⟨rfl, rfl, rfl, rfl, rfl⟩ (Wk.weak (wkG [some 0, none, none] ⟨rfl, rfl, rfl, trivial⟩ ⟨⟨_, _, rfl, rfl, rfl, rfl, .inr ⟨⟨rfl, rfl, rfl, rfl, rfl, rfl, rfl, trivial⟩, trivial⟩⟩, ⟨_, rfl, rfl⟩, ⟨_, rfl, rfl⟩, trivial⟩ (by decide) no_lt)) (fun z s B hz h0 hi he => ?_) (fun z s x rest B z0 z1 z2 hx hy h0 hi hc e1 hB => ?_)
  rotate_left
  · obtain ⟨i, ⟨H, S⟩, eH, eS⟩ := s
    obtain ⟨k1, k2, k3, k4, k5⟩ := hi
    dsimp only at k1 k2 k3 k4 k5 h0
    subst k1
    have hVx : lenI V = (xs.length : Int) := by rw [hV, vw_lenI]
    have hxl2 : i < (xs.length : Int) := hVx ▸ z1
    have pH : plainE eH = true := by rw [k2]; exact vw_plain _ _
    have pS : plainE eS = true := by rw [k3]; exact vw_plain _ _
    have lH : eH.length ≤ 1048576 := by rw [k2, vw_length]; omega
    have lS : eS.length ≤ 1048576 := by rw [k3, vw_length]; omega
    have kH : ∀ y ∈ eH, y.length = 1 := by rw [k2]; exact vw_k (c := bolC) (k := 1) fun _ => rfl
    have dH : ∀ y ∈ eH, y.all dat = true := by rw [k2]; exact vw_dat
    have kS : ∀ y ∈ eS, y.length = 1 := by rw [k3]; exact vw_k (c := intC) (k := 1) fun _ => rfl
    have dS : ∀ y ∈ eS, y.all dat = true := by rw [k3]; exact vw_dat
    have cw1 := fun c1 c2 c4 c5 c6 => cw G i z0 hxl2 c1 c2 c4 c5 c6
    have hix : itA xs i = x := by unfold itA; rw [hx]; rfl
    obtain ⟨Q0, hQ0⟩ : ∃ w0, w0 = wgt G (itA xs i) := ⟨_, rfl⟩
    simp only [← hQ0] at cw1
    rw [hix] at hQ0
    obtain ⟨y0, y1, y2, y3, y4, y5, y6, y7, y8⟩ := x
    obtain ⟨HV, hHV⟩ : ∃ b, b = held G ⟨y0, y1, y2, y3, y4, y5, y6, y7, y8⟩ := ⟨_, rfl⟩
    obtain ⟨SV, hSV⟩ : ∃ b, b = szo G ⟨y0, y1, y2, y3, y4, y5, y6, y7, y8⟩ := ⟨_, rfl⟩
    have hel : HV = if wgt G ⟨y0, y1, y2, y3, y4, y5, y6, y7, y8⟩ = 0 then true else if G then decide (hyp ⟨y0, y1, y2, y3, y4, y5, y6, y7, y8⟩ < y0) else decide (y0 < hyp ⟨y0, y1, y2, y3, y4, y5, y6, y7, y8⟩) := hHV
    have hsv : SV = if HV then hyp ⟨y0, y1, y2, y3, y4, y5, y6, y7, y8⟩ else y0 := by rw [hSV, szo, ← hHV]
    cbv
    rw [hc]
    cbv
    refine goX hg _ z0 hy rfl ?_
    cbv
    (first | refine callI hg (spec_HypOf_a ⟨y0, y1, y2, y3, y4, y5, y6, y7, y8⟩) rfl (fun HY hHY => ?_) | refine callIP hg (spec_HypOf_a ⟨y0, y1, y2, y3, y4, y5, y6, y7, y8⟩) rfl (fun HY hHY => ?_)); cbv
    refine goX hg _ z0 hy rfl ?_
    cbv
    first | refine callR hg (cw1 _ _ (.view eH) (.view eS) _) (resA_t (resPtr rfl ⟨resDat rfl, resDat rfl, resDat rfl, resDat rfl, resRow (ab := ⟨_, _, eH⟩) rfl kH dH, resRow (ab := ⟨_, _, eS⟩) rfl kS dS, resDat rfl, trivial⟩) (resA_c (resDat rfl) resA_nil)) rfl ?_ | refine callRP hg (cw1 _ _ (.view eH) (.view eS) _) (resA_t (resPtr rfl ⟨resDat rfl, resDat rfl, resDat rfl, resDat rfl, resRow (ab := ⟨_, _, eH⟩) rfl kH dH, resRow (ab := ⟨_, _, eS⟩) rfl kS dS, resDat rfl, trivial⟩) (resA_c (resDat rfl) resA_nil)) rfl ?_
    cbv
    rw [← hHY, ← hQ0] at hel
    rw [← hHY] at hsv
    have t0 : g .q .eql Q0 0 = decide (Q0 = 0) := by rw [goEql hg]; rfl
    by_cases hq : Q0 = 0
    · rw [t0, decide_eq_true hq]
      rw [if_pos hq] at hel
      rw [hel, if_pos rfl] at hsv
      cbv
      have s1 : eH ++ [[.imm (.bool (true))]] = vw bolC (H ++ [HV]) := by rw [vw_snoc, k2, hel]; rfl
      have s2 : eS ++ [[.imm (.int .i64 HY)]] = vw intC (S ++ [SV]) := by rw [vw_snoc, k3, hsv]; rfl
      refine goNA1 hg rfl (by decide) lH ?_
      cbv
      refine goNA1 hg rfl (by decide) lS ?_
      cbv
      rw [e1]
      simp only [goAp hg]
      exact hB ((i + 1, (H ++ [HV], S ++ [SV]), _, _)) _ _ ⟨(by simpa [hHV, hSV] using h0), ⟨rfl, s1, s2, by simp; omega, by simp; omega⟩⟩ (Wk.weak (wkG [some _, some _, some _] ⟨rfl, rfl, rfl, trivial⟩ ⟨⟨_, _, rfl, rfl, rfl, rfl, .inr ⟨⟨rfl, rfl, rfl, rfl, rfl, rfl, rfl, trivial⟩, trivial⟩⟩, ⟨_, _, rfl, rfl, rfl, rfl, .inl ⟨rfl, s1.symm ▸ vw_plain _ _⟩⟩, ⟨_, _, rfl, rfl, rfl, rfl, .inl ⟨rfl, s2.symm ▸ vw_plain _ _⟩⟩, trivial⟩ (by decide) no_lt))
    · rw [t0, decide_eq_false hq]
      rw [if_neg hq] at hel
      cases hGc : G
      · rw [hGc] at hel
        cbv
        cases hqq : g .q .lss y0 HY
        · have hel2 : HV = false := by rw [hel]; rw [goLss hg] at hqq; exact hqq
          rw [hel2] at hsv
          cbv
          have s1 : eH ++ [[.imm (.bool (false))]] = vw bolC (H ++ [HV]) := by rw [vw_snoc, k2, hel2]; rfl
          have s2 : eS ++ [[.imm (.int .i64 y0)]] = vw intC (S ++ [SV]) := by rw [vw_snoc, k3, hsv]; rfl
          refine goNA1 hg rfl (by decide) lH ?_
          cbv
          refine goNA1 hg rfl (by decide) lS ?_
          cbv
          rw [e1]
          simp only [goAp hg]
          exact hB ((i + 1, (H ++ [HV], S ++ [SV]), _, _)) _ _ ⟨(by simpa [hHV, hSV] using h0), ⟨rfl, s1, s2, by simp; omega, by simp; omega⟩⟩ (Wk.weak (wkG [some _, some _, some _] ⟨rfl, rfl, rfl, trivial⟩ ⟨⟨_, _, rfl, rfl, rfl, rfl, .inr ⟨⟨rfl, rfl, rfl, (by rw [hGc]; exact rfl), rfl, rfl, rfl, trivial⟩, trivial⟩⟩, ⟨_, _, rfl, rfl, rfl, rfl, .inl ⟨rfl, s1.symm ▸ vw_plain _ _⟩⟩, ⟨_, _, rfl, rfl, rfl, rfl, .inl ⟨rfl, s2.symm ▸ vw_plain _ _⟩⟩, trivial⟩ (by decide) no_lt))
        · have hel2 : HV = true := by rw [hel]; rw [goLss hg] at hqq; exact hqq
          rw [hel2] at hsv
          cbv
          have s1 : eH ++ [[.imm (.bool (true))]] = vw bolC (H ++ [HV]) := by rw [vw_snoc, k2, hel2]; rfl
          have s2 : eS ++ [[.imm (.int .i64 HY)]] = vw intC (S ++ [SV]) := by rw [vw_snoc, k3, hsv]; rfl
          refine goNA1 hg rfl (by decide) lH ?_
          cbv
          refine goNA1 hg rfl (by decide) lS ?_
          cbv
          rw [e1]
          simp only [goAp hg]
          exact hB ((i + 1, (H ++ [HV], S ++ [SV]), _, _)) _ _ ⟨(by simpa [hHV, hSV] using h0), ⟨rfl, s1, s2, by simp; omega, by simp; omega⟩⟩ (Wk.weak (wkG [some _, some _, some _] ⟨rfl, rfl, rfl, trivial⟩ ⟨⟨_, _, rfl, rfl, rfl, rfl, .inr ⟨⟨rfl, rfl, rfl, (by rw [hGc]; exact rfl), rfl, rfl, rfl, trivial⟩, trivial⟩⟩, ⟨_, _, rfl, rfl, rfl, rfl, .inl ⟨rfl, s1.symm ▸ vw_plain _ _⟩⟩, ⟨_, _, rfl, rfl, rfl, rfl, .inl ⟨rfl, s2.symm ▸ vw_plain _ _⟩⟩, trivial⟩ (by decide) no_lt))
      · rw [hGc] at hel
        cbv
        cases hqq : g .q .gtr y0 HY
        · have hel2 : HV = false := by rw [hel]; rw [goGtr hg] at hqq; exact hqq
          rw [hel2] at hsv
          cbv
          have s1 : eH ++ [[.imm (.bool (false))]] = vw bolC (H ++ [HV]) := by rw [vw_snoc, k2, hel2]; rfl
          have s2 : eS ++ [[.imm (.int .i64 y0)]] = vw intC (S ++ [SV]) := by rw [vw_snoc, k3, hsv]; rfl
          refine goNA1 hg rfl (by decide) lH ?_
          cbv
          refine goNA1 hg rfl (by decide) lS ?_
          cbv
          rw [e1]
          simp only [goAp hg]
          exact hB ((i + 1, (H ++ [HV], S ++ [SV]), _, _)) _ _ ⟨(by simpa [hHV, hSV] using h0), ⟨rfl, s1, s2, by simp; omega, by simp; omega⟩⟩ (Wk.weak (wkG [some _, some _, some _] ⟨rfl, rfl, rfl, trivial⟩ ⟨⟨_, _, rfl, rfl, rfl, rfl, .inr ⟨⟨rfl, rfl, rfl, (by rw [hGc]; exact rfl), rfl, rfl, rfl, trivial⟩, trivial⟩⟩, ⟨_, _, rfl, rfl, rfl, rfl, .inl ⟨rfl, s1.symm ▸ vw_plain _ _⟩⟩, ⟨_, _, rfl, rfl, rfl, rfl, .inl ⟨rfl, s2.symm ▸ vw_plain _ _⟩⟩, trivial⟩ (by decide) no_lt))
        · have hel2 : HV = true := by rw [hel]; rw [goGtr hg] at hqq; exact hqq
          rw [hel2] at hsv
          cbv
          have s1 : eH ++ [[.imm (.bool (true))]] = vw bolC (H ++ [HV]) := by rw [vw_snoc, k2, hel2]; rfl
          have s2 : eS ++ [[.imm (.int .i64 HY)]] = vw intC (S ++ [SV]) := by rw [vw_snoc, k3, hsv]; rfl
          refine goNA1 hg rfl (by decide) lH ?_
          cbv
          refine goNA1 hg rfl (by decide) lS ?_
          cbv
          rw [e1]
          simp only [goAp hg]
          exact hB ((i + 1, (H ++ [HV], S ++ [SV]), _, _)) _ _ ⟨(by simpa [hHV, hSV] using h0), ⟨rfl, s1, s2, by simp; omega, by simp; omega⟩⟩ (Wk.weak (wkG [some _, some _, some _] ⟨rfl, rfl, rfl, trivial⟩ ⟨⟨_, _, rfl, rfl, rfl, rfl, .inr ⟨⟨rfl, rfl, rfl, (by rw [hGc]; exact rfl), rfl, rfl, rfl, trivial⟩, trivial⟩⟩, ⟨_, _, rfl, rfl, rfl, rfl, .inl ⟨rfl, s1.symm ▸ vw_plain _ _⟩⟩, ⟨_, _, rfl, rfl, rfl, rfl, .inl ⟨rfl, s2.symm ▸ vw_plain _ _⟩⟩, trivial⟩ (by decide) no_lt))
  · obtain ⟨i, ⟨H, S⟩, eH, eS⟩ := s
    obtain ⟨k1, k2, k3, k4, k5⟩ := hi
    dsimp only at k1 k2 k3 k4 k5 h0
    simp only [List.map_nil, List.append_nil, Prod.mk.injEq] at h0
    obtain rfl : HL = H := h0.1.symm
    obtain rfl : SL = S := h0.2.symm
    have pH : plainE eH = true := by rw [k2]; exact vw_plain _ _
    have pS : plainE eS = true := by rw [k3]; exact vw_plain _ _
    have hHl : HL.length = xs.length := by rw [hHL, List.length_map]
    have hSl : SL.length = xs.length := by rw [hSL, List.length_map]
    obtain ⟨X, hX⟩ : ∃ X, X = Fx.of xs gap inner := ⟨_, rfl⟩
    have hXo : itsOk X.xs = true := by
      rw [hX]
      simp only [Bool.and_eq_true] at hok
      exact hok.1.1
    have hx12 := (itsOk_mem hXo).2
    have hXx : X.xs = xs := by rw [hX]; rfl
    obtain ⟨r, hr1, hr2⟩ := Fx.run_some hXo 13 (xs.map hyp) HL (by rw [hXx]; exact hHl) (by have := fre_len HL 0; rw [hXx] at hx12; omega)
    have hDr : D = r := by rw [hD, flx, if_pos hok, ← hG, ← hHL, ← hX, hr1]; rfl
    have hrS : X.runS 13 SL HL = some r := by
      have := Fx.run_eq hXo 13 (xs.map hyp) HL (by rw [hXx]; exact hHl) (by rw [hXx, List.length_map])
      rw [hr1, hXx, hHL, szo_mix, ← hSL, ← hHL] at this
      exact this
    cbv; rw [he]; cbv
    refine loop_fu hg fits (by kernel_rfl) (fun s : (List Int × List Bool × Int) × List (List AC) × List (List AC) => [(8, .t (.c (.ptr 0 0 0)))]) (fun s => [.bx 51 7 [.view V, .imm (.int .i64 gap), .imm (.int .i64 inner), .imm (.bool G), .own 1, .own 2, .imm (.int .i64 s.1.2.2)], .rw ⟨4, 1, s.2.2⟩, .rw ⟨3, 1, s.2.1⟩])
      (fun s => s.2.1 = vw intC s.1.1 ∧ s.2.2 = vw bolC s.1.2.1 ∧ s.1.1.length = xs.length ∧ s.1.2.1.length = xs.length) (fun k s => X.runS k s.1.1 s.1.2.1) r 13 ((SL, HL, 0), eS, eH) hrS ⟨k3, k2, hSl, hHl⟩ (Wk.weak (wkG [some 0, some 1, some 2] ⟨rfl, trivial⟩ ⟨⟨_, _, rfl, rfl, rfl, rfl, .inr ⟨⟨rfl, rfl, rfl, rfl, rfl, rfl, rfl, trivial⟩, trivial⟩⟩, ⟨_, _, rfl, rfl, rfl, rfl, .inl ⟨rfl, pH⟩⟩, ⟨_, _, rfl, rfl, rfl, rfl, .inl ⟨rfl, pS⟩⟩, trivial⟩ (by decide) no_lt)) (fun s k B h0 hi hB => ?_)
    obtain ⟨⟨sz, fr, p⟩, eZ, eR⟩ := s
    obtain ⟨k1, k2, k3, k4⟩ := hi
    dsimp only at k1 k2 k3 k4 h0
    cases k with
    | zero => cases h0
    | succ k =>
      rw [Fx.runS] at h0
      have cp := spec_l13Pass_a X hXo sz fr (by rw [hXx]; exact k3) (by rw [hXx]; exact k4) p
      have qZ : plainE eZ = true := by rw [k1]; exact vw_plain _ _
      have qR : plainE eR = true := by rw [k2]; exact vw_plain _ _
      obtain ⟨rt, hrt⟩ : ∃ rt, rt = rstN X.xs sz X.gap X.inner X.gr := ⟨_, rfl⟩
      have hXg : X.gap = gap := by rw [hX]; rfl
      have hXi : X.inner = inner := by rw [hX]; rfl
      have hXr : X.gr = G := by rw [hX, hG]; rfl
      rw [← hrt] at cp h0
      simp only [Fx.bx, hXx, hXg, hXi, hXr, ← hV, ← k1, ← k2] at cp
      cbv
      refine callH hg [0, 1, 2] cp (by decide) (fun r hr => by simp only [List.mem_cons, List.not_mem_nil, or_false] at hr; simp only [List.length_cons, List.length_nil]; omega) ⟨⟨_, _, rfl, rfl, rfl, rfl, .inr ⟨⟨rfl, rfl, rfl, rfl, rfl, rfl, rfl, trivial⟩, trivial⟩⟩, ⟨_, _, rfl, rfl, rfl, rfl, .inl ⟨rfl, qR⟩⟩, ⟨_, _, rfl, rfl, rfl, rfl, .inl ⟨rfl, qZ⟩⟩, trivial⟩ ⟨rfl, trivial⟩ fun res eh hq => ?_
      obtain ⟨p', sz', fr', rfl, rfl, h1, h2⟩ := hq
      obtain ⟨Z', hZ'⟩ : ∃ Z', Z' = vw intC sz' := ⟨_, rfl⟩
      obtain ⟨R', hR'⟩ : ∃ R', R' = vw bolC fr' := ⟨_, rfl⟩
      have pZ' : plainE Z' = true := by rw [hZ']; exact vw_plain _ _
      have pR' : plainE R' = true := by rw [hR']; exact vw_plain _ _
      rw [← hZ', ← hR']
      simp only [putBack, EE.mv, mv_rowE pZ', mv_rowE pR']
      by_cases hn : fre 0 fr = []
      · rw [if_pos hn] at h0 h1 h2
        rw [show decide (fre 0 fr ≠ []) = false by simp [hn]]
        cbv
        subst h1 h2
        exact finFl2 hF rfl (by rw [hZ', hDr]; cases h0; rfl)
      · rw [if_neg hn] at h0 h1 h2
        rw [show decide (fre 0 fr ≠ []) = true by simp [hn]]
        cbv
        refine hB k ((sz', fr', p'), Z', R') _ _ (Nat.lt_succ_self k) (by rw [h1, h2]; exact h0) ⟨hZ', hR', by rw [h1, setz_len]; exact k3, by rw [h2, setb_len]; exact k4⟩ (Wk.weak (wkG [some 0, some 1, some 2] ⟨rfl, trivial⟩ ⟨⟨_, _, rfl, rfl, rfl, rfl, .inr ⟨⟨rfl, rfl, rfl, rfl, rfl, rfl, rfl, trivial⟩, trivial⟩⟩, ⟨_, _, rfl, rfl, rfl, rfl, .inl ⟨rfl, pR'⟩⟩, ⟨_, _, rfl, rfl, rfl, rfl, .inl ⟨rfl, pZ'⟩⟩, trivial⟩ (by decide) no_lt))
theorem spec_FlexLine_a (xs : List GItem) (gap inner : Int) (hl : xs.length ≤ 1048576) : PCon Try.prog 30 [.c (.view (vw GItem.c xs)), ai gap, ai inner] fun res rows => res = .t (.c (.own 0)) ∧ rows = [⟨3, 1, vw intC (flx xs gap inner)⟩] := by
  have cf := spec_l13Flex_a xs gap inner hl
  obtain ⟨V, hV⟩ : ∃ V, V = vw GItem.c xs := ⟨_, rfl⟩
  obtain ⟨D, hD⟩ : ∃ D, D = vw intC (flx xs gap inner) := ⟨_, rfl⟩
  have pD : plainE D = true := by rw [hD]; exact vw_plain _ _
  rw [← hV, ← hD] at cf
  rw [← hV, ← hD]
  refine pcon_run (c := body Try.f30) fits Try.func30 (by kernel_rfl) (by kernel_rfl) (by rfl) (by kernel_rfl) fun g F hg hF => ?_
  cbv
  refine callC hg (pcall_pure cf rfl fun res rows hq => ?_)
  obtain ⟨p, rfl, rfl⟩ := hq
  refine ⟨[.rw ⟨3, 1, D⟩], by simp only [List.map_cons, List.map_nil, shift_row (ab := ⟨3, 1, D⟩) pD]; rfl, ?_⟩
  cbv
  exact finRow hF rfl pD
theorem spec_AtBound_a (x : GItem) (s : Int) : PCon Try.prog 19 [.agg (lc (GItem.c x)), ai s] fun res rows => res = .t (abl (atB x s)) ∧ rows = [] := by
  have hBS := atB_S x s
  obtain ⟨y0, y1, y2, y3, y4, y5, y6, y7, y8⟩ := x
  obtain ⟨B, hB⟩ : ∃ B, B = atB ⟨y0, y1, y2, y3, y4, y5, y6, y7, y8⟩ s := ⟨_, rfl⟩
  have hB2 : B = (decide (s = y1) || (decide (0 ≤ y2) && decide (s = uppS ⟨y0, y1, y2, y3, y4, y5, y6, y7, y8⟩))) := by rw [hB]; exact hBS
  rw [← hB]
  refine pcon_run (c := body Try.f19) fits Try.func19 (by kernel_rfl) (by kernel_rfl) (by rfl) (by kernel_rfl) fun g F hg hF => ?_
  cbv
  have t0 : g .q .eql s y1 = decide (s = y1) := by rw [goEql hg]; rfl
  have t1 : g .q .geq y2 0 = decide (0 ≤ y2) := by rw [goGeq hg]
  rw [← t0, ← t1] at hB2
  cases h0 : g .q .eql s y1
  · rw [h0] at hB2
    cbv
    cases h1 : g .q .geq y2 0
    · rw [h1] at hB2
      cbv
      exact fin0b hF hB2.symm
    · rw [h1] at hB2
      cbv
      (first | refine callI hg (spec_l13Most_a ⟨y0, y1, y2, y3, y4, y5, y6, y7, y8⟩) rfl (fun Q0 hQ0 => ?_) | refine callIP hg (spec_l13Most_a ⟨y0, y1, y2, y3, y4, y5, y6, y7, y8⟩) rfl (fun Q0 hQ0 => ?_)); cbv
      exact fin0b hF (by rw [hB2, goEql hg, hQ0]; simp; rfl)
  · rw [h0] at hB2
    cbv
    exact fin0b hF (by rw [hB2]; rfl)
set_option maxHeartbeats 1600000 in
theorem spec_CanFlex_a (xs : List GItem) (gap inner : Int) (hl : xs.length ≤ 1048576) : PCon Try.prog 7 [.c (.view (vw GItem.c xs)), ai gap, ai inner] fun res rows => res = .t (abl (canF xs gap inner)) ∧ rows = [] := by
  have c1 := spec_Grows_a xs gap inner hl
  have c2 := spec_FlexLine_a xs gap inner hl
  have cw := fun (gr : Bool) (i : Int) (h0 : 0 ≤ i) (h1 : i < xs.length) (c1 c2 c4 c5 c6 : AC) => spec_l13Weight_a xs gr i h0 h1 c1 c2 c4 c5 c6
  have hfl := flx_len xs gap inner
  obtain ⟨zs, hzs⟩ : ∃ zs, zs = xs.zip (flx xs gap inner) := ⟨_, rfl⟩
  obtain ⟨V, hV0⟩ : ∃ V, V = vw GItem.c xs := ⟨_, rfl⟩
  have hV : V = zs.map fun t => lc (GItem.c t.1) := by
    rw [hV0, hzs, vw]
    conv => lhs; rw [← List.map_fst_zip (l₁ := xs) (l₂ := flx xs gap inner) (by omega)]
    rw [List.map_map]; rfl
  have hzl : zs.length ≤ 1048576 := by rw [hzs, List.length_zip]; omega
  obtain ⟨D, hD⟩ : ∃ D, D = vw intC (flx xs gap inner) := ⟨_, rfl⟩
  have iD : immE D = true := by rw [hD]; exact vw_imm _ _
  have pD : plainE D = true := imm_plainE iD
  obtain ⟨G, hG⟩ : ∃ b, b = groB xs gap inner := ⟨_, rfl⟩
  obtain ⟨B0, hB0⟩ : ∃ B, B = canF xs gap inner := ⟨_, rfl⟩
  have hB1 : zs.any (canT G) = B0 := by rw [hB0, canF, hzs, hG]
  simp only [← hV0] at c1 c2 cw
  rw [← hG] at c1
  rw [← hD] at c2
  rw [← hV0, ← hB0]
  refine pcon_run (c := body Try.f7) fits Try.func7 (by kernel_rfl) (by kernel_rfl) (by rfl) (by kernel_rfl) fun g F hg hF => ?_
  cbv
  (first | refine call0 hg (c1) rfl rfl ?_ | refine call0P hg (c1) rfl rfl ?_); cbv
  first | (refine callRow hg c2 (dat_data rfl) iD ?_; cbv) | (refine callRowP hg c2 (dat_data rfl) iD ?_; cbv)
  refine loop_go hg fits (by kernel_rfl) V (fun t => lc (GItem.c t.1)) zs hV hzl (fun z (s : Unit) => [(0, .t (.c (.view V))), (7, .t (.c (.ptr 0 0 0))), (8, .t (.c (.own 1))), (9, .t (ai (z)))]) (fun z (s : Unit) => [.bx 51 7 [.view V, .imm (.int .i64 0), .imm (.int .i64 0), .imm (.bool G), .imm (.slice none 0 0), .imm (.slice none 0 0), .imm (.int .i64 0)], .rw ⟨3, 1, D⟩]) (fun z (s : Unit) => True) (fun (s : Unit) rest => rest.any (canT G)) (B0) () hB1 trivial (Wk.weak (wkG [some 0, some 1] ⟨rfl, rfl, rfl, rfl, trivial⟩ ⟨⟨_, _, rfl, rfl, rfl, rfl, .inr ⟨⟨rfl, rfl, rfl, rfl, rfl, rfl, rfl, trivial⟩, trivial⟩⟩, ⟨_, _, rfl, rfl, rfl, rfl, .inl ⟨rfl, pD⟩⟩, trivial⟩ (by decide) no_lt)) (fun z s B hz h0 hi he => ?_) (fun z s x rest B z0 z1 z2 hx hy h0 hi hc e1 hB => ?_)
  · cbv; rw [he]; cbv
    exact fin0b hF (by rw [← h0]; rfl)
  · obtain ⟨x, s⟩ := x
    have q12 := hx
    rw [hzs, List.getElem?_zip_eq_some] at q12
    obtain ⟨hx1, hx2⟩ := q12
    have hzx : z < (xs.length : Int) := by have := (List.getElem?_eq_some_iff.1 hx1).1; omega
    have hzD : z < lenI D := by
      rw [hD, vw_lenI, hfl]
      exact hzx
    have hcT : canT G (x, s) = (decide (0 < wgt G x) && !atB x s) := rfl
    rw [List.any_cons, hcT] at h0
    have cw1 := fun c1 c2 c4 c5 c6 => cw G z z0 hzx c1 c2 c4 c5 c6
    have hix : itA xs z = x := by unfold itA; rw [hx1]; rfl
    obtain ⟨Q0, hQ0⟩ : ∃ w0, w0 = wgt G (itA xs z) := ⟨_, rfl⟩
    simp only [← hQ0] at cw1
    rw [hix] at hQ0
    cbv
    rw [hc]
    cbv
    first | refine callR hg (cw1 _ _ _ _ _) (resA_t (resPtr rfl ⟨resDat rfl, resDat rfl, resDat rfl, resDat rfl, resDat rfl, resDat rfl, resDat rfl, trivial⟩) (resA_c (resDat rfl) resA_nil)) rfl ?_ | refine callRP hg (cw1 _ _ _ _ _) (resA_t (resPtr rfl ⟨resDat rfl, resDat rfl, resDat rfl, resDat rfl, resDat rfl, resDat rfl, resDat rfl, trivial⟩) (resA_c (resDat rfl) resA_nil)) rfl ?_
    cbv
    have tt : g .q .gtr Q0 0 = decide (0 < Q0) := by rw [goGtr hg]
    rw [← hQ0, ← tt] at h0
    cases hq : g .q .gtr Q0 0
    · rw [hq] at h0
      cbv
      rw [e1]
      exact hB (()) _ _ ⟨(by simpa using h0), trivial⟩ (Wk.weak (wkG [some 0, some 1] ⟨rfl, rfl, rfl, rfl, trivial⟩ ⟨⟨_, _, rfl, rfl, rfl, rfl, .inr ⟨⟨rfl, rfl, rfl, rfl, rfl, rfl, rfl, trivial⟩, trivial⟩⟩, ⟨_, _, rfl, rfl, rfl, rfl, .inl ⟨rfl, pD⟩⟩, trivial⟩ (by decide) no_lt))
    · rw [hq] at h0
      cbv
      refine goX hg _ z0 hy rfl ?_
      cbv
      refine goY hg z0 hzD fun j hj hjl => ?_
      cbv
      refine ⟨_, by rw [hj, hD]; exact vw_at hx2, ?_⟩
      cbv
      (first | refine callB hg (spec_AtBound_a x s) rfl (fun Q1 hQ1 => ?_) | refine callBP hg (spec_AtBound_a x s) rfl (fun Q1 hQ1 => ?_)); cbv
      rw [← hQ1] at h0
      cases Q1 <;> cbv
      · exact fin0b hF (by rw [← h0]; rfl)
      · rw [e1]
        exact hB (()) _ _ ⟨(by simpa using h0), trivial⟩ (Wk.weak (wkG [some 0, some 1] ⟨rfl, rfl, rfl, rfl, trivial⟩ ⟨⟨_, _, rfl, rfl, rfl, rfl, .inr ⟨⟨rfl, rfl, rfl, rfl, rfl, rfl, rfl, trivial⟩, trivial⟩⟩, ⟨_, _, rfl, rfl, rfl, rfl, .inl ⟨rfl, pD⟩⟩, trivial⟩ (by decide) no_lt))

end Go.Proofs.Ytcohgnecmgcajaa
