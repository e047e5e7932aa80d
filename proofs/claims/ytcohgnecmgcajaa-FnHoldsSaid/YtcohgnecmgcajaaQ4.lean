/- The program's flexed lines, as maps of data. -/
import Derived.Test.YtcohgnecmgcajaaQ3
namespace Go.Proofs.Ytcohgnecmgcajaa
open Go.ChangeShapes Go.WideShapes Go.ChangeAt Go.RowKit Am
set_option linter.unusedVariables false
set_option linter.unusedSimpArgs false
set_option maxRecDepth 100000

def held (gr : Bool) (x : GItem) : Bool := if wgt gr x = 0 then true else if gr then decide (hyp x < x.base) else decide (x.base < hyp x)
def inL (n : Int) : Bool := decide (0 ≤ n) && decide (n ≤ 1048576)
def Fx.of (xs : List GItem) (gap inner : Int) : Fx := ⟨xs, gap, inner, groB xs gap inner⟩
/-- The sizes of a line that flexes. -/
def flx (xs : List GItem) (gap inner : Int) : List Int :=
  if (itsOk xs && inL gap && inL inner) = true then ((Fx.of xs gap inner).runI 13 (xs.map hyp) (xs.map (held (groB xs gap inner)))).getD [] else xs.map hyp
def hgo (gr : Bool) : Int → List Bool → List GItem → List Bool
  | _, m, [] => m
  | i, m, x :: r => hgo gr (i + 1) (m.set i.toNat (held gr x)) r
theorem hgo_eq (gr : Bool) : ∀ (xs : List GItem) (dn tl : List Bool), tl.length = xs.length → hgo gr dn.length (dn ++ tl) xs = dn ++ xs.map (held gr)
  | [], dn, [], _ => by simp [hgo]
  | [], _, _ :: _, h => by simp at h
  | _ :: _, _, [], h => by simp at h
  | x :: xs, dn, b :: tl, h => by
    have ih := hgo_eq gr xs (dn ++ [held gr x]) tl (by simpa using h)
    rw [hgo]
    have e1 : (dn ++ b :: tl).set ((dn.length : Int)).toNat (held gr x) = (dn ++ [held gr x]) ++ tl := by simp
    have e2 : (dn.length : Int) + 1 = ((dn ++ [held gr x]).length : Int) := by simp
    rw [e1, e2, ih]
    simp
theorem hgo_all (gr : Bool) (xs : List GItem) : hgo gr 0 (List.replicate xs.length false) xs = xs.map (held gr) := by
  have := hgo_eq gr xs [] (List.replicate xs.length false) (by simp)
  simpa using this
theorem vw_rep {α : Type} (c : α → Array Value) (n : Nat) (x : α) : vw c (List.replicate n x) = List.replicate n (lc (c x)) := by simp [vw]
theorem mv_rowE {es : List (List AC)} (h : plainE es = true) (t k : Nat) (s : Nat → Nat) : AB.mv s ⟨t, k, es⟩ = ⟨t, k, es⟩ := by
  refine congrArg (AB.mk t k) ?_
  refine (List.map_congr_left fun x hx => ?_).trans (List.map_id es)
  refine (List.map_congr_left fun c hc => ?_).trans (List.map_id x)
  have hp := List.all_eq_true.1 (List.all_eq_true.1 h x hx) c hc
  cases c <;> first | rfl | cases hp
theorem finFl {F : List AT → EH → Prop} {eh : EH} {V z r : List (List AC)} {gap inner p : Int} {gr : Bool} {t1 t2 : Nat} {D : List Int} {fr : List Bool}
    (hF : F = FinP 0 (fun res h' => ∃ rows, h' = rows.map .live ∧ ∃ (p : Int) (gr : Bool) (fr : List Bool), res = .t (.agg [.view V, .imm (.int .i64 gap), .imm (.int .i64 inner), .imm (.bool gr), .own 0, .own 1, .imm (.int .i64 p)]) ∧ rows = [⟨t1, 1, vw intC D⟩, ⟨t2, 1, vw bolC fr⟩]))
    (h1 : nth eh 1 = some (.rw ⟨t1, 1, z⟩)) (h2 : nth eh 2 = some (.rw ⟨t2, 1, r⟩)) (hz : z = vw intC D) (hr : r = vw bolC fr) : F [.agg [.view V, .imm (.int .i64 gap), .imm (.int .i64 inner), .imm (.bool gr), .own 1, .own 2, .imm (.int .i64 p)]] eh := by
  subst hF hz hr
  exact .inl ⟨.t (.agg [.view V, .imm (.int .i64 gap), .imm (.int .i64 inner), .imm (.bool gr), .own 0, .own 1, .imm (.int .i64 p)]), toH [.rw ⟨t1, 1, vw intC D⟩, .rw ⟨t2, 1, vw bolC fr⟩], [some 1, some 2],
    wkG [some 1, some 2] ⟨.inr ⟨rfl, rfl, rfl, rfl, rfl, rfl, rfl, trivial⟩, trivial⟩ ⟨⟨_, _, nth_rw h1, rfl, rfl, rfl, .inl ⟨rfl, vw_plain _ _⟩⟩, ⟨_, _, nth_rw h2, rfl, rfl, rfl, .inl ⟨rfl, vw_plain _ _⟩⟩, trivial⟩ (by decide) no_lt, _, rfl, p, gr, fr, rfl, rfl⟩
theorem impl_Grows_a (xs : List GItem) (gap inner : Int) (hl : xs.length ≤ 1048576) : PCon Try.prog 27 [.c (.view (vw GItem.c xs)), ai gap, ai inner] fun res rows => res = .t (abl (groB xs gap inner)) ∧ rows = [] := by
  obtain ⟨V, hV⟩ : ∃ V, V = vw GItem.c xs := ⟨_, rfl⟩
  have hVl : V.length = xs.length := by rw [hV, vw_length]
  have iV : immE V = true := by rw [hV]; exact vw_imm _ _
  have kV : ∀ y ∈ V, y.length = 9 := by rw [hV]; exact vw_k (c := GItem.c) (k := 9) fun _ => rfl
  have dV : ∀ y ∈ V, y.all dat = true := by rw [hV]; exact vw_dat
  have c1 := impl_hypsOf_a xs hl
  have c2 := impl_OuterOf_a xs (xs.map hyp) gap hl (by simpa using hl)
  obtain ⟨H, hH⟩ : ∃ H, H = vw intC (xs.map hyp) := ⟨_, rfl⟩
  have iH : immE H = true := by rw [hH]; exact vw_imm _ _
  have kH : ∀ y ∈ H, y.length = 1 := by rw [hH]; exact vw_k (c := intC) (k := 1) fun _ => rfl
  have dH : ∀ y ∈ H, y.all dat = true := by rw [hH]; exact vw_dat
  obtain ⟨O, hO⟩ : ∃ O, O = wrap64 (outer xs (xs.map hyp) gap) := ⟨_, rfl⟩
  rw [← hV, ← hH] at c1 c2
  rw [← hO] at c2
  rw [← hV]
  refine pcon_run (c := body Try.f27) fits Try.func27 (by kernel_rfl) (by kernel_rfl) (by rfl) (by kernel_rfl) fun g F hg hF => ?_
  cbv
  first | (refine callRow hg c1 (dat_data rfl) iH ?_; cbv) | (refine callRowP hg c1 (dat_data rfl) iH ?_; cbv)
  first | (refine callR hg c2 (resA_c (resDat rfl) (resA_c (resRow (ab := ⟨_, _, H⟩) rfl kH dH) (resA_c (resDat rfl) (resA_nil)))) rfl ?_; cbv) | (refine callRP hg c2 (resA_c (resDat rfl) (resA_c (resRow (ab := ⟨_, _, H⟩) rfl kH dH) (resA_c (resDat rfl) (resA_nil)))) rfl ?_; cbv)
  exact fin0b hF (by rw [goLss hg, groB, hO])
set_option maxHeartbeats 3200000 in
theorem impl_flexed_a (xs : List GItem) (gap inner : Int) (hl : xs.length ≤ 1048576) : PCon Try.prog 32 [.c (.view (vw GItem.c xs)), ai gap, ai inner] fun res rows => ∃ (p : Int) (gr : Bool) (fr : List Bool),
    res = .t (.agg [.view (vw GItem.c xs), .imm (.int .i64 gap), .imm (.int .i64 inner), .imm (.bool gr), .own 0, .own 1, .imm (.int .i64 p)]) ∧ rows = [⟨3, 1, vw intC (flx xs gap inner)⟩, ⟨4, 1, vw bolC fr⟩] := by
  have c1 := impl_hypsOf_a xs hl
  have c2 := impl_ItemsOk_a xs hl
  have c3 := impl_Grows_a xs gap inner hl
  obtain ⟨V, hV⟩ : ∃ V, V = vw GItem.c xs := ⟨_, rfl⟩
  have hVl : V.length = xs.length := by rw [hV, vw_length]
  have iV : immE V = true := by rw [hV]; exact vw_imm _ _
  have kV : ∀ y ∈ V, y.length = 9 := by rw [hV]; exact vw_k (c := GItem.c) (k := 9) fun _ => rfl
  have dV : ∀ y ∈ V, y.all dat = true := by rw [hV]; exact vw_dat
  obtain ⟨Z, hZ⟩ : ∃ H, H = vw intC (xs.map hyp) := ⟨_, rfl⟩
  have iZ : immE Z = true := by rw [hZ]; exact vw_imm _ _
  have pZ : plainE Z = true := imm_plainE iZ
  obtain ⟨D, hD⟩ : ∃ D, D = flx xs gap inner := ⟨_, rfl⟩
  obtain ⟨IO, hIO⟩ : ∃ b, b = itsOk xs := ⟨_, rfl⟩
  obtain ⟨G, hG⟩ : ∃ b, b = groB xs gap inner := ⟨_, rfl⟩
  rw [← hV] at c1 c2 c3
  rw [← hZ] at c1
  rw [← hIO] at c2
  rw [← hG] at c3
  rw [← hV, ← hD]
  refine pcon_run (c := body Try.f32) fits Try.func32 (by kernel_rfl) (by kernel_rfl) (by rfl) (by kernel_rfl) fun g F hg hF => ?_
  cbv
  first | (refine callRow hg c1 (dat_data rfl) iZ ?_; cbv) | (refine callRowP hg c1 (dat_data rfl) iZ ?_; cbv)
  refine goMk hg (by decide) (by omega) ?_
  cbv
  generalize hM : g .rp (g .ln V) _ = M0
  replace hM : M0 = vw bolC (List.replicate xs.length false) := by
    rw [← hM, goRp hg, goLn hg, hV, vw_lenI, vw_rep]
    rfl
  have pM : plainE M0 = true := by rw [hM]; exact vw_plain _ _
  have hh0 := hgo_all G xs
  obtain ⟨HL, hHL⟩ : ∃ HL, HL = xs.map (held G) := ⟨_, rfl⟩
  rw [← hHL] at hh0
  repeat' (first | (refine callB hg c2 rfl (fun R0 hR0 => ?_); cases R0 <;> cbv) | (refine callBP hg c2 rfl (fun R0 hR0 => ?_); cases R0 <;> cbv))
  · exact finFl hF rfl rfl (by rw [hZ, hD, flx, if_neg (by rw [← hIO, ← hR0]; simp)]) hM
  (first | refine callB hg (impl_in_a _ _ _) rfl (fun I1 hI1 => ?_) | refine callBP hg (impl_in_a _ _ _) rfl (fun I1 hI1 => ?_)); cbv
  cases I1 <;> cbv
  · exact finFl hF rfl rfl (by rw [hZ, hD, flx, if_neg (by rw [inL, ← hI1]; simp)]) hM
  (first | refine callB hg (impl_in_a _ _ _) rfl (fun I2 hI2 => ?_) | refine callBP hg (impl_in_a _ _ _) rfl (fun I2 hI2 => ?_)); cbv
  cases I2 <;> cbv
  · exact finFl hF rfl rfl (by rw [hZ, hD, flx, if_neg (by rw [inL, inL, ← hI1, ← hI2]; simp)]) hM
  have hok : (itsOk xs && inL gap && inL inner) = true := by rw [inL, inL, ← hI1, ← hI2, ← hIO, ← hR0]; rfl
  first | (refine callB hg c3 rfl (fun R hR => ?_); cbv) | (refine callBP hg c3 rfl (fun R hR => ?_); cbv)
  obtain rfl : G = R := hR.symm
  refine loop_go hg fits (by kernel_rfl) V (fun x => lc (GItem.c x)) xs hV hl (fun z (s : Int × List Bool × List (List AC)) => [(6, .t (.c (.ptr 0 0 0))), (7, .t (.c (.ptr 3 0 0))), (39, .t (.c (.view V))), (40, .t (ai (g .ln V))), (41, .t (ai (z)))]) (fun z (s : Int × List Bool × List (List AC)) => [.bx 54 7 [.imm (.slice none 0 0), .imm (.int .i64 0), .imm (.int .i64 0), .imm (.bool false), .imm (.slice none 0 0), .imm (.slice none 0 0), .imm (.int .i64 0)], .rw ⟨3, 1, Z⟩, .rw ⟨4, 1, s.2.2⟩, .bx 54 7 [.view V, .imm (.int .i64 gap), .imm (.int .i64 inner), .imm (.bool G), .own 1, .own 2, .imm (.int .i64 0)]]) (fun z (s : Int × List Bool × List (List AC)) => s.1 = z ∧ s.2.2 = vw bolC s.2.1 ∧ s.2.1.length = xs.length) (fun (s : Int × List Bool × List (List AC)) rest => hgo G s.1 s.2.1 rest) (HL) (0, _, M0) hh0 ⟨rfl, hM, by simp⟩ (Wk.weak (wkG [some 0, some 1, some 2, some 3] ⟨rfl, rfl, rfl, rfl, rfl, trivial⟩ ⟨⟨_, _, rfl, rfl, rfl, rfl, .inr ⟨⟨rfl, rfl, rfl, rfl, rfl, rfl, rfl, trivial⟩, trivial⟩⟩, ⟨_, _, rfl, rfl, rfl, rfl, .inl ⟨rfl, pZ⟩⟩, ⟨_, _, rfl, rfl, rfl, rfl, .inl ⟨rfl, pM⟩⟩, ⟨_, _, rfl, rfl, rfl, rfl, .inr ⟨⟨rfl, rfl, rfl, rfl, rfl, rfl, rfl, trivial⟩, trivial⟩⟩, trivial⟩ (by decide) no_lt)) (fun z s B hz h0 hi he => ?_) (fun z s x rest B z0 z1 z2 hx hy h0 hi hc e1 hB => ?_)
  rotate_left
  · obtain ⟨i, w, eR⟩ := s
    obtain ⟨k1, k2, k3⟩ := hi
    dsimp only at k1 k2 k3 h0
    subst k1
    have hVx : lenI V = (xs.length : Int) := by rw [hV, vw_lenI]
    have hiR : i < lenI eR := by rw [k2, vw_lenI, k3, ← hVx]; exact z1
    have hiw : i.toNat < w.length := by rw [k3]; omega
    have sR : ∀ b b' : Bool, b = b' → eR.set i.toNat [.imm (.bool b)] = vw bolC (w.set i.toNat b') := fun b b' h => by rw [vw_set, k2, h]; rfl
    rw [hgo] at h0
    obtain ⟨y0, y1, y2, y3, y4, y5, y6, y7, y8⟩ := x
    obtain ⟨HV, hHV⟩ : ∃ b, b = held G ⟨y0, y1, y2, y3, y4, y5, y6, y7, y8⟩ := ⟨_, rfl⟩
    have hel : HV = if wgt G ⟨y0, y1, y2, y3, y4, y5, y6, y7, y8⟩ = 0 then true else if G then decide (hyp ⟨y0, y1, y2, y3, y4, y5, y6, y7, y8⟩ < y0) else decide (y0 < hyp ⟨y0, y1, y2, y3, y4, y5, y6, y7, y8⟩) := hHV
    rw [← hHV] at h0
    cbv; rw [hc]; cbv; refine goX hg _ z0 hy rfl ?_; cbv
    (first | refine callI hg (impl_HypOf_a ⟨y0, y1, y2, y3, y4, y5, y6, y7, y8⟩) rfl (fun HY hHY => ?_) | refine callIP hg (impl_HypOf_a ⟨y0, y1, y2, y3, y4, y5, y6, y7, y8⟩) rfl (fun HY hHY => ?_)); cbv
    (first | refine callI hg (impl_weightOf_a ⟨y0, y1, y2, y3, y4, y5, y6, y7, y8⟩ G) rfl (fun Q0 hQ0 => ?_) | refine callIP hg (impl_weightOf_a ⟨y0, y1, y2, y3, y4, y5, y6, y7, y8⟩ G) rfl (fun Q0 hQ0 => ?_)); cbv
    rw [← hHY, ← hQ0] at hel
    have t0 : g .q .eql Q0 0 = decide (Q0 = 0) := by rw [goEql hg]; rfl
    by_cases hq : Q0 = 0
    · rw [t0, decide_eq_true hq]
      rw [if_pos hq] at hel
      cbv
      have s1 := sR (true) HV (hel.symm)
      refine goY hg z0 hiR fun j hj hjl => ?_
      cbv
      refine goN hg ⟨_, by rw [hj, k2]; exact vw_at (List.getElem?_eq_getElem hiw), rfl⟩ ?_
      cbv
      rw [e1]
      simp only [goSt hg]
      subst hj
      exact hB ((i + 1, w.set i.toNat HV, _)) _ _ ⟨h0, ⟨rfl, s1, by simpa using k3⟩⟩ (Wk.weak (wkG [some 0, some 1, some 2, some 3] ⟨rfl, rfl, rfl, rfl, rfl, trivial⟩ ⟨⟨_, _, rfl, rfl, rfl, rfl, .inr ⟨⟨rfl, rfl, rfl, rfl, rfl, rfl, rfl, trivial⟩, trivial⟩⟩, ⟨_, _, rfl, rfl, rfl, rfl, .inl ⟨rfl, pZ⟩⟩, ⟨_, _, rfl, rfl, rfl, rfl, .inl ⟨rfl, s1.symm ▸ vw_plain _ _⟩⟩, ⟨_, _, rfl, rfl, rfl, rfl, .inr ⟨⟨rfl, rfl, rfl, rfl, rfl, rfl, rfl, trivial⟩, trivial⟩⟩, trivial⟩ (by decide) no_lt))
    · rw [t0, decide_eq_false hq]
      rw [if_neg hq] at hel
      cases hGc : G
      · rw [hGc] at hel
        cbv
        have s1 := sR (g .q .lss y0 HY) HV (by rw [goLss hg]; exact hel.symm)
        refine goY hg z0 hiR fun j hj hjl => ?_
        cbv
        refine goN hg ⟨_, by rw [hj, k2]; exact vw_at (List.getElem?_eq_getElem hiw), rfl⟩ ?_
        cbv
        rw [e1]
        simp only [goSt hg]
        subst hj
        exact hB ((i + 1, w.set i.toNat HV, _)) _ _ ⟨h0, ⟨rfl, s1, by simpa using k3⟩⟩ (Wk.weak (wkG [some 0, some 1, some 2, some 3] ⟨rfl, rfl, rfl, rfl, rfl, trivial⟩ ⟨⟨_, _, rfl, rfl, rfl, rfl, .inr ⟨⟨rfl, rfl, rfl, rfl, rfl, rfl, rfl, trivial⟩, trivial⟩⟩, ⟨_, _, rfl, rfl, rfl, rfl, .inl ⟨rfl, pZ⟩⟩, ⟨_, _, rfl, rfl, rfl, rfl, .inl ⟨rfl, s1.symm ▸ vw_plain _ _⟩⟩, ⟨_, _, rfl, rfl, rfl, rfl, .inr ⟨⟨rfl, rfl, rfl, (by rw [hGc]; exact rfl), rfl, rfl, rfl, trivial⟩, trivial⟩⟩, trivial⟩ (by decide) no_lt))
      · rw [hGc] at hel
        cbv
        cases hqq : g .q .gtr y0 HY
        · cbv
          have s1 := sR (false) HV (by rw [hel]; rw [goGtr hg] at hqq; exact hqq.symm)
          refine goY hg z0 hiR fun j hj hjl => ?_
          cbv
          refine goN hg ⟨_, by rw [hj, k2]; exact vw_at (List.getElem?_eq_getElem hiw), rfl⟩ ?_
          cbv
          rw [e1]
          simp only [goSt hg]
          subst hj
          exact hB ((i + 1, w.set i.toNat HV, _)) _ _ ⟨h0, ⟨rfl, s1, by simpa using k3⟩⟩ (Wk.weak (wkG [some 0, some 1, some 2, some 3] ⟨rfl, rfl, rfl, rfl, rfl, trivial⟩ ⟨⟨_, _, rfl, rfl, rfl, rfl, .inr ⟨⟨rfl, rfl, rfl, rfl, rfl, rfl, rfl, trivial⟩, trivial⟩⟩, ⟨_, _, rfl, rfl, rfl, rfl, .inl ⟨rfl, pZ⟩⟩, ⟨_, _, rfl, rfl, rfl, rfl, .inl ⟨rfl, s1.symm ▸ vw_plain _ _⟩⟩, ⟨_, _, rfl, rfl, rfl, rfl, .inr ⟨⟨rfl, rfl, rfl, (by rw [hGc]; exact rfl), rfl, rfl, rfl, trivial⟩, trivial⟩⟩, trivial⟩ (by decide) no_lt))
        · cbv
          have s1 := sR (true) HV (by rw [hel]; rw [goGtr hg] at hqq; exact hqq.symm)
          refine goY hg z0 hiR fun j hj hjl => ?_
          cbv
          refine goN hg ⟨_, by rw [hj, k2]; exact vw_at (List.getElem?_eq_getElem hiw), rfl⟩ ?_
          cbv
          rw [e1]
          simp only [goSt hg]
          subst hj
          exact hB ((i + 1, w.set i.toNat HV, _)) _ _ ⟨h0, ⟨rfl, s1, by simpa using k3⟩⟩ (Wk.weak (wkG [some 0, some 1, some 2, some 3] ⟨rfl, rfl, rfl, rfl, rfl, trivial⟩ ⟨⟨_, _, rfl, rfl, rfl, rfl, .inr ⟨⟨rfl, rfl, rfl, rfl, rfl, rfl, rfl, trivial⟩, trivial⟩⟩, ⟨_, _, rfl, rfl, rfl, rfl, .inl ⟨rfl, pZ⟩⟩, ⟨_, _, rfl, rfl, rfl, rfl, .inl ⟨rfl, s1.symm ▸ vw_plain _ _⟩⟩, ⟨_, _, rfl, rfl, rfl, rfl, .inr ⟨⟨rfl, rfl, rfl, (by rw [hGc]; exact rfl), rfl, rfl, rfl, trivial⟩, trivial⟩⟩, trivial⟩ (by decide) no_lt))
  · obtain ⟨i, w, eR⟩ := s
    obtain ⟨k1, k2, k3⟩ := hi
    dsimp only at k1 k2 k3 h0
    rw [hgo] at h0
    obtain rfl : HL = w := h0.symm
    have pR : plainE eR = true := by rw [k2]; exact vw_plain _ _
    obtain ⟨X, hX⟩ : ∃ X, X = Fx.of xs gap inner := ⟨_, rfl⟩
    have hXo : itsOk X.xs = true := by
      rw [hX]
      simp only [Bool.and_eq_true] at hok
      exact hok.1.1
    have hx12 := (itsOk_mem hXo).2
    have hXx : X.xs = xs := by rw [hX]; rfl
    obtain ⟨r, hr1, hr2⟩ := Fx.run_some hXo 13 (xs.map hyp) HL (by rw [hXx]; exact k3) (by have := fre_len HL 0; rw [hXx] at hx12; omega)
    have hDr : D = r := by rw [hD, flx, if_pos hok, ← hG, ← hHL, ← hX, hr1]; rfl
    cbv; rw [he]; cbv
    refine loop_fu hg fits (by kernel_rfl) (fun s : (List Int × List Bool × Int) × List (List AC) × List (List AC) => [(6, .t (.c (.ptr 0 0 0))), (7, .t (.c (.ptr 3 0 0)))]) (fun s => [.bx 54 7 [.imm (.slice none 0 0), .imm (.int .i64 0), .imm (.int .i64 0), .imm (.bool false), .imm (.slice none 0 0), .imm (.slice none 0 0), .imm (.int .i64 0)], .rw ⟨3, 1, s.2.1⟩, .rw ⟨4, 1, s.2.2⟩, .bx 54 7 [.view V, .imm (.int .i64 gap), .imm (.int .i64 inner), .imm (.bool G), .own 1, .own 2, .imm (.int .i64 s.1.2.2)]])
      (fun s => s.2.1 = vw intC s.1.1 ∧ s.2.2 = vw bolC s.1.2.1 ∧ s.1.1.length = xs.length ∧ s.1.2.1.length = xs.length) (fun k s => X.runI k s.1.1 s.1.2.1) r 13 ((xs.map hyp, HL, 0), Z, eR) hr1 ⟨hZ, k2, by simp, k3⟩ (Wk.weak (wkG [some 0, some 1, some 2, some 3] ⟨rfl, rfl, trivial⟩ ⟨⟨_, _, rfl, rfl, rfl, rfl, .inr ⟨⟨rfl, rfl, rfl, rfl, rfl, rfl, rfl, trivial⟩, trivial⟩⟩, ⟨_, _, rfl, rfl, rfl, rfl, .inl ⟨rfl, pZ⟩⟩, ⟨_, _, rfl, rfl, rfl, rfl, .inl ⟨rfl, pR⟩⟩, ⟨_, _, rfl, rfl, rfl, rfl, .inr ⟨⟨rfl, rfl, rfl, rfl, rfl, rfl, rfl, trivial⟩, trivial⟩⟩, trivial⟩ (by decide) no_lt)) (fun s k B h0 hi hB => ?_)
    obtain ⟨⟨sz, fr, p⟩, eZ, eR⟩ := s
    obtain ⟨k1, k2, k3, k4⟩ := hi
    dsimp only at k1 k2 k3 k4 h0
    cases k with
    | zero => cases h0
    | succ k =>
      rw [Fx.runI] at h0
      have cp := impl_flexing__pass_a X hXo sz fr (by rw [hXx]; exact k3) (by rw [hXx]; exact k4) p
      have qZ : plainE eZ = true := by rw [k1]; exact vw_plain _ _
      have qR : plainE eR = true := by rw [k2]; exact vw_plain _ _
      have hXg : X.gap = gap := by rw [hX]; rfl
      have hXi : X.inner = inner := by rw [hX]; rfl
      have hXr : X.gr = G := by rw [hX, hG]; rfl
      simp only [Fx.bx, hXx, hXg, hXi, hXr, ← hV, ← k1, ← k2] at cp
      cbv
      refine callH hg [3, 1, 2] cp (by decide) (fun r hr => by simp only [List.mem_cons, List.not_mem_nil, or_false] at hr; simp only [List.length_cons, List.length_nil]; omega) ⟨⟨_, _, rfl, rfl, rfl, rfl, .inr ⟨⟨rfl, rfl, rfl, rfl, rfl, rfl, rfl, trivial⟩, trivial⟩⟩, ⟨_, _, rfl, rfl, rfl, rfl, .inl ⟨rfl, qZ⟩⟩, ⟨_, _, rfl, rfl, rfl, rfl, .inl ⟨rfl, qR⟩⟩, trivial⟩ ⟨rfl, trivial⟩ fun res eh hq => ?_
      obtain ⟨p', sz', fr', rfl, rfl, h1, h2⟩ := hq
      obtain ⟨Z', hZ'⟩ : ∃ Z', Z' = vw intC sz' := ⟨_, rfl⟩
      obtain ⟨R', hR'⟩ : ∃ R', R' = vw bolC fr' := ⟨_, rfl⟩
      have pZ' : plainE Z' = true := by rw [hZ']; exact vw_plain _ _
      have pR' : plainE R' = true := by rw [hR']; exact vw_plain _ _
      rw [← hZ', ← hR']
      simp only [putBack, EE.mv, mv_rowE pZ', mv_rowE pR']
      by_cases hn : fre 0 fr = []
      · rw [if_pos hn] at h0 h1 h2
        rw [show decide (fre 0 fr ≠ []) = false by simp [hn]]
        cbv
        subst h1 h2
        exact finFl hF rfl rfl (by rw [hZ', hDr]; cases h0; rfl) hR'
      · rw [if_neg hn] at h0 h1 h2
        rw [show decide (fre 0 fr ≠ []) = true by simp [hn]]
        cbv
        refine hB k ((sz', fr', p'), Z', R') _ _ (Nat.lt_succ_self k) (by rw [h1, h2]; exact h0) ⟨hZ', hR', by rw [h1, setz_len]; exact k3, by rw [h2, setb_len]; exact k4⟩ (Wk.weak (wkG [some 0, some 1, some 2, some 3] ⟨rfl, rfl, trivial⟩ ⟨⟨_, _, rfl, rfl, rfl, rfl, .inr ⟨⟨rfl, rfl, rfl, rfl, rfl, rfl, rfl, trivial⟩, trivial⟩⟩, ⟨_, _, rfl, rfl, rfl, rfl, .inl ⟨rfl, pZ'⟩⟩, ⟨_, _, rfl, rfl, rfl, rfl, .inl ⟨rfl, pR'⟩⟩, ⟨_, _, rfl, rfl, rfl, rfl, .inr ⟨⟨rfl, rfl, rfl, rfl, rfl, rfl, rfl, trivial⟩, trivial⟩⟩, trivial⟩ (by decide) no_lt))
theorem impl_FlexLine_a (xs : List GItem) (gap inner : Int) (hl : xs.length ≤ 1048576) : PCon Try.prog 8 [.c (.view (vw GItem.c xs)), ai gap, ai inner] fun res rows => res = .t (.c (.own 0)) ∧ rows = [⟨3, 1, vw intC (flx xs gap inner)⟩] := by
  have cf := impl_flexed_a xs gap inner hl
  obtain ⟨V, hV⟩ : ∃ V, V = vw GItem.c xs := ⟨_, rfl⟩
  obtain ⟨D, hD⟩ : ∃ D, D = vw intC (flx xs gap inner) := ⟨_, rfl⟩
  have pD : plainE D = true := by rw [hD]; exact vw_plain _ _
  rw [← hV, ← hD] at cf
  rw [← hV, ← hD]
  refine pcon_run (c := body Try.f8) fits Try.func8 (by kernel_rfl) (by kernel_rfl) (by rfl) (by kernel_rfl) fun g F hg hF => ?_
  cbv
  refine callC hg (pcall_pure cf rfl fun res rows hq => ?_)
  obtain ⟨p, gr, fr, rfl, rfl⟩ := hq
  obtain ⟨R, hR⟩ : ∃ R, R = vw bolC fr := ⟨_, rfl⟩
  have pR : plainE R = true := by rw [hR]; exact vw_plain _ _
  rw [← hR]
  refine ⟨[.rw ⟨3, 1, D⟩, .rw ⟨4, 1, R⟩], by simp only [List.map_cons, List.map_nil, shift_row (ab := ⟨3, 1, D⟩) pD, shift_row (ab := ⟨4, 1, R⟩) pR]; rfl, ?_⟩
  cbv
  exact finRow hF rfl pD

def atB (x : GItem) (s : Int) : Bool := decide (s = x.least) || (decide (0 ≤ x.most) && decide (s = uppI x))
theorem atB_S (x : GItem) (s : Int) : atB x s = (decide (s = x.least) || (decide (0 ≤ x.most) && decide (s = uppS x))) := by
  unfold atB
  by_cases hm : 0 ≤ x.most
  · have : uppS x = uppI x := by unfold uppS uppI; split <;> split <;> omega
    rw [this]
  · simp [hm]
theorem flx_len (xs : List GItem) (gap inner : Int) : (flx xs gap inner).length = xs.length := by
  unfold flx
  split
  · rename_i h
    simp only [Bool.and_eq_true] at h
    have hX : itsOk (Fx.of xs gap inner).xs = true := h.1.1
    have hx12 := (itsOk_mem hX).2
    obtain ⟨r, hr1, hr2⟩ := Fx.run_some hX 13 (xs.map hyp) (xs.map (held (groB xs gap inner))) (by simp; rfl) (by have := fre_len (xs.map (held (groB xs gap inner))) 0; rw [List.length_map] at this; have e : (Fx.of xs gap inner).xs.length = xs.length := rfl; omega)
    rw [hr1]
    simpa using hr2
  · simp
def canT (G : Bool) (p : GItem × Int) : Bool := decide (0 < wgt G p.1) && !atB p.1 p.2
def canF (xs : List GItem) (gap inner : Int) : Bool := (xs.zip (flx xs gap inner)).any (canT (groB xs gap inner))
theorem impl_AtBound_a (x : GItem) (s : Int) : PCon Try.prog 18 [.agg (lc (GItem.c x)), ai s] fun res rows => res = .t (abl (atB x s)) ∧ rows = [] := by
  obtain ⟨y0, y1, y2, y3, y4, y5, y6, y7, y8⟩ := x
  obtain ⟨B, hB⟩ : ∃ B, B = atB ⟨y0, y1, y2, y3, y4, y5, y6, y7, y8⟩ s := ⟨_, rfl⟩
  have hB2 : B = (decide (s = y1) || (decide (0 ≤ y2) && decide (s = uppI ⟨y0, y1, y2, y3, y4, y5, y6, y7, y8⟩))) := hB
  rw [← hB]
  refine pcon_run (c := body Try.f18) fits Try.func18 (by kernel_rfl) (by kernel_rfl) (by rfl) (by kernel_rfl) fun g F hg hF => ?_
  cbv
  have t0 : g .q .eql s y1 = decide (s = y1) := by rw [goEql hg]; rfl
  have t1 : g .q .geq y2 0 = decide (0 ≤ y2) := by rw [goGeq hg]
  rw [← t0, ← t1] at hB2
  cases h0 : g .q .eql s y1
  · rw [h0] at hB2
    cbv
    cases h1 : g .q .geq y2 0
    · rw [h1] at hB2
      cbv
      exact fin0b hF hB2.symm
    · rw [h1] at hB2
      cbv
      (first | refine callI hg (impl_upper_a ⟨y0, y1, y2, y3, y4, y5, y6, y7, y8⟩) rfl (fun Q0 hQ0 => ?_) | refine callIP hg (impl_upper_a ⟨y0, y1, y2, y3, y4, y5, y6, y7, y8⟩) rfl (fun Q0 hQ0 => ?_)); cbv
      exact fin0b hF (by rw [hB2, goEql hg, hQ0]; simp; rfl)
  · rw [h0] at hB2
    cbv
    exact fin0b hF (by rw [hB2]; rfl)
set_option maxHeartbeats 1600000 in
theorem impl_CanFlex_a (xs : List GItem) (gap inner : Int) (hl : xs.length ≤ 1048576) : PCon Try.prog 6 [.c (.view (vw GItem.c xs)), ai gap, ai inner] fun res rows => res = .t (abl (canF xs gap inner)) ∧ rows = [] := by
  have c1 := impl_Grows_a xs gap inner hl
  have c2 := impl_FlexLine_a xs gap inner hl
  have hfl := flx_len xs gap inner
  obtain ⟨zs, hzs⟩ : ∃ zs, zs = xs.zip (flx xs gap inner) := ⟨_, rfl⟩
  obtain ⟨V, hV0⟩ : ∃ V, V = vw GItem.c xs := ⟨_, rfl⟩
  have hV : V = zs.map fun t => lc (GItem.c t.1) := by
    rw [hV0, hzs, vw]
    conv => lhs; rw [← List.map_fst_zip (l₁ := xs) (l₂ := flx xs gap inner) (by omega)]
    rw [List.map_map]; rfl
  have hzl : zs.length ≤ 1048576 := by rw [hzs, List.length_zip]; omega
  obtain ⟨D, hD⟩ : ∃ D, D = vw intC (flx xs gap inner) := ⟨_, rfl⟩
  have iD : immE D = true := by rw [hD]; exact vw_imm _ _
  have pD : plainE D = true := imm_plainE iD
  obtain ⟨G, hG⟩ : ∃ b, b = groB xs gap inner := ⟨_, rfl⟩
  obtain ⟨B0, hB0⟩ : ∃ B, B = canF xs gap inner := ⟨_, rfl⟩
  have hB1 : zs.any (canT G) = B0 := by rw [hB0, canF, hzs, hG]
  rw [← hV0] at c1 c2
  rw [← hG] at c1
  rw [← hD] at c2
  rw [← hV0, ← hB0]
  refine pcon_run (c := body Try.f6) fits Try.func6 (by kernel_rfl) (by kernel_rfl) (by rfl) (by kernel_rfl) fun g F hg hF => ?_
  cbv
  (first | refine call0 hg (c1) rfl rfl ?_ | refine call0P hg (c1) rfl rfl ?_); cbv
  first | (refine callRow hg c2 (dat_data rfl) iD ?_; cbv) | (refine callRowP hg c2 (dat_data rfl) iD ?_; cbv)
  refine loop_go hg fits (by kernel_rfl) V (fun t => lc (GItem.c t.1)) zs hV hzl (fun z (s : Unit) => [(7, .t (abl (G))), (8, .t (.c (.own 0))), (19, .t (.c (.view V))), (20, .t (ai (g .ln V))), (21, .t (ai (z)))]) (fun z (s : Unit) => [.rw ⟨3, 1, D⟩]) (fun z (s : Unit) => True) (fun (s : Unit) rest => rest.any (canT G)) (B0) () hB1 trivial (Wk.weak (wkG [some 0] ⟨rfl, rfl, rfl, rfl, rfl, trivial⟩ ⟨⟨_, _, rfl, rfl, rfl, rfl, .inl ⟨rfl, pD⟩⟩, trivial⟩ (by decide) no_lt)) (fun z s B hz h0 hi he => ?_) (fun z s x rest B z0 z1 z2 hx hy h0 hi hc e1 hB => ?_)
  · cbv; rw [he]; cbv
    exact fin0b hF (by rw [← h0]; rfl)
  · obtain ⟨x, s⟩ := x
    have hx2 : (flx xs gap inner)[z.toNat]? = some s := by
      rw [hzs, List.getElem?_zip_eq_some] at hx
      exact hx.2
    have hzD : z < lenI D := by
      rw [hD, vw_lenI]
      have := (List.getElem?_eq_some_iff.1 hx2).1
      omega
    have hcT : canT G (x, s) = (decide (0 < wgt G x) && !atB x s) := rfl
    rw [List.any_cons, hcT] at h0
    cbv; rw [hc]; cbv; refine goX hg _ z0 hy rfl ?_; cbv
    (first | refine callI hg (impl_weightOf_a x G) rfl (fun Q0 hQ0 => ?_) | refine callIP hg (impl_weightOf_a x G) rfl (fun Q0 hQ0 => ?_)); cbv
    have tt : g .q .gtr Q0 0 = decide (0 < Q0) := by rw [goGtr hg]
    rw [← hQ0, ← tt] at h0
    cases hq : g .q .gtr Q0 0
    · rw [hq] at h0
      cbv
      rw [e1]
      exact hB (()) _ _ ⟨(by simpa using h0), trivial⟩ (Wk.weak (wkG [some 0] ⟨rfl, rfl, rfl, rfl, rfl, trivial⟩ ⟨⟨_, _, rfl, rfl, rfl, rfl, .inl ⟨rfl, pD⟩⟩, trivial⟩ (by decide) no_lt))
    · rw [hq] at h0
      cbv
      refine goY hg z0 hzD fun j hj hjl => ?_
      cbv
      refine ⟨_, by rw [hj, hD]; exact vw_at hx2, ?_⟩
      cbv
      (first | refine callB hg (impl_AtBound_a x s) rfl (fun Q1 hQ1 => ?_) | refine callBP hg (impl_AtBound_a x s) rfl (fun Q1 hQ1 => ?_)); cbv
      rw [← hQ1] at h0
      cases Q1 <;> cbv
      · exact fin0b hF (by rw [← h0]; rfl)
      · rw [e1]
        exact hB (()) _ _ ⟨(by simpa using h0), trivial⟩ (Wk.weak (wkG [some 0] ⟨rfl, rfl, rfl, rfl, rfl, trivial⟩ ⟨⟨_, _, rfl, rfl, rfl, rfl, .inl ⟨rfl, pD⟩⟩, trivial⟩ (by decide) no_lt))

end Go.Proofs.Ytcohgnecmgcajaa
