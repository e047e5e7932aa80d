/- The law of full rows: its walk. -/
import Derived.Test.YtbnplcingdgaaaaGreatC9X1
namespace Go.Proofs.YtbnplcingdgaaaaGreat
open Go.ChangeShapes Go.WideShapes Go.ChangeAt Go.RowKit Am
set_option linter.unusedVariables false
set_option linter.unusedSimpArgs false
set_option maxRecDepth 100000

theorem plc_at2 {ps : List Int} {W : List (List AC)} (hW : W = vw aj ps) (hl : ps.length = 12) (i : Nat) (hi : i < 12) : W[i]? = some [.imm (.int .i64 (plc ps i))] := by
  rw [hW]
  refine bu (c := aj) (x := plc ps i) ?_
  unfold plc
  rw [List.getElem?_eq_getElem (by omega)]
  rfl
theorem rfT_bd {ps : List Int} (hp : ∀ x ∈ ps, 0 ≤ x ∧ x < 10000) : ∀ i : Nat, 0 ≤ rfT ps i ∧ rfT ps i ≤ 200 * (i : Int)
  | 0 => ⟨Int.le_refl 0, by simp [rfT]⟩
  | i + 1 => by
    have h := rfT_bd hp i
    have b := gR hp (i + 1) (m := 200) (by decide)
    unfold rfT
    omega
set_option maxHeartbeats 32000000 in
theorem row_in {g : Gd} (hg : g = @G0 bp0 Tryz.prog 0 Tryz.f5.ntmps) {Q : Exit → List (Nat × AV) → EH → Prop} {ps : List Int} (hp : ∀ x ∈ ps, 0 ≤ x ∧ x < 10000) {p : Nat → Int} (hpp : p = plc ps) {W : List (List AC)} (hWa : ∀ i : Nat, i < 12 → W[i]? = some [.imm (.int .i64 (p i))]) {K : Int} (hK : K = 1 + (p 0).tmod 4) {T0 : List (List AC)} (hT0 : T0 = vwA af.ac (jN [] mH))
    (hQ : ∀ (E : List (List AC)) (S : Int), E = vwA af.ac (rfK ps K.toNat) → S = rfT ps K.toNat → Q (.exit 0) [(35, .t (abl (false))), (34, .t (ai (K))), (33, .t (ai (g .w .rem .i64 (p 0) 4))), (32, .t (ai (p 0))), (31, .t (.c (.eptr [.imm (.int .i64 (p 0))] 0))), (30, .t (.c (.view W))), (29, .t (ai (K))), (3, .t (.c (.view W))), (5, .t (.c (.ptr 0 0 0))), (7, .t (ai (S))), (8, .t (ai (K)))] [.bx 38 1 [.view E]]) :
    g .L (je (aP Tryz.f5) 0) Q [(3, .t (.c (.view W))), (5, .t (.c (.ptr 0 0 0))), (7, .t (ai (0))), (8, .t (ai (0)))] [.bx 38 1 [.view T0]] := by
  have bd := fun (i : Nat) {m : Int} (hm : 0 < m) => gR hp i hm
  have rb := fun i => rfT_bd hp i
  rw [← hpp] at bd
  have b0 := bd 0 (m := 4) (by decide)
  have hK3 : 1 ≤ K ∧ K ≤ 4 := by omega
  have cpl := fN
  have cpt := fun n => ix n
  have x0 : W[(0 : Int).toNat]? = some [.imm (.int .i64 (p 0))] := hWa 0 (by decide)
  have hb0 := jJ [] (by simp) (by simp) mH
  have eK : g .w .add .i64 1 (g .w .rem .i64 (p 0) 4) = K := by rw [aJ hg, gI hg, hK]; exact aw _ (by omega)
  obtain ⟨eff, heff⟩ : ∃ e, e = wO Tryz.prog := ⟨_, rfl⟩
  obtain ⟨hd, hhd⟩ : ∃ h, h = @hd0 bp0 Tryz.prog 0 Tryz.f5.ntmps := ⟨_, rfl⟩
  clear b0 hK
  refine fB [(10, .hand), (15, .hand)] [] heff hhd hg aC (by kernel_rfl) (fun s : Int × Int × List (List AC) => [(3, .t (.c (.view W))), (5, .t (.c (.ptr 0 0 0))), (7, .t (ai (s.2.1))), (8, .t (ai (s.1)))]) (fun s => [.bx 38 1 [.view s.2.2]]) (fun s => 0 ≤ s.1 ∧ s.1 ≤ K ∧ s.2.1 = rfT ps s.1.toNat ∧ s.2.2 = vwA af.ac (rfK ps s.1.toNat)) (fun s => 4 - s.1.toNat)
    (0, 0, T0) ⟨by simp, by simp only; omega, rfl, hT0⟩ (Wk.weak (wkG [some _] ⟨rfl, rfl, rfl, rfl, trivial⟩ ⟨⟨_, _, rfl, rfl, rfl, rfl, .inl ⟨rfl, rfl⟩⟩, trivial⟩ (by decide) aq)) (fun s B2 hs2 hB2 => ?_)
  obtain ⟨z, S, E⟩ := s
  obtain ⟨z0, z1, z3, z2⟩ := hs2
  dsimp only at z0 z1 z2 z3
  have tz : g .q .lss z K = decide (z < K) := bD hg _ _
  by_cases hz : z < K
  · rw [decide_eq_true hz] at tz
    have ez : g .w .add .i64 z 1 = z + 1 := by rw [aJ hg]; exact wr1 (by omega) (by omega)
    obtain ⟨m, hm⟩ : ∃ m, m = z.toNat := ⟨_, rfl⟩
    have hm3 : m < 4 := by omega
    have y0 : W[z.toNat]? = some [.imm (.int .i64 (p m))] := by rw [← hm]; exact hWa _ (by omega)
    have y1 : W[(z + 1).toNat]? = some [.imm (.int .i64 (p (m + 1)))] := by rw [show (z + 1).toNat = m + 1 by omega]; exact hWa _ (by omega)
    have hs1 := kz (rfS ps) _ hb0.1 hb0.2 m
    change (rfK ps m).length ≤ 1048576 ∧ ∀ y ∈ rfK ps m, af.small y at hs1
    have cA := eB _ hs1.1 hs1.2 (rfS ps m)
    have hs3 := jJ _ hs1.1 hs1.2 (rfS ps m)
    have cI := gQ _ hs3.1 hs3.2 1 (nv (rfK ps m) (rfS ps m)) z
    have hnx : vwA af.ac (inN (jN (rfK ps m) (rfS ps m)) 1 (nv (rfK ps m) (rfS ps m)) z) = vwA af.ac (rfK ps (z + 1).toNat) := by
      obtain rfl : z = (m : Int) := by omega
      rw [show ((m : Int) + 1).toNat = m + 1 by omega]
      rfl
    rw [hnx] at cI
    obtain ⟨M3, hM3⟩ : ∃ M, M = vwA af.ac (rfK ps (z + 1).toNat) := ⟨_, rfl⟩
    obtain ⟨M2, hM2⟩ : ∃ M, M = vwA af.ac (jN (rfK ps m) (rfS ps m)) := ⟨_, rfl⟩
    obtain ⟨n2, hn2⟩ : ∃ M, M = nv (rfK ps m) (rfS ps m) := ⟨_, rfl⟩
    obtain ⟨k2, hk2⟩ : ∃ M, M = inI (jN (rfK ps m) (rfS ps m)) 1 (nv (rfK ps m) (rfS ps m)) z := ⟨_, rfl⟩
    obtain ⟨gr, hgr⟩ : ∃ r, r = 1 + (p m).tmod 5 := ⟨_, rfl⟩
    obtain ⟨ba, hba⟩ : ∃ r, r = (p (m + 1)).tmod 200 := ⟨_, rfl⟩
    have eX : rfS ps m = rowF ba gr := by rw [hgr, hba, hpp]; rfl
    rw [← hm] at z2 z3
    rw [← hk2, ← hM3, ← hM2, ← hn2] at cI
    rw [← z2, ← hM2, ← hn2, eX] at cA
    have b5 := bd m (m := 5) (by decide)
    have b2 := bd (m + 1) (m := 200) (by decide)
    have bs := rb m
    have r5 : g .w .add .i64 1 (g .w .rem .i64 (p m) 5) = gr := by rw [aJ hg, gI hg, hgr]; exact aw _ (by omega)
    have ra : g .w .rem .i64 (p (m + 1)) 200 = ba := by rw [gI hg, hba]
    obtain ⟨S2, hS2⟩ : ∃ s, s = S + ba := ⟨_, rfl⟩
    have rs : g .w .add .i64 S ba = S2 := by rw [aJ hg, hS2]; exact aw _ (by omega)
    have hS3 : S2 = rfT ps (z + 1).toNat := by
      rw [show (z + 1).toNat = m + 1 by omega, hS2, z3, hba, hpp]
      rfl
    obtain ⟨v0, hv0⟩ : ∃ v, v = p m := ⟨_, rfl⟩
    obtain ⟨v1, hv1⟩ : ∃ v, v = p (m + 1) := ⟨_, rfl⟩
    rw [← hv0] at y0 r5
    rw [← hv1] at y1 ra
    have cpa := cpt ba
    clear hM2 hn2 hk2 hnx hs1 hs3 eX hgr hba hv0 hv1 cpt b5 b2 bs rb
    cbv
    (repeat' (first | (rw [tz]; cbv) | (rw [eK]; cbv) | (refine goX hg _ (by omega) x0 rfl ?_; cbv) | (refine uw hg (by decide) ?_; cbv)))
    refine fu [] [] heff hhd hg aC [(3, .t (.c (.view W))), (5, .t (.c (.ptr 0 0 0))), (7, .t (ai (S))), (8, .t (ai (z))), (9, .t (.c (.ptr 1 0 0)))] [.bx 38 1 [.view E], .bx 34 60 (lc (ah.c mH))] (by kernel_rfl) (fun B' hB' => ?_) ?_
    · cbv
      repeat' (first | (refine n3 hg cpl rfl rfl ?_; cbv) | (refine kw hg cpl rfl rfl ?_; cbv))
      skip
      exact hB' _ _ (Wk.weak (wkG [some _, some _] ⟨rfl, rfl, rfl, rfl, rfl, trivial⟩ ⟨⟨_, _, rfl, rfl, rfl, rfl, .inl ⟨rfl, rfl⟩⟩, ⟨_, _, rfl, rfl, rfl, rfl, .inl ⟨rfl, rfl⟩⟩, trivial⟩ (by decide) aq))
    cbv
    (repeat' (first | (rw [ez]; cbv) | (rw [r5]; cbv) | (rw [ra]; cbv) | (rw [rs]; cbv) | (refine n3 hg cpa rfl rfl ?_; cbv) | (refine kw hg cpa rfl rfl ?_; cbv) | (refine goX hg _ (by omega) y0 rfl ?_; cbv) | (refine goX hg _ (by omega) y1 rfl ?_; cbv) | (refine uw hg (by decide) ?_; cbv)))
    refine fu [] [] heff hhd hg aC [(3, .t (.c (.view W))), (5, .t (.c (.ptr 0 0 0))), (7, .t (ai (S2))), (8, .t (ai (z))), (10, .t (ai (n2)))] [.bx 38 1 [.view M2]] (by kernel_rfl) (fun B' hB' => ?_) ?_
    · cbv
      repeat' (first | (refine n3 hg cA rfl rfl ?_; cbv) | (refine kw hg cA rfl rfl ?_; cbv))
      skip
      exact hB' _ _ (Wk.weak (wkG [some _] ⟨rfl, rfl, rfl, rfl, rfl, trivial⟩ ⟨⟨_, _, rfl, rfl, rfl, rfl, .inl ⟨rfl, rfl⟩⟩, trivial⟩ (by decide) aq))
    cbv
    repeat' (first | (refine n3 hg cI rfl rfl ?_; cbv) | (refine kw hg cI rfl rfl ?_; cbv))
    rw [ez]
    skip
    subst hB2
    exact ⟨(z + 1, S2, M3), ⟨by simp only; omega, by simp only; omega, hS3, hM3⟩, by simp only; omega, Wk.weak (wkG [some _] ⟨rfl, rfl, rfl, rfl, trivial⟩ ⟨⟨_, _, rfl, rfl, rfl, rfl, .inl ⟨rfl, rfl⟩⟩, trivial⟩ (by decide) aq)⟩
  · rw [decide_eq_false hz] at tz
    obtain rfl : z = K := by omega
    have hq := hQ E S z2 z3
    cbv
    (repeat' (first | (rw [tz]; cbv) | (rw [eK]; cbv) | (refine goX hg _ (by omega) x0 rfl ?_; cbv) | (refine uw hg (by decide) ?_; cbv)))
    exact hq
set_option maxHeartbeats 32000000 in
theorem laws_FnRowFull_a (bs : List Int) (hbl : bs.length ≤ 9223372036854775807) : du Tryz.prog 5 [.c (.view (vw qa bs))] fun res rows => res = .t (abl true) ∧ rows = [] := by
  have cg := ut bs
  by_cases h6 : bs.length ≤ 1048576
  case neg =>
    rw [decide_eq_true (by omega)] at cg
    obtain ⟨V, hV⟩ : ∃ V, V = vw qa bs := ⟨_, rfl⟩
    rw [← hV] at cg ⊢
    refine xS (c := aP Tryz.f5) aC Tryz.func5 (by kernel_rfl) (by kernel_rfl) (by rfl) (by kernel_rfl) fun g F hg hF => ?_
    cbv
    (first | refine n3 hg (cg) rfl rfl ?_ | refine kw hg (cg) rfl rfl ?_); cbv
    exact aY hF rfl
  rw [decide_eq_false (by omega)] at cg
  have c2 := kF bs h6
  have cpl := fN
  have cA0 := sT (eB [] (by simp) (by simp) mH)
  have hb0 := jJ [] (by simp) (by simp) mH
  obtain ⟨V, hV⟩ : ∃ V, V = vw qa bs := ⟨_, rfl⟩
  rw [← hV] at cg c2 ⊢
  obtain ⟨I0, hI0⟩ : ∃ I, I = nv [] mH := ⟨_, rfl⟩
  obtain ⟨T0, hT0⟩ : ∃ I, I = vwA af.ac (jN [] mH) := ⟨_, rfl⟩
  rw [← hI0, ← hT0] at cA0
  refine jY ([(5, .hand), (10, .hand), (15, .hand)]) ([]) (c := aP Tryz.f5) aC Tryz.func5 (by kernel_rfl) (by kernel_rfl) (by rfl) (by kernel_rfl) fun g eff hd F heff hhd hg hF => ?_
  cbv
  (first | refine n3 hg (cg) rfl rfl ?_ | refine kw hg (cg) rfl rfl ?_); cbv
  refine p9 hg (ee c2 rfl fun res rows hq => ?_)
  obtain ⟨⟨ps, hpl, hp, rfl⟩, rfl⟩ := hq
  obtain ⟨W, hW⟩ : ∃ W, W = vw aj ps := ⟨_, rfl⟩
  have hWa := fun i hi => plc_at2 hW hpl i hi
  have bd := fun (i : Nat) {m : Int} (hm : 0 < m) => gR hp i hm
  rw [← hW]
  obtain ⟨p, hpp⟩ : ∃ p : Nat → Int, p = plc ps := ⟨_, rfl⟩
  obtain ⟨K, hK⟩ : ∃ K : Int, K = 1 + (p 0).tmod 4 := ⟨_, rfl⟩
  have b0 := bd 0 (m := 4) (by decide)
  have b6 := bd 6 (m := 1000) (by decide)
  rw [← hpp] at hWa b0 b6
  have hK3 : 1 ≤ K ∧ K ≤ 4 := by omega
  have hn : K.toNat = 1 ∨ K.toNat = 2 ∨ K.toNat = 3 ∨ K.toNat = 4 := by omega
  have bT := rfT_bd hp K.toNat
  obtain ⟨S, hS⟩ : ∃ S, S = rfT ps K.toNat := ⟨_, rfl⟩
  rw [← hS] at bT
  obtain ⟨WW, hWW⟩ : ∃ w, w = S + 1 + (p 6).tmod 1000 := ⟨_, rfl⟩
  have x6 : W[(6 : Int).toNat]? = some [.imm (.int .i64 (p 6))] := hWa 6 (by decide)
  obtain ⟨S1, hS1⟩ : ∃ s, s = S + 1 := ⟨_, rfl⟩
  have s1 : g .w .add .i64 S 1 = S1 := by rw [aJ hg, hS1]; exact wr1 (by omega) (by omega)
  have s2 : g .w .add .i64 S1 (g .w .rem .i64 (p 6) 1000) = WW := by rw [aJ hg, gI hg, hWW, hS1]; exact aw _ (by omega)
  obtain ⟨at_, sz, L⟩ := row_law hp hn (W := WW) (by rw [← hS, hWW]; omega) (by omega)
  have t1 := kz (rfS ps) _ hb0.1 hb0.2 K.toNat
  change (rfK ps K.toNat).length ≤ 1048576 ∧ ∀ y ∈ rfK ps K.toNat, af.small y at t1
  have cx := iz _ t1.1 t1.2 1 3 WW 3 77 false
  have cy := iz _ t1.1 t1.2 1 3 WW 3 77 true
  obtain ⟨V0, hV0⟩ : ∃ V, V = vwA af.ac (rfK ps K.toNat) := ⟨_, rfl⟩
  obtain ⟨bx, hbx⟩ : ∃ b, b = sbO (rfK ps K.toNat) 1 ⟨3, WW⟩ ⟨3, 77⟩ false := ⟨_, rfl⟩
  obtain ⟨by', hby⟩ : ∃ b, b = sbO (rfK ps K.toNat) 1 ⟨3, WW⟩ ⟨3, 77⟩ true := ⟨_, rfl⟩
  rw [← hbx, ← hby] at L
  rw [← hbx, ← hV0] at cx
  rw [← hby, ← hV0] at cy
  obtain ⟨xw, xh, xb, fr⟩ := bx
  obtain ⟨yw, yh, yb, er⟩ := by'
  dsimp only at L
  obtain ⟨a0, aN, st, l1, l2, f1, f2⟩ := L
  obtain ⟨FR, hFR⟩ : ∃ V, V = vw aG.c fr := ⟨_, rfl⟩
  obtain ⟨ER, hER⟩ : ∃ V, V = vw aG.c er := ⟨_, rfl⟩
  have hFl : aD FR = K := by rw [hFR, az, ak, l1]; omega
  have hEl : aD ER = K := by rw [hER, az, ak, l2]; omega
  have hWb : 0 ≤ WW ∧ WW ≤ 100000 := by omega
  have hst : ∀ z : Int, 0 ≤ z → z < K → at_ (z + 1).toNat = at_ z.toNat + sz z.toNat ∧ 0 ≤ sz z.toNat ∧ 0 ≤ at_ z.toNat ∧ at_ z.toNat + sz z.toNat ≤ WW := fun z h0 h1 => by
    rw [show (z + 1).toNat = z.toNat + 1 by omega]
    exact st z.toNat (by omega)
  have hf1 : ∀ z : Int, 0 ≤ z → z < K → ∃ nd, fr[z.toNat]? = some ⟨nd, at_ z.toNat, 0, sz z.toNat, 77⟩ := fun z h0 h1 => f1 z.toNat (by omega)
  have hf2 : ∀ z : Int, 0 ≤ z → z < K → ∃ nd, er[z.toNat]? = some ⟨nd, WW - at_ z.toNat - sz z.toNat, 0, sz z.toNat, 77⟩ := fun z h0 h1 => f2 z.toNat (by omega)
  replace cx : du Tryz.prog 13 [.agg [.view V0], ai 1, agP ⟨3, WW⟩, agP ⟨3, 77⟩, abl false] fun res rows => res = .t (.agg [.imm (.int .i64 xw), .imm (.int .i64 xh), .imm (.int .i64 xb), .view FR]) ∧ rows = [] := by rw [hFR]; exact cx
  replace cy : du Tryz.prog 13 [.agg [.view V0], ai 1, agP ⟨3, WW⟩, agP ⟨3, 77⟩, abl true] fun res rows => res = .t (.agg [.imm (.int .i64 yw), .imm (.int .i64 yh), .imm (.int .i64 yb), .view ER]) ∧ rows = [] := by rw [hER]; exact cy
  clear st f1 f2 l1 l2 hbx hby t1 hn hWW bT b0 b6 bd
  refine ⟨[], rfl, ?_⟩
  cbv
  repeat' (first | (refine n3 hg cpl rfl rfl ?_; cbv) | (refine kw hg cpl rfl rfl ?_; cbv))
  refine fu [] [] heff hhd hg aC [(3, .t (.c (.view W))), (5, .t (.c (.ptr 0 0 0)))] [.bx 38 1 [.view T0]] (by kernel_rfl) (fun B' hB' => ?_) ?_
  · cbv
    repeat' (first | (refine n3 hg cA0 rfl rfl ?_; cbv) | (refine kw hg cA0 rfl rfl ?_; cbv))
    skip
    exact hB' _ _ (Wk.weak (wkG [some _] ⟨rfl, rfl, trivial⟩ ⟨⟨_, _, rfl, rfl, rfl, rfl, .inl ⟨rfl, rfl⟩⟩, trivial⟩ (by decide) aq))
  cbv
  refine iu hg (je (aP Tryz.f5) 0) (by kernel_rfl) [(3, .t (.c (.view W))), (5, .t (.c (.ptr 0 0 0))), (7, .t (ai (0))), (8, .t (ai (0)))] [.bx 38 1 [.view T0]] (Wk.weak (wkG [some _] ⟨rfl, rfl, rfl, rfl, trivial⟩ ⟨⟨_, _, rfl, rfl, rfl, rfl, .inl ⟨rfl, rfl⟩⟩, trivial⟩ (by decide) aq)) ?_
  refine row_in hg hp hpp hWa hK hT0 fun E S' hE hS' => ?_
  obtain rfl : S' = S := by rw [hS', hS]
  obtain rfl : E = V0 := by rw [hE, hV0]
  clear hE hV0 hS' hS hS1 hK hWa hpp cA0 cpl hb0 hT0 hI0
  have tz : ∀ z : Int, g .q .lss z (g .ln FR) = decide (z < K) := fun z => by rw [bD hg, bH hg, hFl]
  have ty : ∀ z : Int, g .q .lss z (g .ln ER) = decide (z < K) := fun z => by rw [bD hg, bH hg, hEl]
  have tq : g .q .eql (g .ln ER) (g .ln FR) = true := by rw [bB hg, bH hg, bH hg, hFl, hEl]; simp
  cbv
  (repeat' (first | (rw [s1]; cbv) | (rw [s2]; cbv) | (refine n3 hg cx rfl rfl ?_; cbv) | (refine kw hg cx rfl rfl ?_; cbv) | (refine goX hg _ (by omega) x6 rfl ?_; cbv) | (refine uw hg (by decide) ?_; cbv)))
  refine fB [] [] heff hhd hg aC (by kernel_rfl) (fun s : Int × Int => [(5, .t (.c (.ptr 0 0 0))), (11, .t (ai (WW))), (12, .t (.c (.ptr 1 0 0))), (13, .t (ai (s.2))), (14, .t (ai (s.1)))]) (fun s => [.bx 38 1 [.view E], .bx 47 4 [.imm (.int .i64 xw), .imm (.int .i64 xh), .imm (.int .i64 xb), .view FR]]) (fun s => 0 ≤ s.1 ∧ s.1 ≤ K ∧ s.2 = at_ s.1.toNat) (fun s => 4 - s.1.toNat)
    (0, 0) ⟨by simp, by simp only; omega, a0.symm⟩ (Wk.weak (wkG [some _, some _] ⟨rfl, rfl, rfl, rfl, rfl, trivial⟩ ⟨⟨_, _, rfl, rfl, rfl, rfl, .inl ⟨rfl, rfl⟩⟩, ⟨_, _, rfl, rfl, rfl, rfl, .inl ⟨rfl, rfl⟩⟩, trivial⟩ (by decide) aq)) (fun s B hs hB => ?_)
  obtain ⟨z, a⟩ := s
  obtain ⟨z0, z1, za⟩ := hs
  dsimp only at z0 z1 za
  by_cases hz : z < K
  · have tz1 := tz z
    rw [decide_eq_true hz] at tz1
    obtain ⟨nd, hf⟩ := hf1 z z0 hz
    obtain ⟨w1, w2, w3, w4⟩ := hst z z0 hz
    obtain ⟨sv, hsv⟩ : ∃ v, v = sz z.toNat := ⟨_, rfl⟩
    obtain ⟨an, han⟩ : ∃ v, v = at_ (z + 1).toNat := ⟨_, rfl⟩
    rw [← za, ← hsv] at hf w1 w4
    rw [← hsv] at w2
    rw [← za] at w3
    rw [← han] at w1
    have hfr : FR[z.toNat]? = some [.imm (.int .i64 nd), .imm (.int .i64 a), .imm (.int .i64 0), .imm (.int .i64 sv), .imm (.int .i64 77)] := by rw [hFR]; exact bu hf
    have q1 : g .q .neq a a = false := by rw [dF hg]; simp
    have q2 : g .q .neq 0 0 = false := by rw [dF hg]; rfl
    have q3 : g .q .neq 77 77 = false := by rw [dF hg]; rfl
    have ea : g .w .add .i64 a sv = an := by rw [aJ hg, w1]; exact aw _ (by omega)
    have ez : g .w .add .i64 z 1 = z + 1 := by rw [aJ hg]; exact wr1 (by omega) (by omega)
    clear hst hf1 hf2 tz ty
    cbv
    (repeat' (first | (rw [tz1]; cbv) | (rw [q1]; cbv) | (rw [q2]; cbv) | (rw [q3]; cbv) | (rw [ea]; cbv) | (rw [ez]; cbv) | (refine goX hg _ (by omega) hfr rfl ?_; cbv)))
    skip
    subst hB
    exact ⟨(z + 1, an), ⟨by simp only; omega, by simp only; omega, han⟩, by simp only; omega, Wk.weak (wkG [some _, some _] ⟨rfl, rfl, rfl, rfl, rfl, trivial⟩ ⟨⟨_, _, rfl, rfl, rfl, rfl, .inl ⟨rfl, rfl⟩⟩, ⟨_, _, rfl, rfl, rfl, rfl, .inl ⟨rfl, rfl⟩⟩, trivial⟩ (by decide) aq)⟩
  · have tz1 := tz z
    rw [decide_eq_false hz] at tz1
    obtain rfl : z = K := by omega
    obtain rfl : a = WW := by rw [za, aN]
    clear za aN hB tz
    have tF : g .q .lss z (g .ln FR) = false := tz1
    cbv
    (repeat' (first | (rw [tz1]; cbv) | (refine n3 hg cy rfl rfl ?_; cbv) | (refine kw hg cy rfl rfl ?_; cbv)))
    refine fB [] [] heff hhd hg aC (by kernel_rfl) (fun s : Int => [(11, .t (ai (a))), (12, .t (.c (.ptr 0 0 0))), (13, .t (ai (a))), (16, .t (.c (.ptr 1 0 0))), (17, .t (ai (s)))]) (fun s => [.bx 47 4 [.imm (.int .i64 xw), .imm (.int .i64 xh), .imm (.int .i64 xb), .view FR], .bx 47 4 [.imm (.int .i64 yw), .imm (.int .i64 yh), .imm (.int .i64 yb), .view ER]]) (fun s => 0 ≤ s ∧ s ≤ z) (fun s => 4 - s.toNat)
      0 ⟨by simp, by omega⟩ (Wk.weak (wkG [some _, some _] ⟨rfl, rfl, rfl, rfl, rfl, trivial⟩ ⟨⟨_, _, rfl, rfl, rfl, rfl, .inl ⟨rfl, rfl⟩⟩, ⟨_, _, rfl, rfl, rfl, rfl, .inl ⟨rfl, rfl⟩⟩, trivial⟩ (by decide) aq)) (fun y B3 hs hB3 => ?_)
    obtain ⟨y0, y1⟩ := hs
    by_cases hy : y < z
    · have ty1 := ty y
      rw [decide_eq_true hy] at ty1
      obtain ⟨nd, hf⟩ := hf1 y y0 hy
      obtain ⟨ne, he⟩ := hf2 y y0 hy
      obtain ⟨w1, w2, w3, w4⟩ := hst y y0 hy
      obtain ⟨sv, hsv⟩ : ∃ v, v = sz y.toNat := ⟨_, rfl⟩
      obtain ⟨av, hav⟩ : ∃ v, v = at_ y.toNat := ⟨_, rfl⟩
      rw [← hav, ← hsv] at hf he w4
      rw [← hsv] at w2
      rw [← hav] at w3
      obtain ⟨ev, hev⟩ : ∃ v, v = a - av - sv := ⟨_, rfl⟩
      rw [← hev] at he
      have hfr : FR[y.toNat]? = some [.imm (.int .i64 nd), .imm (.int .i64 av), .imm (.int .i64 0), .imm (.int .i64 sv), .imm (.int .i64 77)] := by rw [hFR]; exact bu hf
      have her : ER[y.toNat]? = some [.imm (.int .i64 ne), .imm (.int .i64 ev), .imm (.int .i64 0), .imm (.int .i64 sv), .imm (.int .i64 77)] := by rw [hER]; exact bu he
      have eb : g .w .sub .i64 (g .w .sub .i64 a av) sv = ev := by rw [fd hg, fd hg, aw (a - av) (by omega), hev]; exact aw _ (by omega)
      have q1 : g .q .neq ev ev = false := by rw [dF hg]; simp
      have ez : g .w .add .i64 y 1 = y + 1 := by rw [aJ hg]; exact wr1 (by omega) (by omega)
      clear hst hf1 hf2 ty w1
      cbv
      (repeat' (first | (rw [ty1]; cbv) | (rw [tq]; cbv) | (rw [eb]; cbv) | (rw [q1]; cbv) | (rw [ez]; cbv) | (refine goX hg _ (by omega) hfr rfl ?_; cbv) | (refine goX hg _ (by omega) her rfl ?_; cbv)))
      skip
      subst hB3
      exact ⟨y + 1, ⟨by omega, by omega⟩, by omega, Wk.weak (wkG [some _, some _] ⟨rfl, rfl, rfl, rfl, rfl, trivial⟩ ⟨⟨_, _, rfl, rfl, rfl, rfl, .inl ⟨rfl, rfl⟩⟩, ⟨_, _, rfl, rfl, rfl, rfl, .inl ⟨rfl, rfl⟩⟩, trivial⟩ (by decide) aq)⟩
    · have ty1 := ty y
      rw [decide_eq_false hy] at ty1
      have u1 : g .q .eql a a = true := by rw [bB hg]; simp
      clear hst hf1 hf2 ty
      cbv
      (repeat' (first | (rw [ty1]; cbv) | (rw [tq]; cbv) | (rw [u1]; cbv)))
      exact aY hF rfl

end Go.Proofs.YtbnplcingdgaaaaGreat
