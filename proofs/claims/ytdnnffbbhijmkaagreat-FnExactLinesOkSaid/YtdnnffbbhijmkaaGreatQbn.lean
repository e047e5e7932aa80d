/- The program's layout: the sizes of a line, the frames of a line (two inner loops). -/
import Derived.Test.YtdnnffbbhijmkaaGreatQbm
set_option linter.unusedVariables false
set_option linter.unusedSimpArgs false
set_option maxHeartbeats 16000000
namespace Go.Proofs.YtdnnffbbhijmkaaGreat
open Go.ChangeShapes Go.WideShapes Go.ChangeAt Go.RowKit Am Go.Proofs.Tryz
set_option maxRecDepth 100000
theorem FQ{α β γ:Type}{c:α→γ}:∀{xs:List α}{ys:List β},xs.length=ys.length→(xs.zip ys).map (fun t=>c t.1)=xs.map c
 | [],[],_=>rfl
 |x::xs,y::ys,h=>by simp only [List.zip_cons_cons,zqA];rw [FQ (by simpa using h)]
theorem Dk{α β:Type}:∀{xs:List α}{ys:List β}{i:Nat}{t:α×β},(xs.zip ys)[i]? =some t→ys[i]? =some t.2
 | [],_,i,t,h=>by simp at h
 |_::_,[],i,t,h=>by simp at h
 |x::xs,y::ys,0,t,h=>by simp at h;subst h;rfl
 |x::xs,y::ys,i+1,t,h=>by simp only [List.zip_cons_cons,List.getElem?_cons_succ]at h⊢;exact Dk h
theorem nO(i:Int):PC0 271 [.c (.N),ai i] (.i (elZ [] i)):=by
 have he:elZ [] i=0:=AI i
 rw [he]
 refine ae (aK f271) aD func271 fun g F hg hF=> ?_
 have q1:g .q .lss (i) (0)=decide ((i)<(0)):=bn hg _ _
 have q2:g .q .geq i 0=decide (0≤i):=gO hg _ _
 by_cases h:i<0
 ·(first|rw [zqu h]at q1|rw [zqt h]at q1|rw [zqu (Classical.not_not.2 h)]at q1|rw [zqt (Classical.not_not.2 h)]at q1)
  cbv
  (repeat'(rw [q1];cbv))
  exact ba hF rfl
 ·rw [zqu (show 0≤i by omega)]at q2
  (first|rw [zqu h]at q1|rw [zqt h]at q1|rw [zqu (Classical.not_not.2 h)]at q1|rw [zqt (Classical.not_not.2 h)]at q1)
  cbv
  (repeat'((first|rw [q1]|rw [q2]);cbv))
  exact ba hF rfl
theorem vJ (xs : List ah) (ss : List Int) (gap inner js : Int) (hl : xs.length ≤ 1048576) (hs : ss.length ≤ 1048576) : cY prog 331 [.c (.view (vw ah.c xs)), .c (.view (vw ao ss)), ai gap, ai inner, ai js] fun res rows => ∃ (e : Int) (b : Bool), res = .tup [.c (.own 0), ai e, abl b] ∧ rows = [⟨3, 1, vw ao (alg xs ss gap inner js)⟩] := by
  have cI := iY xs hl
  have cg := da gap 0 1048576
  have ci := da inner 0 1048576
  change PC0 _ _ (.t (abl (rng gap 0 1048576))) at cg
  change PC0 _ _ (.t (abl (rng inner 0 1048576))) at ci
  have cO := eX xs ss gap hl hs
  have cS := cu (wrap64 (inner - wrap64 (ic xs ss gap)))
  have cA := r7 xs hl
  have cE := dQ (alF xs ss gap inner) (auN xs)
  have cL := nI (alF xs ss gap inner) (xs.length : Int) js
  have cB := fun i (h : (xs.length : Int) ≤ 12) h0 h1 => jS (alF xs ss gap inner) (xs.length : Int) js i (by omega) h h0 h1
  change PC0 _ _ (.i (alF xs ss gap inner)) at cS
  have halg : al5 xs ss gap inner = false → alg xs ss gap inner js = [] := fun h => by rw [alg, if_pos h]
  have halg2 : al5 xs ss gap inner = true → alg xs ss gap inner js = wi (alE xs ss gap inner) (alS xs (alF xs ss gap inner) js) gap (xs.length : Int) 0 (al0 xs (alF xs ss gap inner) js) 0 (xs.zip ss) := fun h => by rw [alg, h]; rfl
  have hab := yh xs
  have hok : dT xs = true → (xs.length : Int) ≤ 12 := fun h => by simp only [dT, zqs, zqp] at h; exact h.2
  unfold al5 at halg halg2
  obtain ⟨AL, hAL⟩ := nmE (alg xs ss gap inner js)
  rw [← hAL] at halg halg2 ⊢
  have hex : alE xs ss gap inner = if 0 < auN xs ∧ 0 < alF xs ss gap inner then evn (alF xs ss gap inner) (auN xs) else [] := rfl
  have hsp : ∀ i, alS xs (alF xs ss gap inner) js i = if auN xs = 0 then btw (alF xs ss gap inner) (xs.length : Int) js i else 0 := fun _ => rfl
  have ha0 : al0 xs (alF xs ss gap inner) js = if auN xs = 0 then led (alF xs ss gap inner) (xs.length : Int) js else 0 := rfl
  obtain ⟨D, hD⟩ := nmE (wrap64 (inner - wrap64 (ic xs ss gap))); (try rw [← hD] at cS)
  obtain ⟨OU, hOU⟩ := nmE (wrap64 (ic xs ss gap)); (try rw [← hOU] at cO); (try rw [← hOU] at hD)
  obtain ⟨EX, hEX⟩ := nmE (alE xs ss gap inner); (try rw [← hEX] at hex); (try rw [← hEX] at halg2)
  obtain ⟨SP, hSP⟩ := nmE (alS xs (alF xs ss gap inner) js)
  obtain ⟨A0, hA0⟩ := nmE (al0 xs (alF xs ss gap inner) js)
  rw [← hSP] at hsp halg2
  rw [← hA0] at ha0 halg2
  obtain ⟨LD, hLD⟩ := nmE (led (alF xs ss gap inner) (xs.length : Int) js); (try rw [← hLD] at cL); (try rw [← hLD] at ha0)
  obtain ⟨BW, hBW⟩ := nmE (btw (alF xs ss gap inner) (xs.length : Int) js)
  rw [← hBW] at hsp cB
  obtain ⟨fr, hfr⟩ := nmE (alF xs ss gap inner); (try rw [← hfr] at cE); (try rw [← hfr] at cL); (try rw [← hfr] at cB); (try rw [← hfr] at hex); (try rw [← hfr] at ha0); (try rw [← hfr] at cS)
  obtain ⟨au, hau⟩ := nmE (auN xs); (try rw [← hau] at cA); (try rw [← hau] at cE); (try rw [← hau] at hex); (try rw [← hau] at hsp); (try rw [← hau] at ha0); (try rw [← hau] at hab)
  obtain ⟨n, hn⟩ := nmE ((xs.length : Int)); (try rw [← hn] at cL); (try rw [← hn] at cB); (try rw [← hn] at halg2); (try rw [← hn] at hok)
  have hzl : (xs.zip ss).length ≤ 1048576 := by rw [zqB]; omega
  have hz2 := @Dk _ _ xs ss
  have hzv := FQ (c := fun x => lc (ah.c x)) (xs := xs) (ys := ss)
  obtain ⟨zs, hzs⟩ := nmE (xs.zip ss); (try rw [← hzs] at halg2); (try rw [← hzs] at hzl); (try rw [← hzs] at hz2)
  obtain ⟨V, hV⟩ := nmE (vw ah.c xs)
  have hVl : V.length = xs.length := by rw [hV, af]
  have iV : bR V = true := by rw [hV]; exact aG _ _
  have kV : ∀ y ∈ V, y.length = 9 := by rw [hV]; exact bC (c := ah.c) (k := 9) fun _ => rfl
  have dV : ∀ y ∈ V, y.all dat = true := by rw [hV]; exact az
  obtain ⟨W, hW⟩ := nmE (vw ao ss)
  have hWl : W.length = ss.length := by rw [hW, af]
  have iW : bR W = true := by rw [hW]; exact aG _ _
  have kW : ∀ y ∈ W, y.length = 1 := by rw [hW]; exact bC (c := ao) (k := 1) fun _ => rfl
  have dW : ∀ y ∈ W, y.all dat = true := by rw [hW]; exact az
  rw [← hV] at cI cO cA
  rw [← hW] at cO
  rw [← hV, ← hW]
  have hVx : bg V = n := by rw [hV, aN, hn]
  obtain ⟨q, hq⟩ := nmE (decide (ss.length = xs.length))
  obtain ⟨Z, hZ⟩ := nmE (ss.all (fun s => rng s 0 1048576))
  obtain ⟨I, hI⟩ := nmE (dT xs); (try rw [← hI] at cI); (try rw [← hI] at hok); (try rw [← hI] at halg); (try rw [← hI] at halg2)
  obtain ⟨G, hG⟩ := nmE (rng gap 0 1048576); (try rw [← hG] at cg); (try rw [← hG] at halg); (try rw [← hG] at halg2)
  obtain ⟨J, hJ⟩ := nmE (rng inner 0 1048576); (try rw [← hJ] at ci); (try rw [← hJ] at halg); (try rw [← hJ] at halg2)
  rw [← hq] at halg halg2
  rw [← hZ] at halg halg2
  clear hOU hEX hSP hA0 hLD hBW hfr hI hG hJ hau hAL
  refine gC ([(23, .hand), (25, .hand)]) ([]) (c := aK f331) aD func331 (by kernel_rfl) (by kernel_rfl) (by rfl) (by kernel_rfl) fun g eff hd F heff hhd hg hF => ?_
  have tl : g .q .neq (g .ln W) (g .ln V) = !q := by
    rw [bk hg, bD hg, bD hg, aB, aB, hVl, hWl, hq]
    by_cases h : ss.length = xs.length
    · simp [h]
    · simp [h]; omega
  have dY : AL = [] → F [.c (.N), .c (.J 0), .c (.B false)] [] := fun h =>
    B7 hF (.tup [.c (.own 0), ai 0, abl false]) [⟨3, 1, []⟩] _ (wkG [none] ⟨⟨rfl, rfl, rfl, trivial⟩, trivial⟩ ⟨⟨_, rfl, rfl⟩, trivial⟩ (by decide) aI) ⟨0, false, rfl, by rw [h]; rfl⟩
  by_cases hc4 : (I && (q && (G && J))) = true
  rotate_left
  · have hA : AL = [] := halg (by rw [Bool.and_eq_false_iff]; exact .inr (Bool.eq_false_iff.2 hc4))
    cases I <;> cases q <;> cases G <;> cases J
    all_goals first
      | exact absurd rfl hc4
      | (cbv; (repeat' (first | (rw [tl]; cbv) | (refine ad hg cI ?_; cbv) | (refine aa hg cI ?_; cbv) | (refine ad hg cg ?_; cbv) | (refine aa hg cg ?_; cbv) | (refine ad hg ci ?_; cbv) | (refine aa hg ci ?_; cbv))); exact dY hA)
  rw [hc4, Bool.and_true] at halg halg2
  simp only [zqs] at hc4
  obtain ⟨rfl, rfl, rfl, rfl⟩ := hc4
  have hn12 := hok rfl
  have hqe : ss.length = xs.length := of_decide_eq_true hq.symm
  replace hV : V = zs.map (fun t => lc (ah.c t.1)) := by rw [hzs, hzv hqe.symm, hV]; rfl
  cbv
  (repeat' (first | (rw [tl]; cbv) | (refine ad hg cI ?_; cbv) | (refine aa hg cI ?_; cbv) | (refine ad hg cg ?_; cbv) | (refine aa hg cg ?_; cbv) | (refine ad hg ci ?_; cbv) | (refine aa hg ci ?_; cbv)))
  refine lA ([(23, .hand), (25, .hand)]) ([]) heff hhd hg aD (by kernel_rfl) W (fun x => lc (ao x)) ss hW hs (fun z (s : Unit) => [(0, .v V), (1, .v W), (2, .i (gap)), (3, .i (inner)), (4, .i (js)), (44, .v W), (45, .i (g .ln W)), (46, .i (z))]) (fun z (s : Unit) => []) (fun z (s : Unit) => True) (fun (s : Unit) rest => rest.all (fun s => rng s 0 1048576)) (Z) () hZ.symm trivial (Wk.weak (wkG [] ⟨rfl, rfl, rfl, rfl, rfl, rfl, rfl, rfl, trivial⟩ trivial (by decide) aI)) (fun z s B hz h0 hi he => ?_) (fun z s x rest B z0 z1 z2 hx hy h0 hi hc e1 hB => ?_)
  rotate_left
  · cbv; rw [hc]; cbv; refine goX hg _ z0 hy rfl ?_; cbv
    (first | refine br hg (da x 0 1048576) rfl (fun R0 hR0 => ?_) | refine aZ hg (da x 0 1048576) rfl (fun R0 hR0 => ?_)); cbv
    cases R0 <;> cbv
    · exact dY (halg (by rw [← h0, zqD, show rng x 0 1048576 = false from hR0.symm]; rfl))
    · rw [e1]
      exact hB (()) _ _ ⟨by rw [← h0, zqD, show rng x 0 1048576 = true from hR0.symm]; rfl, trivial⟩ (Wk.weak (wkG [] ⟨rfl, rfl, rfl, rfl, rfl, rfl, rfl, rfl, trivial⟩ trivial (by decide) aI))
  cbv; rw [he]; cbv
  obtain rfl : Z = true := h0.symm
  replace halg2 := halg2 rfl
  clear halg h0
  have eS : g .w .sub .i64 inner OU = D := by rw [dd hg, hD]
  have t1 : g .q .gtr au 0 = decide (0 < au) := cj hg _ _
  have t2 : g .q .gtr fr 0 = decide (0 < fr) := cj hg _ _
  have t3 : g .q .eql au 0 = decide (au = 0) := by rw [bv hg]; exact zqn _ _
  have t4 : g .ln V = n := by rw [bD hg, hVx]
  rw [← t4] at cL
  have key : ∃ (C : AC) (a0 : Int), dat C = true ∧ (∀ i : Int, PC0 271 [.c C, ai i] (.i (elZ EX i))) ∧ a0 = A0 ∧ ((au = 0 ∧ C = .N) ∨ (¬ au = 0 ∧ C = .N ∧ ¬ 0 < fr ∧ a0 = 0) ∨ (¬ au = 0 ∧ 0 < fr ∧ C = .view (vw ao EX) ∧ EX = evn fr au ∧ a0 = 0)) := by
    by_cases ha : au = 0
    · have : EX = [] := by rw [hex, if_neg (by omega)]
      exact ⟨_, A0, rfl, fun i => by rw [this]; exact nO i, rfl, .inl ⟨ha, rfl⟩⟩
    · rw [if_neg ha] at ha0
      by_cases hf : 0 < fr
      · have : EX = evn fr au := by rw [hex, if_pos (by omega)]
        refine ⟨.view (vw ao EX), A0, rfl, fun i => cV EX (by rw [this, gQ]; have := oL au; omega) i, rfl, .inr (.inr ⟨ha, hf, rfl, this, ha0⟩)⟩
      · have : EX = [] := by rw [hex, if_neg (by omega)]
        exact ⟨_, A0, rfl, fun i => by rw [this]; exact nO i, rfl, .inr (.inl ⟨ha, rfl, hf, ha0⟩)⟩
  obtain ⟨C, a0, dC, cC, ha, hC⟩ := key
  have pC : dz C = true := by cases C <;> first | rfl | cases dC
  (repeat' (first | (rw [eS]; cbv) | (refine ad hg cO ?_; cbv) | (refine aa hg cO ?_; cbv) | (refine ad hg cS ?_; cbv) | (refine aa hg cS ?_; cbv) | (refine ad hg cA ?_; cbv) | (refine aa hg cA ?_; cbv)))
  rcases hC with ⟨ha1, hC⟩ | ⟨ha1, hC, hf, ha2⟩ | ⟨ha1, hf, hC, hEv, ha2⟩
  case' inl =>
    rw [zqu ha1] at t3
    rw [zqt (show ¬ 0 < au by omega)] at t1
    rw [if_pos ha1, ← ha] at ha0
    rw [← ha0] at cL
    (repeat' (first | (rw [t1]; cbv) | (rw [t3]; cbv) | (refine ad hg cL ?_; cbv) | (refine aa hg cL ?_; cbv)))
  case' inr.inl =>
    rw [zqt ha1] at t3
    rw [zqu (show 0 < au by omega)] at t1
    rw [zqt hf] at t2
    (repeat' (first | (rw [t1]; cbv) | (rw [t2]; cbv) | (rw [t3]; cbv)))
  case' inr.inr =>
    rw [zqt ha1] at t3
    rw [zqu (show 0 < au by omega)] at t1
    rw [zqu hf] at t2
    rw [← hEv] at cE
    obtain ⟨Y, hY⟩ := nmE (vw ao EX); (try rw [← hY] at cE); (try rw [← hY] at hC)
    (repeat' (first | (rw [t1]; cbv) | (rw [t2]; cbv) | (rw [t3]; cbv) | (refine ad hg cE ?_; cbv) | (refine aa hg cE ?_; cbv)))
  all_goals
    refine lA ([(23, .hand), (25, .hand)]) ([]) heff hhd hg aD (by kernel_rfl) V (fun t => lc (ah.c t.1)) zs hV hzl (fun z (s : Int × Int × List Int × LLA) => [(0, .v V), (1, .v W), (2, .i (gap)), (4, .i (js)), (15, .i (fr)), (16, .i (au)), (17, .p 0), (18, .p 1), (19, .t (.c (.clo 360 (1 :: 0 :: [])))), (20, .i (s.1)), (21, .o 2), (80, .v V), (81, .i (g .ln V)), (82, .i (z))]) (fun z (s : Int × Int × List Int × LLA) => [.bx 49 1 [C], .bx 3 1 [.J s.2.1], .rw ⟨3, 1, s.2.2.2⟩]) (fun z (s : Int × Int × List Int × LLA) => s.2.2.2 = vw ao s.2.2.1 ∧ (s.2.2.1.length : Int) = z ∧ 0 ≤ s.2.1 ∧ s.2.1 ≤ 2 * z) (fun (s : Int × Int × List Int × LLA) rest => s.2.2.1 ++ wi EX SP gap n (s.2.2.1.length : Int) s.1 s.2.1 rest) (AL) (a0, 0, [], []) (by rw [halg2, ← ha]; rfl) ⟨rfl, rfl, Int.le_refl 0, Int.le_refl 0⟩ (Wk.weak (wkG [some 0, some 1, none] ⟨rfl, rfl, rfl, rfl, rfl, rfl, rfl, rfl, ⟨rfl, rfl, rfl, trivial⟩, by first | rfl | (rw [ha2]; rfl), rfl, rfl, rfl, rfl, trivial⟩ ⟨⟨_, _, rfl, rfl, rfl, rfl, .inl ⟨by rw [hC], rfl⟩⟩, wqE rfl rfl, ⟨_, rfl, rfl⟩, trivial⟩ (by decide) aI)) (fun z s B hz h0 hi he => ?_) (fun z s x rest B z0 z1 z2 hx hy h0 hi hc e1 hB => ?_)
    · obtain ⟨a, k, out, E⟩ := s
      obtain ⟨i1, i2, i3, i4⟩ := hi
      dsimp only at i1 i2 i3 i4 h0
      have pE : aj E = true := by rw [i1]; exact ag _ _
      obtain rfl : out = AL := by simpa [wi] using h0
      cbv; rw [he]; cbv
      exact B7 hF (.tup [.c (.own 0), ai a, abl true]) [⟨3, 1, E⟩] _ (wkG [some 2] ⟨⟨rfl, rfl, rfl, trivial⟩, trivial⟩ ⟨wqE rfl pE, trivial⟩ (by decide) aI) ⟨a, true, rfl, by rw [i1]⟩
    · obtain ⟨a, k, out, E⟩ := s
      obtain ⟨⟨x0, x1, x2, x3, x4, x5, x6, x7, x8⟩, sz⟩ := x
      obtain ⟨i1, i2, i3, i4⟩ := hi
      dsimp only at i1 i2 i3 i4 h0 hy
      have hyW : W[z.toNat]? = some [.J sz] := by rw [hW]; exact bh (hz2 hx)
      have cA1 := yj EX C dC cC k i3 (by omega) x7
      have cA2 := yj EX C dC cC (auK k x7) (by unfold auK; split <;> omega) (by unfold auK; split <;> omega) x8
      have hEl : E.length ≤ 1048576 := by rw [i1, af]; omega
      obtain ⟨P1, hP1⟩ := nmE (Gj EX a k ⟨x0, x1, x2, x3, x4, x5, x6, x7, x8⟩); (try rw [← hP1] at h0)
      obtain ⟨v1, hv1⟩ := nmE (auT EX k x7); (try rw [← hv1] at cA1)
      obtain ⟨k1, hk1⟩ := nmE (auK k x7); (try rw [← hk1] at cA1); (try rw [← hk1] at cA2)
      obtain ⟨v2, hv2⟩ := nmE (auT EX k1 x8); (try rw [← hv2] at cA2)
      obtain ⟨k2, hk2⟩ := nmE (auK k1 x8); (try rw [← hk2] at cA2)
      have eP1 : g .w .add .i64 x5 v1 = wrap64 (x5 + v1) := aM hg _ _
      have eP2 : g .w .add .i64 a (wrap64 (x5 + v1)) = P1 := by rw [aM hg, hP1, hv1]; rfl
      have eQ1 : g .w .add .i64 sz x6 = wrap64 (sz + x6) := aM hg _ _
      have eQ2 : g .w .add .i64 (wrap64 (sz + x6)) v2 = wrap64 (wrap64 (sz + x6) + v2) := aM hg _ _
      have eQ3 : g .w .add .i64 P1 (wrap64 (wrap64 (sz + x6) + v2)) = wrap64 (P1 + wrap64 (wrap64 (sz + x6) + v2)) := aM hg _ _
      have eQ : GI EX SP gap n z a k ⟨x0, x1, x2, x3, x4, x5, x6, x7, x8⟩ sz = (if z + 1 < n then wrap64 (wrap64 (wrap64 (P1 + wrap64 (wrap64 (sz + x6) + v2)) + gap) + SP z) else wrap64 (P1 + wrap64 (wrap64 (sz + x6) + v2))) := by
        rw [hP1, hv2, hk1]; rfl
      generalize wrap64 (x5 + v1) = u1 at eP1 eP2
      generalize wrap64 (P1 + wrap64 (wrap64 (sz + x6) + v2)) = Q at *
      generalize wrap64 (wrap64 (sz + x6) + v2) = u3 at *
      generalize wrap64 (sz + x6) = u2 at *
      have eR1 : g .w .add .i64 Q gap = wrap64 (Q + gap) := aM hg _ _
      have eR2 : g .w .add .i64 (wrap64 (Q + gap)) (BW z) = wrap64 (wrap64 (Q + gap) + BW z) := aM hg _ _
      have hsz := hsp z
      have t5 : g .q .lss (z + 1) (g .ln V) = decide (z + 1 < n) := by rw [bn hg, t4]
      have cBz := cB z (hok rfl) z0 (by rw [← hVx] at hok; have := hok rfl; omega)
      rw [← t4] at cBz
      obtain ⟨bw, hbw⟩ := nmE (BW z)
      rw [← hbw] at eR2 hsz cBz
      obtain ⟨z3, hz3⟩ := nmE (z + 1)
      rw [← hz3] at e1 t5 eQ
      have nb : 0 ≤ k2 ∧ k2 ≤ 2 * (z + 1) := by rw [hk2, hk1]; unfold auK; split <;> split <;> omega
      have nl : ((out ++ [P1]).length : Int) = z + 1 := by simp; omega
      have ha3 : out ++ wi EX SP gap n (out.length : Int) a k ((⟨x0, x1, x2, x3, x4, x5, x6, x7, x8⟩, sz) :: rest) = (out ++ [P1]) ++ wi EX SP gap n (z + 1) (GI EX SP gap n z a k ⟨x0, x1, x2, x3, x4, x5, x6, x7, x8⟩ sz) k2 rest := by
        rw [i2, hk2, hk1, hP1, zqC]; rfl
      rw [ha3, ← hz3, eQ] at h0
      rw [← hz3] at nl nb
      clear ha3 eQ
      have pCC : aj [[C]] = true := by simp [aj, pC]
      have pE : aj E = true := by rw [i1]; exact ag _ _
      cbv
      rw [hc]
      cbv
      refine goX hg _ z0 hy rfl ?_
      cbv
      refine ek hg hhd aD [1, 2, 3, 4, 5] (.op 0 [] (.op 6 [7, 8] (.op 9 [] .done .none) .none) (.op 6 [7] (.op 0 [8] (.op 9 [] .done .none) .none) .none)) (by kernel_rfl) (by kernel_rfl) (S := Unit) (fun _ => True) (fun _ => [(0, .v V), (1, .v W), (2, .i (gap)), (4, .i (js)), (15, .i (fr)), (16, .i (au)), (17, .p 0), (18, .p 1), (19, .t (.c (.clo 360 (1 :: 0 :: [])))), (20, .i (P1)), (21, .o 2), (80, .v V), (81, .i (g .ln V)), (82, .i (z)), (22, .i (z)), (23, .p 3)]) (fun _ => [.bx 49 1 [C], .bx 3 1 [.J k1], .rw ⟨3, 1, E⟩, .bx 121 9 [.J x0, .J x1, .J x2, .J x3, .J x4, .J x5, .J x6, .B x7, .B x8]]) (fun BL hBL => ?_) (fun _ _ => ?_)
      · cbv
        (repeat' (first | exact trivial | exact rfl | (refine Df hg pC cA1 rfl rfl rfl ?_; cbv) | (rw [eP1]; cbv) | (rw [eP2]; cbv) | exact hBL () trivial _ _ (Wk.weak (wkG [some 0, some 1, some 2, some 3] ⟨rfl, rfl, rfl, rfl, rfl, rfl, rfl, rfl, ⟨rfl, rfl, rfl, trivial⟩, rfl, rfl, rfl, rfl, rfl, rfl, rfl, trivial⟩ ⟨wqE rfl pCC, wqE rfl rfl, wqE rfl pE, wqE rfl rfl, trivial⟩ (by decide) aI)) | refine And.intro ?_ ?_))
      cbv
      refine dl hg rfl (by decide) hEl ?_
      cbv
      rw [gG hg]
      have aE : E ++ [[.J P1]] = vw ao (out ++ [P1]) := by rw [i1, bA]; rfl
      generalize E ++ _ = E2 at aE ⊢
      replace aE : E2 = vw ao (out ++ [P1]) := aE
      have pE2 : aj E2 = true := by rw [aE]; exact ag _ _
      refine ek hg hhd aD [1, 2, 3, 4, 5, 6, 7, 8, 9, 10] (.op 0 [] (.op 11 [12, 13] (.op 14 [] .done .none) .none) (.op 11 [12] (.op 0 [13] (.op 14 [] .done .none) .none) .none)) (by kernel_rfl) (by kernel_rfl) (S := Unit) (fun _ => True) (fun _ => [(0, .v V), (1, .v W), (2, .i (gap)), (4, .i (js)), (15, .i (fr)), (16, .i (au)), (17, .p 0), (18, .p 1), (19, .t (.c (.clo 360 (1 :: 0 :: [])))), (20, .i (Q)), (21, .o 2), (80, .v V), (81, .i (g .ln V)), (82, .i (z)), (22, .i (z)), (23, .p 3)]) (fun _ => [.bx 49 1 [C], .bx 3 1 [.J k2], .rw ⟨3, 1, E2⟩, .bx 121 9 [.J x0, .J x1, .J x2, .J x3, .J x4, .J x5, .J x6, .B x7, .B x8]]) (fun BL hBL => ?_) (fun _ _ => ?_)
      · cbv
        (repeat' (first | exact trivial | exact rfl | (refine Df hg pC cA2 rfl rfl rfl ?_; cbv) | (refine goX hg _ z0 hyW rfl ?_; cbv) | (rw [eQ1]; cbv) | (rw [eQ2]; cbv) | (rw [eQ3]; cbv) | exact hBL () trivial _ _ (Wk.weak (wkG [some 0, some 1, some 5, some 3] ⟨rfl, rfl, rfl, rfl, rfl, rfl, rfl, rfl, ⟨rfl, rfl, rfl, trivial⟩, rfl, rfl, rfl, rfl, rfl, rfl, rfl, trivial⟩ ⟨wqE rfl pCC, wqE rfl rfl, wqE rfl pE2, wqE rfl rfl, trivial⟩ (by decide) aI)) | refine And.intro ?_ ?_))
      cbv
      skip
      by_cases h5 : z3 < n
      · rw [zqu h5] at t5
        rw [if_pos h5] at h0
        by_cases hau0 : au = 0
        all_goals first
          | exact absurd hau0 ha1
          | exact absurd ha1 hau0
          | (rw [if_pos hau0] at hsz
             rw [hsz] at h0
             generalize wrap64 (Q + gap) = Q2 at *
             generalize wrap64 (Q2 + bw) = Q3 at *
             (repeat' (first | (rw [e1]; cbv) | (rw [t5]; cbv) | (rw [eR1]; cbv) | (rw [eR2]; cbv) | (rw [t3]; cbv) | (refine ad hg cBz ?_; cbv) | (refine aa hg cBz ?_; cbv)))
             subst hz3
             exact hB ((Q3, k2, out ++ [P1], E2)) _ _ ⟨(by dsimp only; rw [nl]; exact h0), ⟨aE, nl, nb.1, nb.2⟩⟩ (Wk.weak (wkG [some 0, some 1, some 2] ⟨rfl, rfl, rfl, rfl, rfl, rfl, rfl, rfl, ⟨rfl, rfl, rfl, trivial⟩, rfl, rfl, rfl, rfl, rfl, trivial⟩ ⟨wqE rfl pCC, wqE rfl rfl, wqE rfl pE2, trivial⟩ (by decide) aI)))
          | (rw [if_neg hau0] at hsz
             rw [hsz, Int.add_zero, uX] at h0
             generalize wrap64 (Q + gap) = Q2 at *
             (repeat' (first | (rw [e1]; cbv) | (rw [t5]; cbv) | (rw [eR1]; cbv) | (rw [t3]; cbv)))
             subst hz3
             exact hB ((Q2, k2, out ++ [P1], E2)) _ _ ⟨(by dsimp only; rw [nl]; exact h0), ⟨aE, nl, nb.1, nb.2⟩⟩ (Wk.weak (wkG [some 0, some 1, some 2] ⟨rfl, rfl, rfl, rfl, rfl, rfl, rfl, rfl, ⟨rfl, rfl, rfl, trivial⟩, rfl, rfl, rfl, rfl, rfl, trivial⟩ ⟨wqE rfl pCC, wqE rfl rfl, wqE rfl pE2, trivial⟩ (by decide) aI)))
      · rw [zqt h5] at t5
        rw [if_neg h5] at h0
        (repeat' (first | (rw [e1]; cbv) | (rw [t5]; cbv)))
        subst hz3
        exact hB ((Q, k2, out ++ [P1], E2)) _ _ ⟨(by dsimp only; rw [nl]; exact h0), ⟨aE, nl, nb.1, nb.2⟩⟩ (Wk.weak (wkG [some 0, some 1, some 2] ⟨rfl, rfl, rfl, rfl, rfl, rfl, rfl, rfl, ⟨rfl, rfl, rfl, trivial⟩, rfl, rfl, rfl, rfl, rfl, trivial⟩ ⟨wqE rfl pCC, wqE rfl rfl, wqE rfl pE2, trivial⟩ (by decide) aI))
theorem nD(xs:List ah)(ss:List Int)(gap inner js:Int)(hl:xs.length≤1048576)(hs:ss.length≤1048576):cY prog 267 [.c (.view (vw ah.c xs)),.c (.view (vw ao ss)),ai gap,ai inner,ai js] fun res rows=>res= .o 0∧rows=[⟨3,1,vw ao (alg xs ss gap inner js)⟩]:=by
 have cP:=vJ xs ss gap inner js hl hs
 obtain⟨V,hV⟩:=nmE (vw ah.c xs);(try rw [←hV]at cP);(try rw [←hV]at⊢)
 obtain⟨W,hW⟩:=nmE (vw ao ss);(try rw [←hW]at cP);(try rw [←hW]at⊢)
 obtain⟨E,hE⟩:=nmE (vw ao (alg xs ss gap inner js));(try rw [←hE]at cP);(try rw [←hE]at⊢)
 have pE:aj E=true:=by rw [hE];exact ag _ _
 refine ae (aK f267) aD func267 fun g F hg hF=> ?_
 cbv
 refine sa hg (fj cP rfl fun res rows hq=> ?_)
 obtain⟨e,b,rfl,rfl⟩:=hq
 refine⟨[.rw ⟨3,1,E⟩],by simp only [zqA,List.map_nil];rw [show AB.shift _ ⟨3,1,E⟩=(⟨3,1,E⟩:AB)from congrArg (AB.mk _ _) (ix pE)];rfl,?_⟩
 cbv
 exact bP hF rfl pE
theorem uL(ex:List Int)(sp:Int→Int)(gap many:Int):∀(ps:List (ah×Int))(i a k:Int),(wi ex sp gap many i a k ps).length=ps.length
 | [],_,_,_=>rfl
 |(x,s)::r,i,a,k=>by simp only [wi,zqx,uL ex sp gap many r]
theorem Eh(xs:List ah)(ss:List Int)(gap inner js:Int):(alg xs ss gap inner js).length≤ss.length:=by
 unfold alg
 split
 ·exact Nat.zero_le _
 ·rw [uL,zqB];exact Nat.min_le_right ..
theorem BO{g:Gd}(hg:g= @G0 bp0 prog 0 f186.ntmps){Q:Exit→List (Nat×AV)→EH→Prop}(V:LLA)(rtl:Bool)(n:Int)(s0:ar)(row:Bool)(iw ih al ac:aw)(w0 w1 h0' h1':Int)(K:LLA)(IN AC':Int)(vI vL vZ vS vC vT:LLA)(fl ft fr fb:Int)(zo:Int)(E:LLA)(pE:aj E=true)(ZZ:List Int)(hvZ:vZ=vw ao ZZ)(l:List Int)(L:LLA)(hL:L=vw ao l)(hll:l.length≤1048576)(hlb:∀i∈l,0≤i∧i<(ZZ.length:Int))
  (hQ:∀(z:Int)(E2:LLA),E2=vw ao (l.map (elZ ZZ))→Q (.exit 6) [(220,.t (abl (false))),(4,.p 0),(6,.p 1),(7,.p 2),(8,.p 3),(9,.p 4),(11,.v vI),(12,.v vL),(13,.i (IN)),(14,.v vZ),(15,.v vS),(16,.v vC),(18,.i (AC')),(20,.v vT),(28,.p 5),(29,.o 6),(210,.v vL),(211,.i (g .ln vL)),(212,.i (zo)),(30,.i (zo)),(31,.v L),(32,.o 7),(217,.v L),(218,.i (g .ln L)),(219,.i (z))] [.bx 95 3 (mA V rtl),.bx 28 2 [.J w0,.J w1],.bx 28 2 [.J h0',.J h1'],.bx 64 4 [.J 0,.J 0,.J 0,.N],.bx 98 75 (plL n s0 ⟨w0,w1⟩ ⟨h0',h1'⟩ row iw ih al ac (.view K)),.bx 85 4 [.J fl,.J ft,.J fr,.J fb],.rw ⟨45,5,E⟩,.rw ⟨3,1,E2⟩]):
  g .L (lO (aK f186) 3) Q [(4,.p 0),(6,.p 1),(7,.p 2),(8,.p 3),(9,.p 4),(11,.v vI),(12,.v vL),(13,.i (IN)),(14,.v vZ),(15,.v vS),(16,.v vC),(18,.i (AC')),(20,.v vT),(28,.p 5),(29,.o 6),(210,.v vL),(211,.i (g .ln vL)),(212,.i (zo)),(30,.i (zo)),(31,.v L),(32,.o 7),(217,.v L),(218,.i (g .ln L)),(219,.i (0))] [.bx 95 3 (mA V rtl),.bx 28 2 [.J w0,.J w1],.bx 28 2 [.J h0',.J h1'],.bx 64 4 [.J 0,.J 0,.J 0,.N],.bx 98 75 (plL n s0 ⟨w0,w1⟩ ⟨h0',h1'⟩ row iw ih al ac (.view K)),.bx 85 4 [.J fl,.J ft,.J fr,.J fb],.rw ⟨45,5,E⟩,.rw ⟨3,1,[]⟩]:=by
 obtain⟨R,hR⟩:=nmE (l.map (elZ ZZ))
 rw [←hR]at hQ
 have hRl:R.length≤1048576:=by rw [hR,zql];exact hll
 refine aY hg aD (by kernel_rfl) L (fun x=>lc (ao x)) l hL hll (fun z(s:List Int×LLA)=>[(4,.p 0),(6,.p 1),(7,.p 2),(8,.p 3),(9,.p 4),(11,.v vI),(12,.v vL),(13,.i (IN)),(14,.v vZ),(15,.v vS),(16,.v vC),(18,.i (AC')),(20,.v vT),(28,.p 5),(29,.o 6),(210,.v vL),(211,.i (g .ln vL)),(212,.i (zo)),(30,.i (zo)),(31,.v L),(32,.o 7),(217,.v L),(218,.i (g .ln L)),(219,.i (z))]) (fun z(s:List Int×LLA)=>[.bx 95 3 (mA V rtl),.bx 28 2 [.J w0,.J w1],.bx 28 2 [.J h0',.J h1'],.bx 64 4 [.J 0,.J 0,.J 0,.N],.bx 98 75 (plL n s0 ⟨w0,w1⟩ ⟨h0',h1'⟩ row iw ih al ac (.view K)),.bx 85 4 [.J fl,.J ft,.J fr,.J fb],.rw ⟨45,5,E⟩,.rw ⟨3,1,s.2⟩]) (fun z(s:List Int×LLA)=>s.2=vw ao s.1) (fun(s:List Int×LLA) rest=>s.1++rest.map (elZ ZZ)) (R) ([],[]) (by rw [hR];rfl) rfl (Wk.weak (wkG [some _,some _,some _,some _,some _,some _,some 6,some 7] ⟨rfl,rfl,rfl,rfl,rfl,rfl,rfl,rfl,rfl,rfl,rfl,rfl,rfl,rfl,rfl,rfl,rfl,rfl,rfl,rfl,rfl,rfl,rfl,rfl,trivial⟩ ⟨wqE rfl rfl,wqE rfl rfl,wqE rfl rfl,wqE rfl rfl,wqE rfl rfl,wqE rfl rfl,wqE rfl pE,wqE rfl rfl,trivial⟩ (by decide) aI)) (fun z s B hz h0 hi he=> ?_) (fun z s x rest B z0 z1 z2 hx hy h0 hi hc e1 hB=> ?_)
 ·obtain⟨out,E1⟩:=s
  dsimp only at hi h0
  obtain rfl:out=R:=by simpa using h0
  have hQ:=hQ z E1 hi
  cbv;rw [he];cbv
  exact hQ
 ·obtain⟨out,E1⟩:=s
  dsimp only at hi h0
  have hxm:=hlb x (zqd hx)
  have hx0:=hxm.1
  obtain⟨v,hv⟩:=nmE (elZ ZZ x)
  have hZx:vZ[x.toNat]? =some [.J v]:=by rw [hvZ,hv];exact bh (jZ hx0 hxm.2)
  have hlen:=congrArg List.length h0
  rw [zqe]at hlen
  have hEl:E1.length≤1048576:=by rw [hi,af];omega
  have h3:(out++[v])++rest.map (elZ ZZ)=R:=by rw [←h0,hv];simp
  have aE:E1++[[.J v]]=vw ao (out++[v]):=by rw [hi,bA];rfl
  obtain⟨E2,hE2⟩:∃E2,E2=E1++[[.J v]]:=⟨_,rfl⟩
  rw [←hE2]at aE
  have pE2:aj E2=true:=by rw [aE];exact ag _ _
  clear hlen hv hxm hR
  cbv;rw [hc];cbv;refine goX hg _ z0 hy rfl ?_;cbv
  (repeat'((first|rw [e1]|refine goX hg _ hx0 hZx rfl ?_|refine dl hg rfl (by decide) hEl ?_;cbv;rw [gG hg,←hE2]);cbv))
  exact hB ((out++[v],E2)) _ _ ⟨h3,aE⟩ (Wk.weak (wkG [some _,some _,some _,some _,some _,some _,some 6,some 9] ⟨rfl,rfl,rfl,rfl,rfl,rfl,rfl,rfl,rfl,rfl,rfl,rfl,rfl,rfl,rfl,rfl,rfl,rfl,rfl,rfl,rfl,rfl,rfl,rfl,trivial⟩ ⟨wqE rfl rfl,wqE rfl rfl,wqE rfl rfl,wqE rfl rfl,wqE rfl rfl,wqE rfl rfl,wqE rfl pE,wqE rfl pE2,trivial⟩ (by decide) aI))
theorem BM{g:Gd}(hg:g= @G0 bp0 prog 0 f186.ntmps){Q:Exit→List (Nat×AV)→EH→Prop}(V:LLA)(rtl:Bool)(n:Int)(s0:ar)(row:Bool)(iw ih al ac:aw)(w0 w1 h0' h1':Int)(K:LLA)(IN AC':Int)(vI vL vZ vS vC vT:LLA)(fl ft fr fb:Int)(zo:Int)(kids:List Int)(hK:K=vw ao kids)(I:List ah)(ZZ CC ST PS:List Int)(S1:List av)(hvZ:vZ=vw ao ZZ)(hvC:vC=vw ao CC)(hvT:vT=vw ao ST)(hvS:vS=vw av.c S1)(vP:LLA)(hvP:vP=vw ao PS)(hPl:PS.length≤1048576)(hTl:ST.length≤1048576)
  (hzl:ZZ.length=kids.length) (hsl:S1.length=kids.length) (hf:nL s0=⟨fl,ft,fr,fb⟩) (z0':0≤zo) (c:Int) (hcc:CC[zo.toNat]? =some c) (lb:Int) (l:List Int) (L:LLA) (hL:L=vw ao l) (hll:l.length≤1048576) (done:List aV) (hld:l=ixs done.length l.length) (hle:done.length+l.length≤kids.length)
  (E:LLA) (hE:E=vw aV.c (done++List.replicate (kids.length-done.length) ⟨0,0,0,0,0⟩))
  (hQ:∀(z:Int)(E:LLA)(D:List aV),D=done++qY ⟨s0,row,⟨w0,w1⟩,⟨h0',h1'⟩,iw,ih,al,ac,kids⟩ rtl IN AC' ZZ S1 (elZ ST zo) c lb PS 0 l→E=vw aV.c (D++List.replicate (kids.length-D.length) ⟨0,0,0,0,0⟩)→Q (.exit 8) [(252,.t (abl (false))),(4,.p 0),(6,.p 1),(7,.p 2),(8,.p 3),(9,.p 4),(11,.v vI),(12,.v vL),(13,.i (IN)),(14,.v vZ),(15,.v vS),(16,.v vC),(18,.i (AC')),(20,.v vT),(28,.p 5),(29,.o 6),(210,.v vL),(211,.i (g .ln vL)),(212,.i (zo)),(30,.i (zo)),(31,.v L),(35,.v vP),(36,.i (lb)),(249,.v L),(250,.i (g .ln L)),(251,.i (z))] [.bx 95 3 (mA V rtl),.bx 28 2 [.J w0,.J w1],.bx 28 2 [.J h0',.J h1'],.bx 64 4 [.J 0,.J 0,.J 0,.N],.bx 98 75 (plL n s0 ⟨w0,w1⟩ ⟨h0',h1'⟩ row iw ih al ac (.view K)),.bx 85 4 [.J fl,.J ft,.J fr,.J fb],.rw ⟨45,5,E⟩]):
  g .L (lO (aK f186) 4) Q [(4,.p 0),(6,.p 1),(7,.p 2),(8,.p 3),(9,.p 4),(11,.v vI),(12,.v vL),(13,.i (IN)),(14,.v vZ),(15,.v vS),(16,.v vC),(18,.i (AC')),(20,.v vT),(28,.p 5),(29,.o 6),(210,.v vL),(211,.i (g .ln vL)),(212,.i (zo)),(30,.i (zo)),(31,.v L),(35,.v vP),(36,.i (lb)),(249,.v L),(250,.i (g .ln L)),(251,.i (0))] [.bx 95 3 (mA V rtl),.bx 28 2 [.J w0,.J w1],.bx 28 2 [.J h0',.J h1'],.bx 64 4 [.J 0,.J 0,.J 0,.N],.bx 98 75 (plL n s0 ⟨w0,w1⟩ ⟨h0',h1'⟩ row iw ih al ac (.view K)),.bx 85 4 [.J fl,.J ft,.J fr,.J fb],.rw ⟨45,5,E⟩]:=by
 obtain⟨q,hq⟩:∃q:Pl,q=⟨s0,row,⟨w0,w1⟩,⟨h0',h1'⟩,iw,ih,al,ac,kids⟩:=⟨_,rfl⟩
 rw [←hq]at hQ
 obtain⟨D1,hD1⟩:=nmE (done++qY q rtl IN AC' ZZ S1 (elZ ST zo) c lb PS 0 l)
 have hDl:D1.length=done.length+l.length:=by rw [hD1,zqe,lK]
 have hQ:=fun z E=>hQ z E D1 hD1
 have h00:(done++qY q rtl IN AC' ZZ S1 (elZ ST zo) c lb PS 0 l,ixs 0 done.length++l)=(D1,ixs 0 D1.length):=Prod.ext hD1.symm (by show ixs 0 done.length++l=ixs 0 D1.length;rw [hDl,jx,Int.zero_add,←hld])
 have hCz:vC[zo.toNat]? =some [.J c]:=by rw [hvC];exact bh hcc
 have pE0:aj E=true:=by rw [hE];exact ag _ _
 have cEt:=cV ST hTl zo
 rw [←hvT]at cEt
 obtain⟨st,hst⟩:=nmE (elZ ST zo)
 rw [←hst]at cEt h00
 have hE':=fun z=>cV PS hPl z
 rw [←hvP]at hE'
 have cMB:=lh s0 rtl
 have cCB:=jY s0 rtl
 obtain⟨mb,hmb⟩:=nmE (kO s0 rtl);(try rw [←hmb]at cMB)
 obtain⟨cb,hcb⟩:=nmE (ll s0 rtl);(try rw [←hcb]at cCB)
 clear hld hcc hD1
 refine aY hg aD (by kernel_rfl) L (fun x=>lc (ao x)) l hL hll (fun z(s:Int×List aV×LLA)=>[(4,.p 0),(6,.p 1),(7,.p 2),(8,.p 3),(9,.p 4),(11,.v vI),(12,.v vL),(13,.i (IN)),(14,.v vZ),(15,.v vS),(16,.v vC),(18,.i (AC')),(20,.v vT),(28,.p 5),(29,.o 6),(210,.v vL),(211,.i (g .ln vL)),(212,.i (zo)),(30,.i (zo)),(31,.v L),(35,.v vP),(36,.i (lb)),(249,.v L),(250,.i (g .ln L)),(251,.i (z))]) (fun z(s:Int×List aV×LLA)=>[.bx 95 3 (mA V rtl),.bx 28 2 [.J w0,.J w1],.bx 28 2 [.J h0',.J h1'],.bx 64 4 [.J 0,.J 0,.J 0,.N],.bx 98 75 (plL n s0 ⟨w0,w1⟩ ⟨h0',h1'⟩ row iw ih al ac (.view K)),.bx 85 4 [.J fl,.J ft,.J fr,.J fb],.rw ⟨45,5,s.2.2⟩]) (fun z(s:Int×List aV×LLA)=>s.1=z∧s.2.2=vw aV.c (s.2.1++List.replicate (kids.length-s.2.1.length) ⟨0,0,0,0,0⟩)) (fun(s:Int×List aV×LLA) rest=>(s.2.1++qY q rtl IN AC' ZZ S1 st c lb PS s.1 rest,ixs 0 s.2.1.length++rest)) ((D1,ixs 0 D1.length)) (0,done,E) h00 ⟨rfl,hE⟩ (Wk.weak (wkG [some _,some _,some _,some _,some _,some _,some 6] ⟨rfl,rfl,rfl,rfl,rfl,rfl,rfl,rfl,rfl,rfl,rfl,rfl,rfl,rfl,rfl,rfl,rfl,rfl,rfl,rfl,rfl,rfl,rfl,rfl,rfl,trivial⟩ ⟨wqE rfl rfl,wqE rfl rfl,wqE rfl rfl,wqE rfl rfl,wqE rfl rfl,wqE rfl rfl,wqE rfl pE0,trivial⟩ (by decide) aI)) (fun z s B hz h0 hi he=> ?_) (fun z s x rest B z0 z1 z2 hx hy h0 hi hc e1 hB=> ?_)
 ·obtain⟨j,D,E1⟩:=s
  obtain⟨i1,i2⟩:=hi
  obtain⟨h01,h02⟩:=Prod.mk.inj h0
  dsimp only at i1 i2
  obtain rfl:D=D1:=by simpa [qY]using h01
  have hQ:=hQ z E1 i2
  cbv;rw [he];cbv
  exact hQ
 ·obtain⟨j,D,E1⟩:=s
  obtain⟨i1,i2⟩:=hi
  obtain⟨h01,h02⟩:=Prod.mk.inj h0
  dsimp only at i1 i2 h01 h02 hy
  subst i1
  have hDl2:D.length<D1.length:=by have:=congrArg List.length h01;simp [qY]at this;omega
  have hxD:x=(D.length:Int):=by
   have e:=congrArg (fun l=>l[D.length]?) h02
   simp only [zqg (show(ixs 0 D.length).length≤D.length by rw [bW];exact Nat.le_refl _),bW,Nat.sub_self,zqw]at e
   rw [vH _ _ _ hDl2]at e
   simpa using e
  have hx0:0≤x:=by omega
  have hxt:x.toNat=D.length:=by omega
  have hSl:D.length<S1.length:=by omega
  obtain⟨sd,hsd⟩:∃sd,S1[x.toNat]? =some sd:=⟨_,zqc (by omega)⟩
  obtain⟨kd,hkd⟩:∃kd,kids[x.toNat]? =some kd:=⟨_,zqc (by omega)⟩
  obtain⟨zz,hzz⟩:∃zz,ZZ[x.toNat]? =some zz:=⟨_,zqc (by omega)⟩
  have hKx:K[x.toNat]? =some [.J kd]:=by rw [hK];exact bh hkd
  have hZx:vZ[x.toNat]? =some [.J zz]:=by rw [hvZ];exact bh hzz
  have hSx:vS[x.toNat]? =some (lc (av.c sd)):=by rw [hvS];exact bh hsd
  have hrp:List.replicate (kids.length-D.length) (⟨0,0,0,0,0⟩:aV)=⟨0,0,0,0,0⟩::List.replicate (kids.length-(D.length+1)) ⟨0,0,0,0,0⟩:=by
   rw [show kids.length-D.length=(kids.length-(D.length+1))+1 by omega,List.replicate_succ]
  have hxE:x<bg E1:=by rw [i2,aN];simp;omega
  have hE1x:E1[x.toNat]? =some (lc (aV.c ⟨0,0,0,0,0⟩)):=by rw [i2];exact bh (by rw [zqg (by omega),hxt,Nat.sub_self,hrp];rfl)
  have hset:∀v,E1.set x.toNat (lc (aV.c v))=vw aV.c ((D++[v])++List.replicate (kids.length-(D++[v]).length) ⟨0,0,0,0,0⟩):=fun v=>by
   rw [i2,hxt,mi,List.set_append_right _ _ (Nat.le_refl _),Nat.sub_self,hrp,List.set_cons_zero,zqe,zqm,zqC];rfl
  have hE':=hE' j
  obtain⟨pj,hpj⟩:=nmE (elZ PS j);(try rw [←hpj]at hE');(try rw [←hpj]at h01)
  have e2:elZ kids x=kd:=by have:=nP hkd;rwa [Int.toNat_of_nonneg hx0]at this
  have e3:elZ ZZ x=zz:=by have:=nP hzz;rwa [Int.toNat_of_nonneg hx0]at this
  have cM1:=ld IN pj zz mb
  obtain⟨a1,ha1⟩:=nmE (CT IN pj zz mb);(try rw [←ha1]at cM1)
  have cP:=nF sd c lb
  obtain⟨pa,hpa⟩:=nmE (DN sd c lb);(try rw [←hpa]at cP)
  obtain⟨sp,hsp⟩:=nmE (wrap64 (st+pa))
  have cM2:=ld AC' sp sd.size cb
  obtain⟨b1,hb1⟩:=nmE (CT AC' sp sd.size cb);(try rw [←hb1]at cM2)
  obtain⟨X1,hX1⟩:=nmE (wrap64 (b1+fl))
  obtain⟨X2,hX2⟩:=nmE (wrap64 (a1+ft))
  obtain⟨X3,hX3⟩:=nmE (wrap64 (a1+fl))
  obtain⟨X4,hX4⟩:=nmE (wrap64 (b1+ft))
  have hfm:D3 q rtl IN AC' ZZ S1 st c lb pj x=if row then⟨kd,X3,X4,zz,sd.size⟩else⟨kd,X1,X2,sd.size,zz⟩:=by
   rw [hX1,hX2,hX3,hX4,hb1,hsp,hpa,ha1,hmb,hcb,hq]
   unfold D3
   dsimp only
   rw [vk hx0 hsd,e2,e3,hf]
  obtain⟨fm,hfm2⟩:=nmE (D3 q rtl IN AC' ZZ S1 st c lb pj x)
  rw [←hfm2]at hfm
  have h3:((D++[fm])++qY q rtl IN AC' ZZ S1 st c lb PS (j+1) rest,ixs 0 (D++[fm]).length++rest)=(D1,ixs 0 D1.length):=Prod.ext (by rw [←h01,hfm2,hpj];simp [qY]) (by
   show ixs 0 (D++[fm]).length++rest=ixs 0 D1.length
   rw [←h02,zqe,zqm,nz,Int.zero_add,←hxD];simp)
  obtain⟨E2,hE2⟩:=nmE (E1.set x.toNat (lc (aV.c fm)))
  have hset:=hset fm
  rw [←hE2]at hset
  have pE2:aj E2=true:=by rw [hset];exact ag _ _
  have t1:g .w .add .i64 st pa=sp:=by rw [aM hg,hsp]
  have t2:g .w .add .i64 b1 fl=X1:=by rw [aM hg,hX1]
  have t3:g .w .add .i64 a1 ft=X2:=by rw [aM hg,hX2]
  have t4:g .w .add .i64 a1 fl=X3:=by rw [aM hg,hX3]
  have t5:g .w .add .i64 b1 ft=X4:=by rw [aM hg,hX4]
  obtain⟨y0,y1,y2,y3,y4,y5,y6⟩:=sd
  dsimp only at hfm cM2
  clear hxD hDl2 hxt hSl h02 hfm2 hX1 hX2 hX3 hX4 hb1 hsp hpa ha1 hmb hcb hq hf e2 e3 hsd hkd hzz hrp i2 hvZ hvC hvT hvS hvP hK hpj hst h00
  have hSx2:vS[x.toNat]? =some [.J y0,.J y1,.J y2,.B y3,.B y4,.J y5,.J y6]:=hSx
  have hcell:∃e,E1[x.toNat]? =some e∧e.length=5:=⟨_,hE1x,rfl⟩
  clear hE1x
  cases row
  all_goals
   (try simp only [Bool.false_eq_true,if_false]at hfm)
   (try simp only [if_true]at hfm)
   subst hfm
   cbv
   rw [hc]
   cbv
   refine goX hg _ z0 hy rfl ?_
   cbv
   ((repeat'((first|rw [t1]|rw [t2]|rw [t3]|rw [t4]|rw [t5]|refine fH hg hE' rfl rfl ?_|refine dI hg hE' rfl rfl ?_|refine ad hg cMB ?_|refine aa hg cMB ?_|refine ad hg cCB ?_|refine aa hg cCB ?_|refine ad hg cM1 ?_|refine aa hg cM1 ?_|refine ad hg cM2 ?_|refine aa hg cM2 ?_|refine ad hg cP ?_|refine aa hg cP ?_|refine ad hg cEt ?_|refine aa hg cEt ?_|refine goX hg _ hx0 hZx rfl ?_|refine goX hg _ hx0 hKx rfl ?_|refine goX hg _ hx0 hSx2 rfl ?_|refine goX hg _ z0' hCz rfl ?_);cbv)))
   refine goY hg hx0 hxE fun j2 hj2 hjl2=> ?_
   cbv
   obtain⟨e,he,hel⟩:=hcell
   refine goN hg ⟨_,by rw [hj2];exact he,hel⟩ ?_
   cbv
   rw [mH hg,hj2,e1]
   dsimp only [AT.cells]
   first
    |rw [show E1.set x.toNat [.imm (.int .i64 kd),.imm (.int .i64 X3),.imm (.int .i64 X4),.imm (.int .i64 zz),.imm (.int .i64 y0)]=E2 from hE2.symm]
    |rw [show E1.set x.toNat [.imm (.int .i64 kd),.imm (.int .i64 X1),.imm (.int .i64 X2),.imm (.int .i64 y0),.imm (.int .i64 zz)]=E2 from hE2.symm]
   exact hB ((j+1,_,E2)) _ _ ⟨h3,⟨rfl,hset⟩⟩ (Wk.weak (wkG [some _,some _,some _,some _,some _,some _,some 6] ⟨rfl,rfl,rfl,rfl,rfl,rfl,rfl,rfl,rfl,rfl,rfl,rfl,rfl,rfl,rfl,rfl,rfl,rfl,rfl,rfl,rfl,rfl,rfl,rfl,rfl,trivial⟩ ⟨wqE rfl rfl,wqE rfl rfl,wqE rfl rfl,wqE rfl rfl,wqE rfl rfl,wqE rfl rfl,wqE rfl pE2,trivial⟩ (by decide) aI))
end Go.Proofs.YtdnnffbbhijmkaaGreat
