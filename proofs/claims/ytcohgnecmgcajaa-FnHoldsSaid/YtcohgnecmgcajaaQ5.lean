/- The reference's passes over a line that flexes, as maps of data. -/
import Derived.Test.YtcohgnecmgcajaaQ4
namespace Go.Proofs.Ytcohgnecmgcajaa
open Go.ChangeShapes Go.WideShapes Go.ChangeAt Go.RowKit Am
set_option linter.unusedVariables false
set_option linter.unusedSimpArgs false
set_option maxRecDepth 100000

/-- Cells read as data, one by one. -/
def ResL (h : AH) : List AC → List AC → Prop
  | [], [] => True
  | c :: cs, d :: ds => ResC h c d ∧ ResL h cs ds
  | _, _ => False
theorem ResL.at_ {h : AH} : ∀ (cs ds : List AC), ResL h cs ds → cs.length = ds.length ∧ ∀ (j : Nat) (c d : AC), cs[j]? = some c → ds[j]? = some d → ResC h c d
  | [], [], _ => ⟨rfl, fun j c d hc => by simp at hc⟩
  | c :: cs, d :: ds, hr => by
    obtain ⟨h1, h2⟩ := ResL.at_ cs ds hr.2
    refine ⟨by simp [h1], fun j x y hx hy => ?_⟩
    cases j with
    | zero => simp only [List.getElem?_cons_zero, Option.some.injEq] at hx hy; subst hx hy; exact hr.1
    | succ j => exact h2 j x y (by simpa using hx) (by simpa using hy)
  | [], _ :: _, hr => hr.elim
  | _ :: _, [], hr => hr.elim
/-- A pointer to an own box, read as data. -/
theorem resPtr {h : AH} {r off : Nat} {t k : Nat} {cs ds : List AC} (hr : h[r]? = some (.live ⟨t, k, [cs]⟩)) (hl : ResL h cs ds) : ResT h (.ptr r 0 off) (.eptr ds off) :=
  .ptr r 0 off ⟨t, k, [cs]⟩ cs ds hr rfl (ResL.at_ cs ds hl).1 (ResL.at_ cs ds hl).2
structure S4 where
  i : Int
  p : List Int
  w : List Int
  a : Int
def S4.go (gr : Bool) : S4 → List (GItem × Bool) → S4
  | s, [] => s
  | s, (x, f) :: r => S4.go gr (if f then ⟨s.i + 1, s.p, s.w, s.a⟩ else ⟨s.i + 1, s.p ++ [s.i], s.w ++ [wgt gr x], wrap64 (s.a + wgt gr x)⟩) r
theorem S4.go_eq (X : Fx) : ∀ (xs : List GItem) (fr : List Bool) (n : Nat) (p w : List Int) (a : Int), fr.length = xs.length → (∀ j : Nat, j < xs.length → itA X.xs ((n : Int) + (j : Int)) = xs[j]?.getD ⟨0, 0, 0, 0, 0, 0, 0, false, false⟩) →
    S4.go X.gr ⟨n, p, w, a⟩ (xs.zip fr) = ⟨(n : Int) + xs.length, p ++ fre n fr, w ++ (fre n fr).map fun i => wgt X.gr (itA X.xs i), wsum a ((fre n fr).map fun i => wgt X.gr (itA X.xs i))⟩
  | [], [], n, p, w, a, _, _ => by simp [S4.go, fre, wsum]
  | [], _ :: _, _, _, _, _, h, _ => by simp at h
  | _ :: _, [], _, _, _, _, h, _ => by simp at h
  | x :: xs, b :: fr, n, p, w, a, h1, h3 => by
    have hx : itA X.xs (n : Int) = x := by have := h3 0 (by simp); simpa using this
    have h4 : ∀ j : Nat, j < xs.length → itA X.xs (((n + 1 : Nat) : Int) + (j : Int)) = xs[j]?.getD ⟨0, 0, 0, 0, 0, 0, 0, false, false⟩ := fun j hj => by
      have := h3 (j + 1) (by simp; omega)
      simp only [List.getElem?_cons_succ] at this
      rw [← this]
      congr 1
      omega
    have ih := fun p w a => S4.go_eq X xs fr (n + 1) p w a (by simpa using h1) h4
    have en : ((n + 1 : Nat) : Int) = (n : Int) + 1 := by omega
    rw [List.zip_cons_cons]
    cases b with
    | true =>
      simp only [S4.go, if_true, fre]
      have := ih p w a
      rw [en] at this
      rw [this, List.length_cons]
      congr 1
      omega
    | false =>
      simp only [S4.go, Bool.false_eq_true, if_false, fre]
      have := ih (p ++ [(n : Int)]) (w ++ [wgt X.gr x]) (wrap64 (a + wgt X.gr x))
      rw [en] at this
      rw [this, List.length_cons, List.map_cons, wsum, hx, List.append_assoc, List.append_assoc]
      congr 1
      omega
theorem S4.all_ (X : Fx) {fr : List Bool} (hf : fr.length = X.xs.length) : S4.go X.gr ⟨0, [], [], 0⟩ (X.xs.zip fr) = ⟨X.xs.length, fre 0 fr, X.ws fr, X.all fr⟩ := by
  have := S4.go_eq X X.xs fr 0 [] [] 0 hf (fun j hj => by simp [itA])
  simpa [Fx.all, Fx.ws] using this
theorem spec_l13Weight_a (xs : List GItem) (gr : Bool) (i : Int) (h0 : 0 ≤ i) (h1 : i < xs.length) (c1 c2 c4 c5 c6 : AC) : PCon Try.prog 31 [.c (.eptr [.view (vw GItem.c xs), c1, c2, .imm (.bool gr), c4, c5, c6] 0), ai i] fun res rows => res = .t (ai (wgt gr (itA xs i))) ∧ rows = [] := by
  obtain ⟨y, hyd⟩ : ∃ y, y = itA xs i := ⟨_, rfl⟩
  obtain ⟨V, hV⟩ : ∃ V, V = vw GItem.c xs := ⟨_, rfl⟩
  have hVy : V[i.toNat]? = some (lc (GItem.c y)) := by rw [hV, hyd]; exact vw_at (itA_at h0 h1)
  rw [← hV, ← hyd]
  obtain ⟨y0, y1, y2, y3, y4, y5, y6, y7, y8⟩ := y
  cases gr
  · refine pcon_run (c := body Try.f31) fits Try.func31 (by kernel_rfl) (by kernel_rfl) (by rfl) (by kernel_rfl) fun g F hg hF => ?_
    cbv
    refine goX hg _ h0 hVy rfl ?_
    cbv
    refine goX hg _ h0 hVy rfl ?_
    cbv
    exact fin0i hF (by rw [goMul hg]; rfl)
  · refine pcon_run (c := body Try.f31) fits Try.func31 (by kernel_rfl) (by kernel_rfl) (by rfl) (by kernel_rfl) fun g F hg hF => ?_
    cbv
    refine goX hg _ h0 hVy rfl ?_
    cbv
    exact fin0i hF rfl
theorem spec_l13Free_a (xs : List GItem) (sz : List Int) (gap inner : Int) (gr : Bool) (hx : xs.length ≤ 1048576) (hs : sz.length ≤ 1048576) (c4 c6 : AC) : PCon Try.prog 76 [.c (.eptr [.view (vw GItem.c xs), .imm (.int .i64 gap), .imm (.int .i64 inner), .imm (.bool gr), c4, .view (vw intC sz), c6] 0)] fun res rows => res = .t (ai (rstN xs sz gap inner gr)) ∧ rows = [] := by
  have co := spec_OuterOf_a xs sz gap hx hs
  obtain ⟨V, hV⟩ : ∃ V, V = vw GItem.c xs := ⟨_, rfl⟩
  obtain ⟨Z, hZ⟩ : ∃ V, V = vw intC sz := ⟨_, rfl⟩
  obtain ⟨r, hr⟩ : ∃ r, r = rstN xs sz gap inner gr := ⟨_, rfl⟩
  rw [← hV, ← hZ] at co ⊢
  rw [← hr]
  rw [rstN] at hr
  cases gr
  · refine pcon_run (c := body Try.f76) fits Try.func76 (by kernel_rfl) (by kernel_rfl) (by rfl) (by kernel_rfl) fun g F hg hF => ?_
    cbv
    (first | refine callI hg (co) rfl (fun OV hOV => ?_) | refine callIP hg (co) rfl (fun OV hOV => ?_)); cbv
    obtain ⟨n, hn⟩ : ∃ n, n = g .w .sub .i64 inner OV := ⟨_, rfl⟩
    rw [← hn]
    rw [goSub hg, hOV] at hn
    cases hq : g .q .gtr n 0 <;> cbv
    all_goals rw [goGtr hg] at hq
    · (first | refine callI hg (spec_l02Len_a _) rfl (fun Q hQ => ?_) | refine callIP hg (spec_l02Len_a _) rfl (fun Q hQ => ?_)); cbv
      exact fin0i hF (by rw [hQ, hr, ← hn, if_neg (by simpa using hq)])
    · exact fin0i hF (by rw [hr, ← hn, if_pos (by simpa using hq)])
  · refine pcon_run (c := body Try.f76) fits Try.func76 (by kernel_rfl) (by kernel_rfl) (by rfl) (by kernel_rfl) fun g F hg hF => ?_
    cbv
    (first | refine callI hg (co) rfl (fun OV hOV => ?_) | refine callIP hg (co) rfl (fun OV hOV => ?_)); cbv
    obtain ⟨n, hn⟩ : ∃ n, n = g .w .sub .i64 inner OV := ⟨_, rfl⟩
    rw [← hn]
    rw [goSub hg, hOV] at hn
    cases hq : g .q .lss n 0 <;> cbv
    all_goals rw [goLss hg] at hq
    · (first | refine callI hg (spec_l02Len_a _) rfl (fun Q hQ => ?_) | refine callIP hg (spec_l02Len_a _) rfl (fun Q hQ => ?_)); cbv
      exact fin0i hF (by rw [hQ, hr, ← hn, if_neg (by simpa using hq)])
    · exact fin0i hF (by rw [hr, ← hn, if_pos (by simpa using hq)])

/-- The reference's second loop: how much over each is. -/
structure S5 where
  d : List Int
  s : Int
  b : Bool
def S5.go (X : Fx) (A r : Int) : S5 → List (Int × Int) → S5
  | s, [] => s
  | s, (i, _) :: is => S5.go X A r ⟨s.d ++ [ovr X.gr A r (itA X.xs i)], wrap64 (s.s + ovr X.gr A r (itA X.xs i)), s.b || (ovr X.gr A r (itA X.xs i) != 0)⟩ is
theorem S5.go_eq (X : Fx) (A r : Int) : ∀ (is : List Int) (ws : List Int) (s : S5), ws.length = is.length → S5.go X A r s (is.zip ws) = ⟨s.d ++ is.map (fun i => ovr X.gr A r (itA X.xs i)), wsum s.s (is.map fun i => ovr X.gr A r (itA X.xs i)), s.b || (is.map fun i => ovr X.gr A r (itA X.xs i)).any fun o => o != 0⟩
  | [], _, s, _ => by simp [S5.go, wsum]
  | i :: is, w :: ws, s, h => by
    rw [List.zip_cons_cons, S5.go, S5.go_eq X A r is ws _ (by simpa using h)]
    simp only [List.map_cons, wsum, List.any_cons, List.append_assoc, List.singleton_append, Bool.or_assoc]
  | _ :: _, [], _, h => by simp at h
theorem rep_set (d : List Int) (m k : Nat) (v : Int) (hk : k = d.length) : (d ++ List.replicate (m + 1) 0).set k v = (d ++ [v]) ++ List.replicate m 0 := by
  subst hk
  simp [List.replicate_succ]
/-- What the third loop sets. -/
def set1 (X : Fx) (so : Bool) (sum : Int) (p : Int × Int × Int) : Option (Int × Int) :=
  if so = false then some (p.1, cl (wrap64 ((itA X.xs p.1).base + p.2.2)))
  else if 0 < p.2.1 ∧ 0 ≤ sum then some (p.1, (itA X.xs p.1).least)
  else if p.2.1 < 0 ∧ sum ≤ 0 then some (p.1, uppS (itA X.xs p.1)) else none
theorem Fx.setS_eq (X : Fx) (fr : List Bool) (rest : Int) : X.setS fr rest = ((fre 0 fr).zip ((X.ovs fr rest).zip (shr rest (X.ws fr)))).filterMap (set1 X ((X.ovs fr rest).any fun o => o != 0) (wsum 0 (X.ovs fr rest))) := rfl
set_option maxHeartbeats 3200000 in
theorem spec_l13Pass_a (X : Fx) (hX : itsOk X.xs = true) (sz : List Int) (fr : List Bool) (hs : sz.length = X.xs.length) (hf : fr.length = X.xs.length) (p : Int) :
    Con Try.prog 62 (toH [.bx 51 7 (X.bx p), .rw ⟨4, 1, vw bolC fr⟩, .rw ⟨3, 1, vw intC sz⟩]) [.c (.ptr 0 0 0)] fun res h' => ∃ eh, toH eh = h' ∧ ∃ p' sz' fr',
      res = .t (abl (decide (fre 0 fr ≠ []))) ∧ eh = [.bx 51 7 (X.bx p'), .rw ⟨4, 1, vw bolC fr'⟩, .rw ⟨3, 1, vw intC sz'⟩] ∧
      sz' = (if fre 0 fr = [] then sz else setz (X.setS fr (rstN X.xs sz X.gap X.inner X.gr)) sz) ∧ fr' = (if fre 0 fr = [] then fr else setb ((X.setS fr (rstN X.xs sz X.gap X.inner X.gr)).map (·.1)) fr) := by
  have hall := S4.all_ X hf
  obtain ⟨hxo, hxl⟩ := itsOk_mem hX
  obtain ⟨zs, hzs⟩ : ∃ zs, zs = X.xs.zip fr := ⟨_, rfl⟩
  have hV : vw GItem.c X.xs = zs.map fun t => lc (GItem.c t.1) := by
    rw [hzs, vw]
    conv => lhs; rw [← List.map_fst_zip (l₁ := X.xs) (l₂ := fr) (by omega)]
    rw [List.map_map]; rfl
  have hzl : zs.length ≤ 1048576 := by rw [hzs, List.length_zip]; omega
  rw [← hzs] at hall
  obtain ⟨rt, hrt⟩ : ∃ rt, rt = rstN X.xs sz X.gap X.inner X.gr := ⟨_, rfl⟩
  have cw := fun (i : Int) (h0 : 0 ≤ i) (h1 : i < X.xs.length) (c1 c2 c4 c5 c6 : AC) => spec_l13Weight_a X.xs X.gr i h0 h1 c1 c2 c4 c5 c6
  have cfr := fun (c4 c6 : AC) => spec_l13Free_a X.xs sz X.gap X.inner X.gr (by omega) (by omega) c4 c6
  obtain ⟨V, hV0⟩ : ∃ V, V = vw GItem.c X.xs := ⟨_, rfl⟩
  obtain ⟨Z, hZ⟩ : ∃ Z, Z = vw intC sz := ⟨_, rfl⟩
  have hZl : Z.length = sz.length := by rw [hZ, vw_length]
  have iZ : immE Z = true := by rw [hZ]; exact vw_imm _ _
  have kZ : ∀ y ∈ Z, y.length = 1 := by rw [hZ]; exact vw_k (c := intC) (k := 1) fun _ => rfl
  have dZ : ∀ y ∈ Z, y.all dat = true := by rw [hZ]; exact vw_dat
  obtain ⟨R, hR⟩ : ∃ R, R = vw bolC fr := ⟨_, rfl⟩
  obtain ⟨FR, hFR⟩ : ∃ FR, FR = fre 0 fr := ⟨_, rfl⟩
  obtain ⟨WS, hWS⟩ : ∃ WS, WS = X.ws fr := ⟨_, rfl⟩
  obtain ⟨AL, hAL⟩ : ∃ AL, AL = X.all fr := ⟨_, rfl⟩
  obtain ⟨GR, hGR⟩ : ∃ b, b = X.gr := ⟨_, rfl⟩
  have pZ : plainE Z = true := by rw [hZ]; exact vw_plain _ _
  have pR : plainE R = true := by rw [hR]; exact vw_plain _ _
  have kR : ∀ y ∈ R, y.length = 1 := by rw [hR]; exact vw_k (c := bolC) (k := 1) fun _ => rfl
  have dR : ∀ y ∈ R, y.all dat = true := by rw [hR]; exact vw_dat
  have hRl : lenI R = (X.xs.length : Int) := by rw [hR, vw_lenI, hf]
  simp only [← hrt] at cfr ⊢
  simp only [Fx.bx, ← hV0, ← hZ, ← hR, ← hGR] at cw cfr ⊢
  rw [← hV0] at hV
  rw [← hFR, ← hWS, ← hAL] at hall
  rw [← hFR]
  have hVl : lenI V = (X.xs.length : Int) := by rw [hV0, vw_lenI]
  obtain ⟨R1, hR1⟩ : ∃ R1, R1 = S4.mk (X.xs.length : Int) FR WS AL := ⟨_, rfl⟩
  rw [← hR1] at hall
  refine con_run (c := body Try.f62) fits Try.func62 (by kernel_rfl) (by kernel_rfl) (bl (by rfl)) (by kernel_rfl) fun g F hg hF => ?_
  replace hg : g = G0 Try.prog 3 Try.f62.ntmps := hg
  replace hF : F = FinP 3 _ := hF
  cbv
  refine loop_go hg fits (by kernel_rfl) V (fun t => lc (GItem.c t.1)) zs hV hzl (fun z (s : S4 × List (List AC) × List (List AC)) => [(0, .t (.c (.ptr 0 0 0))), (3, .t (.c (.own 3))), (4, .t (.c (.own 4))), (5, .t (ai (s.1.a))), (6, .t (ai (z)))]) (fun z (s : S4 × List (List AC) × List (List AC)) => [.bx 51 7 [.view V, .imm (.int .i64 X.gap), .imm (.int .i64 X.inner), .imm (.bool GR), .own 1, .own 2, .imm (.int .i64 p)], .rw ⟨4, 1, R⟩, .rw ⟨3, 1, Z⟩, .rw ⟨3, 1, s.2.1⟩, .rw ⟨3, 1, s.2.2⟩]) (fun z (s : S4 × List (List AC) × List (List AC)) => s.2.1 = vw intC s.1.w ∧ s.2.2 = vw intC s.1.p ∧ s.1.i = z ∧ (s.1.w.length : Int) ≤ z ∧ (s.1.p.length : Int) ≤ z) (fun (s : S4 × List (List AC) × List (List AC)) rest => S4.go X.gr s.1 rest) (R1) (⟨0, [], [], 0⟩, [], []) hall ⟨rfl, rfl, rfl, by simp, by simp⟩ (Wk.weak (wkG [some 0, some 1, some 2, some 3, some 4] ⟨rfl, rfl, rfl, rfl, rfl, trivial⟩ ⟨⟨_, _, rfl, rfl, rfl, rfl, .inr ⟨⟨rfl, rfl, rfl, rfl, rfl, rfl, rfl, trivial⟩, trivial⟩⟩, ⟨_, _, rfl, rfl, rfl, rfl, .inl ⟨rfl, pR⟩⟩, ⟨_, _, rfl, rfl, rfl, rfl, .inl ⟨rfl, pZ⟩⟩, ⟨_, _, rfl, rfl, rfl, rfl, .inl ⟨rfl, rfl⟩⟩, ⟨_, _, rfl, rfl, rfl, rfl, .inl ⟨rfl, rfl⟩⟩, trivial⟩ (by decide) (by decide))) (fun z s B hz h0 hi he => ?_) (fun z s x rest B z0 z1 z2 hx hy h0 hi hc e1 hB => ?_)
  rotate_left
  · obtain ⟨⟨i, pl, w, a⟩, eW, eP⟩ := s
    obtain ⟨b1, b2, b3, b4, b5⟩ := hi
    dsimp only at b1 b2 b3 b4 b5 h0
    subst b3
    obtain ⟨x, b⟩ := x
    have q12 := hx
    rw [hzs, List.getElem?_zip_eq_some] at q12
    obtain ⟨q1, q2⟩ := q12
    have hVx : lenI V = (X.xs.length : Int) := hVl
    have lW : eW.length ≤ 1048576 := by rw [b1, vw_length]; omega
    have lP : eP.length ≤ 1048576 := by rw [b2, vw_length]; omega
    have pW : plainE eW = true := by rw [b1]; exact vw_plain _ _
    have pP : plainE eP = true := by rw [b2]; exact vw_plain _ _
    have cw1 := fun c1 c2 c4 c5 c6 => cw i z0 (hVl ▸ z1) c1 c2 c4 c5 c6
    have hix : itA X.xs i = x := by unfold itA; rw [q1]; rfl
    obtain ⟨w0, hw0⟩ : ∃ w0, w0 = wgt GR (itA X.xs i) := ⟨_, rfl⟩
    simp only [← hw0] at cw1
    rw [hix, hGR] at hw0
    have aP : eP ++ [[.imm (.int .i64 i)]] = vw intC (pl ++ [i]) := by rw [vw_snoc, b2]; rfl
    have aW : eW ++ [[.imm (.int .i64 w0)]] = vw intC (w ++ [w0]) := by rw [vw_snoc, b1]; rfl
    have hiR : i < lenI R := by rw [hRl, ← hVl]; exact z1
    cbv
    rw [hc]
    cbv
    refine goY hg z0 hiR fun j hj hjl => ?_
    cbv
    refine ⟨_, by rw [hj, hR]; exact vw_at q2, ?_⟩
    cases b <;> cbv
    · refine goNA1 hg rfl (by decide) lP ?_
      cbv
      refine callR hg (cw1 _ _ (.view R) (.view Z) _) (resA_t (resPtr rfl ⟨resDat rfl, resDat rfl, resDat rfl, resDat rfl, resRow (ab := ⟨_, _, R⟩) rfl kR dR, resRow (ab := ⟨_, _, Z⟩) rfl kZ dZ, resDat rfl, trivial⟩) (resA_c (resDat rfl) resA_nil)) rfl ?_
      cbv
      refine goNA1 hg rfl (by decide) lW ?_
      cbv
      refine callR hg (cw1 _ _ (.view R) (.view Z) _) (resA_t (resPtr rfl ⟨resDat rfl, resDat rfl, resDat rfl, resDat rfl, resRow (ab := ⟨_, _, R⟩) rfl kR dR, resRow (ab := ⟨_, _, Z⟩) rfl kZ dZ, resDat rfl, trivial⟩) (resA_c (resDat rfl) resA_nil)) rfl ?_
      cbv
      rw [e1]
      simp only [goAp hg, goAdd hg]
      exact hB ((⟨i + 1, pl ++ [i], w ++ [w0], wrap64 (a + w0)⟩, _, _)) _ _ ⟨(by simpa [S4.go, hw0, hGR] using h0), ⟨aW, aP, rfl, by simp; omega, by simp; omega⟩⟩ (Wk.weak (wkG [some 0, some 1, some 2, some _, some _] ⟨rfl, rfl, rfl, rfl, rfl, trivial⟩ ⟨⟨_, _, rfl, rfl, rfl, rfl, .inr ⟨⟨rfl, rfl, rfl, rfl, rfl, rfl, rfl, trivial⟩, trivial⟩⟩, ⟨_, _, rfl, rfl, rfl, rfl, .inl ⟨rfl, pR⟩⟩, ⟨_, _, rfl, rfl, rfl, rfl, .inl ⟨rfl, pZ⟩⟩, ⟨_, _, rfl, rfl, rfl, rfl, .inl ⟨rfl, aW.symm ▸ vw_plain _ _⟩⟩, ⟨_, _, rfl, rfl, rfl, rfl, .inl ⟨rfl, aP.symm ▸ vw_plain _ _⟩⟩, trivial⟩ (by decide) (by decide)))
    · rw [e1]
      exact hB ((⟨i + 1, pl, w, a⟩, eW, eP)) _ _ ⟨(by simpa [S4.go] using h0), ⟨b1, b2, rfl, by dsimp only; omega, by dsimp only; omega⟩⟩ (Wk.weak (wkG [some 0, some 1, some 2, some 3, some 4] ⟨rfl, rfl, rfl, rfl, rfl, trivial⟩ ⟨⟨_, _, rfl, rfl, rfl, rfl, .inr ⟨⟨rfl, rfl, rfl, rfl, rfl, rfl, rfl, trivial⟩, trivial⟩⟩, ⟨_, _, rfl, rfl, rfl, rfl, .inl ⟨rfl, pR⟩⟩, ⟨_, _, rfl, rfl, rfl, rfl, .inl ⟨rfl, pZ⟩⟩, ⟨_, _, rfl, rfl, rfl, rfl, .inl ⟨rfl, pW⟩⟩, ⟨_, _, rfl, rfl, rfl, rfl, .inl ⟨rfl, pP⟩⟩, trivial⟩ (by decide) (by decide)))
  obtain ⟨⟨i, pl, w, a⟩, eW, eP⟩ := s
  obtain ⟨b1, b2, b3, b4, b5⟩ := hi
  dsimp only at b1 b2 h0
  rw [hR1] at h0
  simp only [S4.go, S4.mk.injEq] at h0
  obtain ⟨-, h2, h3, h4⟩ := h0
  obtain rfl : FR = pl := h2.symm
  obtain rfl : WS = w := h3.symm
  obtain rfl : AL = a := h4.symm
  have pW : plainE eW = true := by rw [b1]; exact vw_plain _ _
  have pP : plainE eP = true := by rw [b2]; exact vw_plain _ _
  have keP : ∀ y ∈ eP, y.length = 1 := by rw [b2]; exact vw_k (c := intC) (k := 1) fun _ => rfl
  have deP : ∀ y ∈ eP, y.all dat = true := by rw [b2]; exact vw_dat
  have keW : ∀ y ∈ eW, y.length = 1 := by rw [b1]; exact vw_k (c := intC) (k := 1) fun _ => rfl
  have deW : ∀ y ∈ eW, y.all dat = true := by rw [b1]; exact vw_dat
  have hFl : FR.length ≤ 12 := by have := fre_len fr 0; rw [← hFR, hf] at this; omega
  have hWl : WS.length = FR.length := by rw [hWS, hFR, Fx.ws, List.length_map]
  cbv; rw [he]; cbv
  by_cases hn : FR = []
  · have e : g .q .eql (g .ln eP) 0 = true := by rw [goEql hg, goLn hg, b2, hn]; rfl
    rw [e]
    cbv
    exact finH3 hF rfl rfl rfl ⟨rfl, rfl, rfl, rfl, rfl, rfl, rfl, trivial⟩ pR pZ rfl ⟨_, rfl, p, sz, fr, by simp [hn], by rw [hZ, hR], by simp [hn], by simp [hn]⟩
  have e : g .q .eql (g .ln eP) 0 = false := by
    rw [goEql hg, goLn hg, b2, vw_lenI]
    have : FR.length ≠ 0 := fun h => hn (List.eq_nil_of_length_eq_zero h)
    simp; omega
  rw [e]
  cbv
  obtain ⟨p1, hp1⟩ : ∃ p1, p1 = g .w .add .i64 p 1 := ⟨_, rfl⟩
  rw [← hp1]
  refine callR hg (cfr (.view R) _) (resA_t (resPtr rfl ⟨resDat rfl, resDat rfl, resDat rfl, resDat rfl, resRow (ab := ⟨_, _, R⟩) rfl kR dR, resRow (ab := ⟨_, _, Z⟩) rfl kZ dZ, resDat rfl, trivial⟩) resA_nil) rfl ?_
  cbv
  refine goMk hg (by decide) (by rw [b2, vw_length]; omega) ?_
  cbv
  generalize hO : g .rp (g .ln eP) _ = O0
  replace hO : O0 = vw intC (List.replicate FR.length 0) := by
    rw [← hO, goRp hg, goLn hg, b2, vw_lenI, vw_rep]
    rfl
  have pO : plainE O0 = true := by rw [hO]; exact vw_plain _ _
  obtain ⟨qs, hqs⟩ : ∃ qs, qs = FR.zip WS := ⟨_, rfl⟩
  have heP : eP = qs.map fun t => lc (intC t.1) := by
    rw [b2, hqs, vw]
    conv => lhs; rw [← List.map_fst_zip (l₁ := FR) (l₂ := WS) (by omega)]
    rw [List.map_map]; rfl
  have hql : qs.length ≤ 1048576 := by rw [hqs, List.length_zip]; omega
  obtain ⟨OVS, hOVS⟩ : ∃ O, O = X.ovs fr rt := ⟨_, rfl⟩
  obtain ⟨SM, hSM⟩ : ∃ O, O = wsum 0 OVS := ⟨_, rfl⟩
  obtain ⟨SB, hSB⟩ : ∃ O, O = OVS.any fun o => o != 0 := ⟨_, rfl⟩
  obtain ⟨R2, hR2⟩ : ∃ R2, R2 = S5.mk OVS SM SB := ⟨_, rfl⟩
  have h20 : S5.go X AL rt ⟨[], 0, false⟩ qs = R2 := by
    rw [hqs, S5.go_eq X AL rt FR WS _ hWl, hR2, hSM, hSB, hOVS, Fx.ovs, ← hFR, ← hAL]
    simp
  have hOl : OVS.length = FR.length := by rw [hOVS, Fx.ovs, ← hFR, List.length_map]
  refine loop_go hg fits (by kernel_rfl) eP (fun t => lc (intC t.1)) qs heP hql (fun z (s : S5 × List (List AC)) => [(0, .t (.c (.ptr 0 0 0))), (3, .t (.c (.own 3))), (4, .t (.c (.view eP))), (5, .t (ai (AL))), (7, .t (ai (rt))), (8, .t (.c (.own 4))), (9, .t (ai (s.1.s))), (10, .t (abl (s.1.b))), (11, .t (ai (z)))]) (fun z (s : S5 × List (List AC)) => [.bx 51 7 [.view V, .imm (.int .i64 X.gap), .imm (.int .i64 X.inner), .imm (.bool GR), .own 1, .own 2, .imm (.int .i64 p1)], .rw ⟨4, 1, R⟩, .rw ⟨3, 1, Z⟩, .rw ⟨3, 1, eW⟩, .rw ⟨3, 1, s.2⟩]) (fun z (s : S5 × List (List AC)) => s.2 = vw intC (s.1.d ++ List.replicate (FR.length - s.1.d.length) 0) ∧ (s.1.d.length : Int) = z) (fun (s : S5 × List (List AC)) rest => S5.go X AL rt s.1 rest) (R2) (⟨[], 0, false⟩, O0) h20 ⟨by simpa using hO, rfl⟩ (weak_seal (sl1 4 eP) (seal1 rfl keP deP) (Wk.weak (wkG [some 0, some 1, some 2, some 3, some 5] ⟨rfl, rfl, rfl, rfl, rfl, rfl, rfl, rfl, rfl, trivial⟩ ⟨⟨_, _, rfl, rfl, rfl, rfl, .inr ⟨⟨rfl, rfl, rfl, rfl, rfl, rfl, rfl, trivial⟩, trivial⟩⟩, ⟨_, _, rfl, rfl, rfl, rfl, .inl (seal_row pR)⟩, ⟨_, _, rfl, rfl, rfl, rfl, .inl (seal_row pZ)⟩, ⟨_, _, rfl, rfl, rfl, rfl, .inl (seal_row pW)⟩, ⟨_, _, rfl, rfl, rfl, rfl, .inl (seal_row pO)⟩, trivial⟩ (by decide) (by decide)))) (fun z s B hz h0 hi he => ?_) (fun z s x rest B z0 z1 z2 hx hy h0 hi hc e1 hB => ?_)
  rotate_left
  · obtain ⟨⟨d, s, b⟩, eO⟩ := s
    obtain ⟨i1, i2⟩ := hi
    dsimp only at i1 i2 h0
    obtain ⟨x, w⟩ := x
    have q12 := hx
    rw [hqs, List.getElem?_zip_eq_some] at q12
    obtain ⟨q1, q2⟩ := q12
    have hzF : z.toNat < FR.length := (List.getElem?_eq_some_iff.1 q1).1
    have hmem : x ∈ fre 0 fr := hFR ▸ List.mem_of_getElem? q1
    have hfm := fre_mem fr 0 (Int.le_refl 0) x hmem
    have hx0 := hfm.1
    have hEPz : eP[z.toNat]? = some (lc (intC x)) := by rw [b2]; exact vw_at q1
    have hEWz : eW[z.toNat]? = some (lc (intC w)) := by rw [b1]; exact vw_at q2
    have hzW : z < lenI eW := by rw [b1, vw_lenI, hWl]; omega
    have hzO : z < lenI eO := by rw [i1, vw_lenI]; simp only [List.length_append, List.length_replicate]; omega
    obtain ⟨y, hyd⟩ : ∃ y, y = itA X.xs x := ⟨_, rfl⟩
    have hVy : V[x.toNat]? = some (lc (GItem.c y)) := by rw [hV0, hyd]; exact vw_at (itA_at hfm.1 (by rw [← hf]; omega))
    have hw : w = wgt GR y := by
      rw [hWS, Fx.ws, ← hFR, List.getElem?_map, q1, Option.map_some, Option.some.injEq, ← hGR, ← hyd] at q2
      exact q2.symm
    obtain ⟨v, hv⟩ : ∃ v, v = ovr GR AL rt y := ⟨_, rfl⟩
    have hgo : S5.go X AL rt ⟨d ++ [v], wrap64 (s + v), b || (v != 0)⟩ rest = R2 := by rw [hv, hyd, hGR]; exact h0
    have hm1 : FR.length - d.length = FR.length - (d.length + 1) + 1 := by omega
    have hz1 : z.toNat = d.length := by omega
    have hset : (d ++ List.replicate (FR.length - d.length) 0).set z.toNat v = (d ++ [v]) ++ List.replicate (FR.length - (d.length + 1)) 0 := by
      rw [show FR.length - d.length = FR.length - (d.length + 1) + 1 by omega]
      exact rep_set d _ _ v (by omega)
    have hat0 : (d ++ List.replicate (FR.length - d.length) 0)[z.toNat]? = some 0 := by
      rw [hm1, List.replicate_succ, hz1]
      simp
    have hat : ((d ++ [v]) ++ List.replicate (FR.length - (d.length + 1)) 0)[z.toNat]? = some v := by
      rw [show z.toNat = d.length by omega]
      simp
    have hdl : ((d ++ [v]).length : Int) = z + 1 := by simp; omega
    obtain ⟨y0, y1, y2, y3, y4, y5, y6, y7, y8⟩ := y
    have hov : v = if lowB GR AL rt ⟨y0, y1, y2, y3, y4, y5, y6, y7, y8⟩ then wrap64 (wrap64 (y1 * AL) - tgt GR AL rt ⟨y0, y1, y2, y3, y4, y5, y6, y7, y8⟩) else if 0 ≤ y2 ∧ wrap64 (uppS ⟨y0, y1, y2, y3, y4, y5, y6, y7, y8⟩ * AL) < tgt GR AL rt ⟨y0, y1, y2, y3, y4, y5, y6, y7, y8⟩ then wrap64 (wrap64 (uppS ⟨y0, y1, y2, y3, y4, y5, y6, y7, y8⟩ * AL) - tgt GR AL rt ⟨y0, y1, y2, y3, y4, y5, y6, y7, y8⟩) else 0 := hv
    cbv
    rw [hc]
    cbv
    refine goX hg _ z0 hEPz rfl ?_
    cbv
    refine goX hg _ hx0 hVy rfl ?_
    cbv
    refine goY hg z0 hzW fun jw hjw hjlw => ?_
    cbv
    refine ⟨_, by rw [hjw]; exact hEWz, ?_⟩
    cbv
    have hT : g .w .add .i64 (g .w .mul .i64 y0 AL) (g .w .mul .i64 rt w) = tgt GR AL rt ⟨y0, y1, y2, y3, y4, y5, y6, y7, y8⟩ := by simp only [goAdd hg, goMul hg, hw]; rfl
    have hT1 : g .q .lss (g .w .add .i64 (g .w .mul .i64 y0 AL) (g .w .mul .i64 rt w)) (g .w .mul .i64 y1 AL) = lowB GR AL rt ⟨y0, y1, y2, y3, y4, y5, y6, y7, y8⟩ := by rw [hT]; simp only [goLss hg, goMul hg]; rfl
    rw [hT1]
    cases hl : lowB GR AL rt ⟨y0, y1, y2, y3, y4, y5, y6, y7, y8⟩
    · rw [hl] at hov
      simp only [Bool.false_eq_true, if_false] at hov
      cbv
      cases h2 : g .q .geq y2 0
      · have hv0 : v = 0 := by
          rw [goGeq hg] at h2
          have := of_decide_eq_false h2
          rw [hov, if_neg (by omega)]
        cbv
        obtain ⟨E1, hE0⟩ : ∃ E1, E1 = eO := ⟨_, rfl⟩
        have hE1 : E1 = vw intC ((d ++ [v]) ++ List.replicate (FR.length - (d.length + 1)) 0) := by
          rw [hE0, i1, ← hset, hv0]
          congr 1
          rw [hm1, List.replicate_succ, hz1]
          simp
        have pE1 : plainE E1 = true := by rw [hE1]; exact vw_plain _ _
        have hinv : E1 = vw intC ((d ++ [v]) ++ List.replicate (FR.length - (d ++ [v]).length) 0) := by rw [hE1]; simp
        rw [← hE0]
        cbv
        refine goY hg z0 (by rw [hE1, vw_lenI]; simp only [List.length_append, List.length_replicate, List.length_singleton]; omega) fun j1 hj1 hjl1 => ?_
        cbv
        refine ⟨_, by rw [hj1, hE1]; exact vw_at hat, ?_⟩
        cbv
        cases hb : b
        · cbv
          refine goY hg z0 (by rw [hE1, vw_lenI]; simp only [List.length_append, List.length_replicate, List.length_singleton]; omega) fun j2 hj2 hjl2 => ?_
          cbv
          refine ⟨_, by rw [hj2, hE1]; exact vw_at hat, ?_⟩
          cbv
          rw [e1, goNeq hg, goAdd hg]
          exact hB ((⟨d ++ [v], wrap64 (s + v), (v != 0)⟩, E1)) _ _ ⟨(by rw [hb] at hgo; exact hgo), ⟨hinv, hdl⟩⟩ (Wk.weak (wkG [some 0, some 1, some 2, some 3, some 4] ⟨rfl, rfl, rfl, rfl, rfl, rfl, rfl, rfl, rfl, trivial⟩ ⟨⟨_, _, rfl, rfl, rfl, rfl, .inr ⟨⟨rfl, rfl, rfl, rfl, rfl, rfl, rfl, trivial⟩, trivial⟩⟩, ⟨_, _, rfl, rfl, rfl, rfl, .inl ⟨rfl, pR⟩⟩, ⟨_, _, rfl, rfl, rfl, rfl, .inl ⟨rfl, pZ⟩⟩, ⟨_, _, rfl, rfl, rfl, rfl, .inl ⟨rfl, pW⟩⟩, ⟨_, _, rfl, rfl, rfl, rfl, .inl ⟨rfl, pE1⟩⟩, trivial⟩ (by decide) (by decide)))
        · cbv
          rw [e1, goAdd hg]
          exact hB ((⟨d ++ [v], wrap64 (s + v), true⟩, E1)) _ _ ⟨(by rw [hb] at hgo; exact hgo), ⟨hinv, hdl⟩⟩ (Wk.weak (wkG [some 0, some 1, some 2, some 3, some 4] ⟨rfl, rfl, rfl, rfl, rfl, rfl, rfl, rfl, rfl, trivial⟩ ⟨⟨_, _, rfl, rfl, rfl, rfl, .inr ⟨⟨rfl, rfl, rfl, rfl, rfl, rfl, rfl, trivial⟩, trivial⟩⟩, ⟨_, _, rfl, rfl, rfl, rfl, .inl ⟨rfl, pR⟩⟩, ⟨_, _, rfl, rfl, rfl, rfl, .inl ⟨rfl, pZ⟩⟩, ⟨_, _, rfl, rfl, rfl, rfl, .inl ⟨rfl, pW⟩⟩, ⟨_, _, rfl, rfl, rfl, rfl, .inl ⟨rfl, pE1⟩⟩, trivial⟩ (by decide) (by decide)))
      · cbv
        have h2' : 0 ≤ y2 := by rw [goGeq hg] at h2; exact of_decide_eq_true h2
        (first | refine callI hg (spec_l13Most_a ⟨y0, y1, y2, y3, y4, y5, y6, y7, y8⟩) rfl (fun Q1 hQ1 => ?_) | refine callIP hg (spec_l13Most_a ⟨y0, y1, y2, y3, y4, y5, y6, y7, y8⟩) rfl (fun Q1 hQ1 => ?_)); cbv
        have hT2 : g .q .gtr (g .w .add .i64 (g .w .mul .i64 y0 AL) (g .w .mul .i64 rt w)) (g .w .mul .i64 Q1 AL) = decide (wrap64 (uppS ⟨y0, y1, y2, y3, y4, y5, y6, y7, y8⟩ * AL) < tgt GR AL rt ⟨y0, y1, y2, y3, y4, y5, y6, y7, y8⟩) := by rw [hT]; simp only [goGtr hg, goMul hg, hQ1]
        rw [hT2]
        by_cases h3 : wrap64 (uppS ⟨y0, y1, y2, y3, y4, y5, y6, y7, y8⟩ * AL) < tgt GR AL rt ⟨y0, y1, y2, y3, y4, y5, y6, y7, y8⟩
        · rw [decide_eq_true h3]
          have hv0 : v = wrap64 (wrap64 (uppS ⟨y0, y1, y2, y3, y4, y5, y6, y7, y8⟩ * AL) - tgt GR AL rt ⟨y0, y1, y2, y3, y4, y5, y6, y7, y8⟩) := by rw [hov, if_pos ⟨h2', h3⟩]
          cbv
          (first | refine callI hg (spec_l13Most_a ⟨y0, y1, y2, y3, y4, y5, y6, y7, y8⟩) rfl (fun Q2 hQ2 => ?_) | refine callIP hg (spec_l13Most_a ⟨y0, y1, y2, y3, y4, y5, y6, y7, y8⟩) rfl (fun Q2 hQ2 => ?_)); cbv
          refine goY hg z0 hzO fun j hj hjl => ?_
          cbv
          refine goN hg ⟨_, by rw [hj, i1]; exact vw_at hat0, rfl⟩ ?_
          cbv
          generalize hG1 : g .st _ _ _ = E1
          have hE1 : E1 = vw intC ((d ++ [v]) ++ List.replicate (FR.length - (d.length + 1)) 0) := by
            rw [← hG1, goSt hg, hj, show g .w .sub .i64 (g .w .mul .i64 Q2 AL) (g .w .add .i64 (g .w .mul .i64 y0 AL) (g .w .mul .i64 rt w)) = v by rw [hT, hv0, hQ2]; simp only [goSub hg, goMul hg]]
            have := vw_set intC (d ++ List.replicate (FR.length - d.length) 0) z.toNat v
            rw [← hset, this, i1]
            rfl
          have pE1 : plainE E1 = true := by rw [hE1]; exact vw_plain _ _
          have hinv : E1 = vw intC ((d ++ [v]) ++ List.replicate (FR.length - (d ++ [v]).length) 0) := by rw [hE1]; simp
          refine goY hg z0 (by rw [hE1, vw_lenI]; simp only [List.length_append, List.length_replicate, List.length_singleton]; omega) fun j1 hj1 hjl1 => ?_
          cbv
          refine ⟨_, by rw [hj1, hE1]; exact vw_at hat, ?_⟩
          cbv
          cases hb : b
          · cbv
            refine goY hg z0 (by rw [hE1, vw_lenI]; simp only [List.length_append, List.length_replicate, List.length_singleton]; omega) fun j2 hj2 hjl2 => ?_
            cbv
            refine ⟨_, by rw [hj2, hE1]; exact vw_at hat, ?_⟩
            cbv
            rw [e1, goNeq hg, goAdd hg]
            exact hB ((⟨d ++ [v], wrap64 (s + v), (v != 0)⟩, E1)) _ _ ⟨(by rw [hb] at hgo; exact hgo), ⟨hinv, hdl⟩⟩ (Wk.weak (wkG [some 0, some 1, some 2, some 3, some 4] ⟨rfl, rfl, rfl, rfl, rfl, rfl, rfl, rfl, rfl, trivial⟩ ⟨⟨_, _, rfl, rfl, rfl, rfl, .inr ⟨⟨rfl, rfl, rfl, rfl, rfl, rfl, rfl, trivial⟩, trivial⟩⟩, ⟨_, _, rfl, rfl, rfl, rfl, .inl ⟨rfl, pR⟩⟩, ⟨_, _, rfl, rfl, rfl, rfl, .inl ⟨rfl, pZ⟩⟩, ⟨_, _, rfl, rfl, rfl, rfl, .inl ⟨rfl, pW⟩⟩, ⟨_, _, rfl, rfl, rfl, rfl, .inl ⟨rfl, pE1⟩⟩, trivial⟩ (by decide) (by decide)))
          · cbv
            rw [e1, goAdd hg]
            exact hB ((⟨d ++ [v], wrap64 (s + v), true⟩, E1)) _ _ ⟨(by rw [hb] at hgo; exact hgo), ⟨hinv, hdl⟩⟩ (Wk.weak (wkG [some 0, some 1, some 2, some 3, some 4] ⟨rfl, rfl, rfl, rfl, rfl, rfl, rfl, rfl, rfl, trivial⟩ ⟨⟨_, _, rfl, rfl, rfl, rfl, .inr ⟨⟨rfl, rfl, rfl, rfl, rfl, rfl, rfl, trivial⟩, trivial⟩⟩, ⟨_, _, rfl, rfl, rfl, rfl, .inl ⟨rfl, pR⟩⟩, ⟨_, _, rfl, rfl, rfl, rfl, .inl ⟨rfl, pZ⟩⟩, ⟨_, _, rfl, rfl, rfl, rfl, .inl ⟨rfl, pW⟩⟩, ⟨_, _, rfl, rfl, rfl, rfl, .inl ⟨rfl, pE1⟩⟩, trivial⟩ (by decide) (by decide)))
        · rw [decide_eq_false h3]
          have hv0 : v = 0 := by rw [hov, if_neg (fun h => h3 h.2)]
          cbv
          obtain ⟨E1, hE0⟩ : ∃ E1, E1 = eO := ⟨_, rfl⟩
          have hE1 : E1 = vw intC ((d ++ [v]) ++ List.replicate (FR.length - (d.length + 1)) 0) := by
            rw [hE0, i1, ← hset, hv0]
            congr 1
            rw [hm1, List.replicate_succ, hz1]
            simp
          have pE1 : plainE E1 = true := by rw [hE1]; exact vw_plain _ _
          have hinv : E1 = vw intC ((d ++ [v]) ++ List.replicate (FR.length - (d ++ [v]).length) 0) := by rw [hE1]; simp
          rw [← hE0]
          cbv
          refine goY hg z0 (by rw [hE1, vw_lenI]; simp only [List.length_append, List.length_replicate, List.length_singleton]; omega) fun j1 hj1 hjl1 => ?_
          cbv
          refine ⟨_, by rw [hj1, hE1]; exact vw_at hat, ?_⟩
          cbv
          cases hb : b
          · cbv
            refine goY hg z0 (by rw [hE1, vw_lenI]; simp only [List.length_append, List.length_replicate, List.length_singleton]; omega) fun j2 hj2 hjl2 => ?_
            cbv
            refine ⟨_, by rw [hj2, hE1]; exact vw_at hat, ?_⟩
            cbv
            rw [e1, goNeq hg, goAdd hg]
            exact hB ((⟨d ++ [v], wrap64 (s + v), (v != 0)⟩, E1)) _ _ ⟨(by rw [hb] at hgo; exact hgo), ⟨hinv, hdl⟩⟩ (Wk.weak (wkG [some 0, some 1, some 2, some 3, some 4] ⟨rfl, rfl, rfl, rfl, rfl, rfl, rfl, rfl, rfl, trivial⟩ ⟨⟨_, _, rfl, rfl, rfl, rfl, .inr ⟨⟨rfl, rfl, rfl, rfl, rfl, rfl, rfl, trivial⟩, trivial⟩⟩, ⟨_, _, rfl, rfl, rfl, rfl, .inl ⟨rfl, pR⟩⟩, ⟨_, _, rfl, rfl, rfl, rfl, .inl ⟨rfl, pZ⟩⟩, ⟨_, _, rfl, rfl, rfl, rfl, .inl ⟨rfl, pW⟩⟩, ⟨_, _, rfl, rfl, rfl, rfl, .inl ⟨rfl, pE1⟩⟩, trivial⟩ (by decide) (by decide)))
          · cbv
            rw [e1, goAdd hg]
            exact hB ((⟨d ++ [v], wrap64 (s + v), true⟩, E1)) _ _ ⟨(by rw [hb] at hgo; exact hgo), ⟨hinv, hdl⟩⟩ (Wk.weak (wkG [some 0, some 1, some 2, some 3, some 4] ⟨rfl, rfl, rfl, rfl, rfl, rfl, rfl, rfl, rfl, trivial⟩ ⟨⟨_, _, rfl, rfl, rfl, rfl, .inr ⟨⟨rfl, rfl, rfl, rfl, rfl, rfl, rfl, trivial⟩, trivial⟩⟩, ⟨_, _, rfl, rfl, rfl, rfl, .inl ⟨rfl, pR⟩⟩, ⟨_, _, rfl, rfl, rfl, rfl, .inl ⟨rfl, pZ⟩⟩, ⟨_, _, rfl, rfl, rfl, rfl, .inl ⟨rfl, pW⟩⟩, ⟨_, _, rfl, rfl, rfl, rfl, .inl ⟨rfl, pE1⟩⟩, trivial⟩ (by decide) (by decide)))
    · rw [hl] at hov
      simp only [if_true] at hov
      cbv
      refine goY hg z0 hzO fun j hj hjl => ?_
      cbv
      refine goN hg ⟨_, by rw [hj, i1]; exact vw_at hat0, rfl⟩ ?_
      cbv
      generalize hG1 : g .st _ _ _ = E1
      have hE1 : E1 = vw intC ((d ++ [v]) ++ List.replicate (FR.length - (d.length + 1)) 0) := by
        rw [← hG1, goSt hg, hj, show g .w .sub .i64 (g .w .mul .i64 y1 AL) (g .w .add .i64 (g .w .mul .i64 y0 AL) (g .w .mul .i64 rt w)) = v by rw [hT, hov]; simp only [goSub hg, goMul hg]]
        have := vw_set intC (d ++ List.replicate (FR.length - d.length) 0) z.toNat v
        rw [← hset, this, i1]
        rfl
      have pE1 : plainE E1 = true := by rw [hE1]; exact vw_plain _ _
      have hinv : E1 = vw intC ((d ++ [v]) ++ List.replicate (FR.length - (d ++ [v]).length) 0) := by rw [hE1]; simp
      refine goY hg z0 (by rw [hE1, vw_lenI]; simp only [List.length_append, List.length_replicate, List.length_singleton]; omega) fun j1 hj1 hjl1 => ?_
      cbv
      refine ⟨_, by rw [hj1, hE1]; exact vw_at hat, ?_⟩
      cbv
      cases hb : b
      · cbv
        refine goY hg z0 (by rw [hE1, vw_lenI]; simp only [List.length_append, List.length_replicate, List.length_singleton]; omega) fun j2 hj2 hjl2 => ?_
        cbv
        refine ⟨_, by rw [hj2, hE1]; exact vw_at hat, ?_⟩
        cbv
        rw [e1, goNeq hg, goAdd hg]
        exact hB ((⟨d ++ [v], wrap64 (s + v), (v != 0)⟩, E1)) _ _ ⟨(by rw [hb] at hgo; exact hgo), ⟨hinv, hdl⟩⟩ (Wk.weak (wkG [some 0, some 1, some 2, some 3, some 4] ⟨rfl, rfl, rfl, rfl, rfl, rfl, rfl, rfl, rfl, trivial⟩ ⟨⟨_, _, rfl, rfl, rfl, rfl, .inr ⟨⟨rfl, rfl, rfl, rfl, rfl, rfl, rfl, trivial⟩, trivial⟩⟩, ⟨_, _, rfl, rfl, rfl, rfl, .inl ⟨rfl, pR⟩⟩, ⟨_, _, rfl, rfl, rfl, rfl, .inl ⟨rfl, pZ⟩⟩, ⟨_, _, rfl, rfl, rfl, rfl, .inl ⟨rfl, pW⟩⟩, ⟨_, _, rfl, rfl, rfl, rfl, .inl ⟨rfl, pE1⟩⟩, trivial⟩ (by decide) (by decide)))
      · cbv
        rw [e1, goAdd hg]
        exact hB ((⟨d ++ [v], wrap64 (s + v), true⟩, E1)) _ _ ⟨(by rw [hb] at hgo; exact hgo), ⟨hinv, hdl⟩⟩ (Wk.weak (wkG [some 0, some 1, some 2, some 3, some 4] ⟨rfl, rfl, rfl, rfl, rfl, rfl, rfl, rfl, rfl, trivial⟩ ⟨⟨_, _, rfl, rfl, rfl, rfl, .inr ⟨⟨rfl, rfl, rfl, rfl, rfl, rfl, rfl, trivial⟩, trivial⟩⟩, ⟨_, _, rfl, rfl, rfl, rfl, .inl ⟨rfl, pR⟩⟩, ⟨_, _, rfl, rfl, rfl, rfl, .inl ⟨rfl, pZ⟩⟩, ⟨_, _, rfl, rfl, rfl, rfl, .inl ⟨rfl, pW⟩⟩, ⟨_, _, rfl, rfl, rfl, rfl, .inl ⟨rfl, pE1⟩⟩, trivial⟩ (by decide) (by decide)))
  obtain ⟨⟨d, s, b⟩, eO⟩ := s
  obtain ⟨i1, i2⟩ := hi
  dsimp only at i1 i2 h0
  rw [hR2] at h0
  simp only [S5.go, S5.mk.injEq] at h0
  obtain ⟨h2, h3, h4⟩ := h0
  obtain rfl : OVS = d := h2.symm
  obtain rfl : SM = s := h3.symm
  obtain rfl : SB = b := h4.symm
  have hO2 : eO = vw intC OVS := by rw [i1, hOl, Nat.sub_self]; simp
  have pO : plainE eO = true := by rw [hO2]; exact vw_plain _ _
  have hsl : (shr rt WS).length = FR.length := by rw [hWS, hFR]; exact X.shr_len hX hf rt
  have cs := spec_Shares_a rt WS (by omega)
  obtain ⟨SH, hSH⟩ : ∃ SH, SH = shr rt WS := ⟨_, rfl⟩
  obtain ⟨ES, hES⟩ : ∃ ES, ES = vw intC SH := ⟨_, rfl⟩
  have iES : immE ES = true := by rw [hES]; exact vw_imm _ _
  have pES : plainE ES = true := imm_plainE iES
  rw [← hSH, ← b1, ← hES] at cs
  rw [← hSH] at hsl
  obtain ⟨q3, hq3⟩ : ∃ q3, q3 = FR.zip (OVS.zip SH) := ⟨_, rfl⟩
  have heP : eP = q3.map fun t => lc (intC t.1) := by
    rw [b2, hq3, vw]
    conv => lhs; rw [← List.map_fst_zip (l₁ := FR) (l₂ := OVS.zip SH) (by rw [List.length_zip]; omega)]
    rw [List.map_map]; rfl
  have hq3l : q3.length ≤ 1048576 := by rw [hq3, List.length_zip]; omega
  obtain ⟨R3, hR3⟩ : ∃ R3, R3 = S3.mk (setz (X.setS fr rt) sz) (setb ((X.setS fr rt).map (·.1)) fr) := ⟨_, rfl⟩
  have h30 : S3.go ⟨sz, fr⟩ (q3.filterMap (set1 X SB SM)) = R3 := by rw [hR3, X.setS_eq, ← hFR, ← hOVS, ← hWS, ← hSH, ← hSB, ← hSM, ← hq3]; rfl
  cbv; rw [he]; cbv
  first | (refine callRow hg cs (resA_c (resDat rfl) (resA_c (resRow (ab := ⟨_, _, eW⟩) rfl keW deW) (resA_nil))) iES ?_; cbv) | (refine callRowP hg cs (resA_c (resDat rfl) (resA_c (resRow (ab := ⟨_, _, eW⟩) rfl keW deW) (resA_nil))) iES ?_; cbv)
  refine loop_go hg fits (by kernel_rfl) eP (fun t => lc (intC t.1)) q3 heP hq3l (fun z (s : S3 × List (List AC) × List (List AC)) => [(0, .t (.c (.ptr 0 0 0))), (4, .t (.c (.view eP))), (8, .t (.c (.own 3))), (9, .t (ai (SM))), (10, .t (abl (SB))), (14, .t (.c (.own 4))), (15, .t (ai (z)))]) (fun z (s : S3 × List (List AC) × List (List AC)) => [.bx 51 7 [.view V, .imm (.int .i64 X.gap), .imm (.int .i64 X.inner), .imm (.bool GR), .own 1, .own 2, .imm (.int .i64 p1)], .rw ⟨4, 1, s.2.2⟩, .rw ⟨3, 1, s.2.1⟩, .rw ⟨3, 1, eO⟩, .rw ⟨3, 1, ES⟩]) (fun z (s : S3 × List (List AC) × List (List AC)) => s.2.1 = vw intC s.1.s ∧ s.2.2 = vw bolC s.1.f ∧ s.1.s.length = X.xs.length ∧ s.1.f.length = X.xs.length) (fun (s : S3 × List (List AC) × List (List AC)) rest => S3.go s.1 (rest.filterMap (set1 X SB SM))) (R3) (⟨sz, fr⟩, Z, R) h30 ⟨hZ, hR, hs, hf⟩ (Wk.weak (wkG [some 0, some 1, some 2, some 4, some 5] ⟨rfl, rfl, rfl, rfl, rfl, rfl, rfl, trivial⟩ ⟨⟨_, _, rfl, rfl, rfl, rfl, .inr ⟨⟨rfl, rfl, rfl, rfl, rfl, rfl, rfl, trivial⟩, trivial⟩⟩, ⟨_, _, rfl, rfl, rfl, rfl, .inl ⟨rfl, pR⟩⟩, ⟨_, _, rfl, rfl, rfl, rfl, .inl ⟨rfl, pZ⟩⟩, ⟨_, _, rfl, rfl, rfl, rfl, .inl ⟨rfl, pO⟩⟩, ⟨_, _, rfl, rfl, rfl, rfl, .inl ⟨rfl, pES⟩⟩, trivial⟩ (by decide) (by decide))) (fun z s B hz h0 hi he => ?_) (fun z s x rest B z0 z1 z2 hx hy h0 hi hc e1 hB => ?_)
  rotate_left
  · obtain ⟨⟨q, u⟩, eZ, eR⟩ := s
    obtain ⟨k1, k2, k3, k4⟩ := hi
    dsimp only at k1 k2 k3 k4 h0
    obtain ⟨x, o, sh⟩ := x
    have q12 := hx
    rw [hq3, List.getElem?_zip_eq_some, List.getElem?_zip_eq_some] at q12
    obtain ⟨q1, q2, q4⟩ := q12
    have hzF : z.toNat < FR.length := (List.getElem?_eq_some_iff.1 q1).1
    have hmem : x ∈ fre 0 fr := hFR ▸ List.mem_of_getElem? q1
    have hfm := fre_mem fr 0 (Int.le_refl 0) x hmem
    have hi0 := hfm.1
    have hEPz : eP[z.toNat]? = some (lc (intC x)) := by rw [b2]; exact vw_at q1
    have hEOz : eO[z.toNat]? = some (lc (intC o)) := by rw [hO2]; exact vw_at q2
    have hESz : ES[z.toNat]? = some (lc (intC sh)) := by rw [hES]; exact vw_at q4
    have hzO : z < lenI eO := by rw [hO2, vw_lenI]; omega
    have hzS : z < lenI ES := by rw [hES, vw_lenI]; omega
    obtain ⟨y, hyd⟩ : ∃ y, y = itA X.xs x := ⟨_, rfl⟩
    have hVy : V[x.toNat]? = some (lc (GItem.c y)) := by rw [hV0, hyd]; exact vw_at (itA_at hfm.1 (by rw [← hf]; omega))
    have hiR : x < lenI eR := by rw [k2, vw_lenI, k4, ← hf]; omega
    have hiZ : x < lenI eZ := by rw [k1, vw_lenI, k3, ← hf]; omega
    have hiw : x.toNat < u.length := by rw [k4, ← hf]; omega
    have hiq : x.toNat < q.length := by rw [k3, ← hf]; omega
    have sR : eR.set x.toNat [.imm (.bool true)] = vw bolC (u.set x.toNat true) := by rw [vw_set, k2]; rfl
    have sZ : ∀ v : Int, eZ.set x.toNat [.imm (.int .i64 v)] = vw intC (q.set x.toNat v) := fun v => by rw [vw_set, k1]; rfl
    have pq : plainE eZ = true := by rw [k1]; exact vw_plain _ _
    have pu : plainE eR = true := by rw [k2]; exact vw_plain _ _
    have hse : set1 X SB SM (x, o, sh) = if SB = false then some (x, cl (wrap64 (y.base + sh))) else if 0 < o ∧ 0 ≤ SM then some (x, y.least) else if o < 0 ∧ SM ≤ 0 then some (x, uppS y) else none := by rw [hyd]; rfl
    obtain ⟨y0, y1, y2, y3, y4, y5, y6, y7, y8⟩ := y
    dsimp only at hse
    cbv
    rw [hc]
    cbv
    refine goX hg _ z0 hEPz rfl ?_
    cbv
    cases hSBc : SB
    · cbv
      refine goX hg _ hi0 hVy rfl ?_
      cbv
      refine goY hg z0 hzS fun j3 hj3 hjl3 => ?_
      cbv
      refine ⟨_, by rw [hj3]; exact hESz, ?_⟩
      cbv
      (first | refine callI hg (spec_Clamped_a _) rfl (fun Q0 hQ0 => ?_) | refine callIP hg (spec_Clamped_a _) rfl (fun Q0 hQ0 => ?_)); cbv
      rw [goAdd hg] at hQ0
      refine goY hg hi0 hiZ fun j2 hj2 hjl2 => ?_
      cbv
      refine goN hg ⟨_, by rw [hj2, k1]; exact vw_at (List.getElem?_eq_getElem hiq), rfl⟩ ?_
      cbv
      refine goY hg hi0 hiR fun j hj hjl => ?_
      cbv
      refine goN hg ⟨_, by rw [hj, k2]; exact vw_at (List.getElem?_eq_getElem hiw), rfl⟩ ?_
      cbv
      rw [e1]
      simp only [goSt hg]
      subst hj hj2
      exact hB ((⟨q.set x.toNat (Q0), u.set x.toNat true⟩, _, _)) _ _ ⟨(by rw [List.filterMap_cons_some (b := (x, Q0)) (by rw [hse, if_pos hSBc, hQ0])] at h0; exact h0), ⟨sZ _, sR, by simpa using k3, by simpa using k4⟩⟩ (Wk.weak (wkG [some 0, some 1, some 2, some 3, some 4] ⟨rfl, rfl, rfl, rfl, (by rw [hSBc]; exact rfl), rfl, rfl, trivial⟩ ⟨⟨_, _, rfl, rfl, rfl, rfl, .inr ⟨⟨rfl, rfl, rfl, rfl, rfl, rfl, rfl, trivial⟩, trivial⟩⟩, ⟨_, _, rfl, rfl, rfl, rfl, .inl ⟨rfl, sR.symm ▸ vw_plain _ _⟩⟩, ⟨_, _, rfl, rfl, rfl, rfl, .inl ⟨rfl, (sZ _).symm ▸ vw_plain _ _⟩⟩, ⟨_, _, rfl, rfl, rfl, rfl, .inl ⟨rfl, pO⟩⟩, ⟨_, _, rfl, rfl, rfl, rfl, .inl ⟨rfl, pES⟩⟩, trivial⟩ (by decide) (by decide)))
    · rw [if_neg (by rw [hSBc]; simp)] at hse
      cbv
      refine goY hg z0 hzO fun j3 hj3 hjl3 => ?_
      cbv
      refine ⟨_, by rw [hj3]; exact hEOz, ?_⟩
      cbv
      have tg : g .q .gtr o 0 = decide (0 < o) := by rw [goGtr hg]
      have tl : g .q .lss o 0 = decide (o < 0) := goLss hg _ _
      have tm : g .q .geq SM 0 = decide (0 ≤ SM) := by rw [goGeq hg]
      have tn : g .q .leq SM 0 = decide (SM ≤ 0) := goLeq hg _ _
      by_cases c1 : 0 < o
      · rw [tg, decide_eq_true c1]
        cbv
        by_cases c2 : 0 ≤ SM
        · rw [tm, decide_eq_true c2]
          cbv
          refine goX hg _ hi0 hVy rfl ?_
          cbv
          refine goY hg hi0 hiZ fun j2 hj2 hjl2 => ?_
          cbv
          refine goN hg ⟨_, by rw [hj2, k1]; exact vw_at (List.getElem?_eq_getElem hiq), rfl⟩ ?_
          cbv
          refine goY hg hi0 hiR fun j hj hjl => ?_
          cbv
          refine goN hg ⟨_, by rw [hj, k2]; exact vw_at (List.getElem?_eq_getElem hiw), rfl⟩ ?_
          cbv
          rw [e1]
          simp only [goSt hg]
          subst hj hj2
          exact hB ((⟨q.set x.toNat (y1), u.set x.toNat true⟩, _, _)) _ _ ⟨(by rw [List.filterMap_cons_some (b := (x, y1)) (by rw [hse, if_pos ⟨c1, c2⟩])] at h0; exact h0), ⟨sZ _, sR, by simpa using k3, by simpa using k4⟩⟩ (Wk.weak (wkG [some 0, some 1, some 2, some 3, some 4] ⟨rfl, rfl, rfl, rfl, (by rw [hSBc]; exact rfl), rfl, rfl, trivial⟩ ⟨⟨_, _, rfl, rfl, rfl, rfl, .inr ⟨⟨rfl, rfl, rfl, rfl, rfl, rfl, rfl, trivial⟩, trivial⟩⟩, ⟨_, _, rfl, rfl, rfl, rfl, .inl ⟨rfl, sR.symm ▸ vw_plain _ _⟩⟩, ⟨_, _, rfl, rfl, rfl, rfl, .inl ⟨rfl, (sZ _).symm ▸ vw_plain _ _⟩⟩, ⟨_, _, rfl, rfl, rfl, rfl, .inl ⟨rfl, pO⟩⟩, ⟨_, _, rfl, rfl, rfl, rfl, .inl ⟨rfl, pES⟩⟩, trivial⟩ (by decide) (by decide)))
        · rw [tm, decide_eq_false c2]
          cbv
          refine goY hg z0 hzO fun j4 hj4 hjl4 => ?_
          cbv
          refine ⟨_, by rw [hj4]; exact hEOz, ?_⟩
          cbv
          rw [tl, decide_eq_false (by omega)]
          cbv
          rw [e1]
          exact hB ((⟨q, u⟩, eZ, eR)) _ _ ⟨(by rw [List.filterMap_cons_none (by rw [hse, if_neg (fun h => c2 h.2), if_neg (by omega)])] at h0; exact h0), ⟨k1, k2, k3, k4⟩⟩ (Wk.weak (wkG [some 0, some 1, some 2, some 3, some 4] ⟨rfl, rfl, rfl, rfl, (by rw [hSBc]; exact rfl), rfl, rfl, trivial⟩ ⟨⟨_, _, rfl, rfl, rfl, rfl, .inr ⟨⟨rfl, rfl, rfl, rfl, rfl, rfl, rfl, trivial⟩, trivial⟩⟩, ⟨_, _, rfl, rfl, rfl, rfl, .inl ⟨rfl, pu⟩⟩, ⟨_, _, rfl, rfl, rfl, rfl, .inl ⟨rfl, pq⟩⟩, ⟨_, _, rfl, rfl, rfl, rfl, .inl ⟨rfl, pO⟩⟩, ⟨_, _, rfl, rfl, rfl, rfl, .inl ⟨rfl, pES⟩⟩, trivial⟩ (by decide) (by decide)))
      · rw [tg, decide_eq_false c1]
        cbv
        refine goY hg z0 hzO fun j4 hj4 hjl4 => ?_
        cbv
        refine ⟨_, by rw [hj4]; exact hEOz, ?_⟩
        cbv
        by_cases c3 : o < 0
        · rw [tl, decide_eq_true c3]
          cbv
          by_cases c4 : SM ≤ 0
          · rw [tn, decide_eq_true c4]
            cbv
            refine goX hg _ hi0 hVy rfl ?_
            cbv
            (first | refine callI hg (spec_l13Most_a ⟨y0, y1, y2, y3, y4, y5, y6, y7, y8⟩) rfl (fun Q0 hQ0 => ?_) | refine callIP hg (spec_l13Most_a ⟨y0, y1, y2, y3, y4, y5, y6, y7, y8⟩) rfl (fun Q0 hQ0 => ?_)); cbv
            refine goY hg hi0 hiZ fun j2 hj2 hjl2 => ?_
            cbv
            refine goN hg ⟨_, by rw [hj2, k1]; exact vw_at (List.getElem?_eq_getElem hiq), rfl⟩ ?_
            cbv
            refine goY hg hi0 hiR fun j hj hjl => ?_
            cbv
            refine goN hg ⟨_, by rw [hj, k2]; exact vw_at (List.getElem?_eq_getElem hiw), rfl⟩ ?_
            cbv
            rw [e1]
            simp only [goSt hg]
            subst hj hj2
            exact hB ((⟨q.set x.toNat (Q0), u.set x.toNat true⟩, _, _)) _ _ ⟨(by rw [List.filterMap_cons_some (b := (x, Q0)) (by rw [hse, if_neg (fun h => c1 h.1), if_pos ⟨c3, c4⟩, hQ0])] at h0; exact h0), ⟨sZ _, sR, by simpa using k3, by simpa using k4⟩⟩ (Wk.weak (wkG [some 0, some 1, some 2, some 3, some 4] ⟨rfl, rfl, rfl, rfl, (by rw [hSBc]; exact rfl), rfl, rfl, trivial⟩ ⟨⟨_, _, rfl, rfl, rfl, rfl, .inr ⟨⟨rfl, rfl, rfl, rfl, rfl, rfl, rfl, trivial⟩, trivial⟩⟩, ⟨_, _, rfl, rfl, rfl, rfl, .inl ⟨rfl, sR.symm ▸ vw_plain _ _⟩⟩, ⟨_, _, rfl, rfl, rfl, rfl, .inl ⟨rfl, (sZ _).symm ▸ vw_plain _ _⟩⟩, ⟨_, _, rfl, rfl, rfl, rfl, .inl ⟨rfl, pO⟩⟩, ⟨_, _, rfl, rfl, rfl, rfl, .inl ⟨rfl, pES⟩⟩, trivial⟩ (by decide) (by decide)))
          · rw [tn, decide_eq_false c4]
            cbv
            rw [e1]
            exact hB ((⟨q, u⟩, eZ, eR)) _ _ ⟨(by rw [List.filterMap_cons_none (by rw [hse, if_neg (fun h => c1 h.1), if_neg (fun h => c4 h.2)])] at h0; exact h0), ⟨k1, k2, k3, k4⟩⟩ (Wk.weak (wkG [some 0, some 1, some 2, some 3, some 4] ⟨rfl, rfl, rfl, rfl, (by rw [hSBc]; exact rfl), rfl, rfl, trivial⟩ ⟨⟨_, _, rfl, rfl, rfl, rfl, .inr ⟨⟨rfl, rfl, rfl, rfl, rfl, rfl, rfl, trivial⟩, trivial⟩⟩, ⟨_, _, rfl, rfl, rfl, rfl, .inl ⟨rfl, pu⟩⟩, ⟨_, _, rfl, rfl, rfl, rfl, .inl ⟨rfl, pq⟩⟩, ⟨_, _, rfl, rfl, rfl, rfl, .inl ⟨rfl, pO⟩⟩, ⟨_, _, rfl, rfl, rfl, rfl, .inl ⟨rfl, pES⟩⟩, trivial⟩ (by decide) (by decide)))
        · rw [tl, decide_eq_false c3]
          cbv
          rw [e1]
          exact hB ((⟨q, u⟩, eZ, eR)) _ _ ⟨(by rw [List.filterMap_cons_none (by rw [hse, if_neg (fun h => c1 h.1), if_neg (fun h => c3 h.1)])] at h0; exact h0), ⟨k1, k2, k3, k4⟩⟩ (Wk.weak (wkG [some 0, some 1, some 2, some 3, some 4] ⟨rfl, rfl, rfl, rfl, (by rw [hSBc]; exact rfl), rfl, rfl, trivial⟩ ⟨⟨_, _, rfl, rfl, rfl, rfl, .inr ⟨⟨rfl, rfl, rfl, rfl, rfl, rfl, rfl, trivial⟩, trivial⟩⟩, ⟨_, _, rfl, rfl, rfl, rfl, .inl ⟨rfl, pu⟩⟩, ⟨_, _, rfl, rfl, rfl, rfl, .inl ⟨rfl, pq⟩⟩, ⟨_, _, rfl, rfl, rfl, rfl, .inl ⟨rfl, pO⟩⟩, ⟨_, _, rfl, rfl, rfl, rfl, .inl ⟨rfl, pES⟩⟩, trivial⟩ (by decide) (by decide)))
  obtain ⟨⟨q, u⟩, eZ, eR⟩ := s
  obtain ⟨k1, k2, k3, k4⟩ := hi
  dsimp only at k1 k2 k3 k4 h0
  cbv; rw [he]; cbv
  have hfin : S3.mk q u = R3 := h0
  rw [hR3] at hfin
  simp only [S3.mk.injEq] at hfin
  exact finH3 hF rfl rfl rfl ⟨rfl, rfl, rfl, rfl, rfl, rfl, rfl, trivial⟩ (by rw [k2]; exact vw_plain _ _) (by rw [k1]; exact vw_plain _ _) rfl ⟨_, rfl, p1, q, u, by simp [hn], by rw [k1, k2], by rw [if_neg hn]; exact hfin.1, by rw [if_neg hn]; exact hfin.2⟩

end Go.Proofs.Ytcohgnecmgcajaa
