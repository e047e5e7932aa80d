/- The program's passes over a line that flexes, as maps of data. -/
import Derived.Test.YtcohgnecmgcajaaQ2
namespace Go.Proofs.Ytcohgnecmgcajaa
open Go.ChangeShapes Go.WideShapes Go.ChangeAt Go.RowKit Am
set_option linter.unusedVariables false
set_option linter.unusedSimpArgs false
set_option maxRecDepth 100000

abbrev bolC : Bool → Array Value := fun b => #[.bool b]
/-- The flexing box over its two rows. -/
def Fx.bx (X : Fx) (p : Int) : List AC := [.view (vw GItem.c X.xs), .imm (.int .i64 X.gap), .imm (.int .i64 X.inner), .imm (.bool X.gr), .own 1, .own 2, .imm (.int .i64 p)]
structure S1 where
  i : Int
  f : List Int
  m : List Int
  a : Int
def S1.go (gr : Bool) : S1 → List (GItem × Bool × Int) → S1
  | s, [] => s
  | s, (x, f, _) :: r => S1.go gr (if f then ⟨s.i + 1, s.f, s.m, s.a⟩ else ⟨s.i + 1, s.f ++ [s.i], s.m.set s.i.toNat x.base, wrap64 (s.a + wgt gr x)⟩) r
def zip3 (xs : List GItem) (fr : List Bool) (sz : List Int) : List (GItem × Bool × Int) := xs.zip (fr.zip sz)
theorem vw_set {α : Type} (c : α → Array Value) (xs : List α) (j : Nat) (x : α) : vw c (xs.set j x) = (vw c xs).set j (lc (c x)) := by simp [vw]
theorem wsum_app : ∀ (xs ys : List Int) (a : Int), wsum a (xs ++ ys) = wsum (wsum a xs) ys
  | [], _, _ => rfl
  | x :: xs, ys, a => by simp only [List.cons_append, wsum]; exact wsum_app xs ys _
theorem S1.go_eq (X : Fx) : ∀ (xs : List GItem) (fr : List Bool) (sz : List Int) (dn : List Int) (f : List Int) (a : Int), fr.length = xs.length → sz.length = xs.length → (∀ j : Nat, j < xs.length → itA X.xs ((dn.length : Int) + (j : Int)) = xs[j]?.getD ⟨0, 0, 0, 0, 0, 0, 0, false, false⟩) →
    S1.go X.gr ⟨dn.length, f, dn ++ sz, a⟩ (zip3 xs fr sz) = ⟨(dn.length : Int) + xs.length, f ++ fre dn.length fr, dn ++ mix xs fr sz, wsum a ((fre dn.length fr).map fun i => wgt X.gr (itA X.xs i))⟩
  | [], [], [], dn, f, a, _, _, _ => by simp [zip3, S1.go, fre, mix, wsum]
  | [], _ :: _, _, _, _, _, h, _, _ => by simp at h
  | [], [], _ :: _, _, _, _, _, h, _ => by simp at h
  | _ :: _, [], _, _, _, _, h, _, _ => by simp at h
  | _ :: _, _ :: _, [], _, _, _, _, h, _ => by simp at h
  | x :: xs, b :: fr, s :: sz, dn, f, a, h1, h2, h3 => by
    have hx : itA X.xs (dn.length : Int) = x := by have := h3 0 (by simp); simpa using this
    have h4 : ∀ v : Int, ∀ j : Nat, j < xs.length → itA X.xs (((dn ++ [v]).length : Int) + (j : Int)) = xs[j]?.getD ⟨0, 0, 0, 0, 0, 0, 0, false, false⟩ := fun v j hj => by
      have := h3 (j + 1) (by simp; omega)
      simp only [List.getElem?_cons_succ] at this
      rw [← this]
      congr 1
      simp only [List.length_append, List.length_singleton]
      omega
    have ih := fun v f a => S1.go_eq X xs fr sz (dn ++ [v]) f a (by simpa using h1) (by simpa using h2) (h4 v)
    have el : ∀ v : Int, ((dn ++ [v]).length : Int) = dn.length + 1 := fun v => by simp
    have ed : ∀ (v : Int) (l : List Int), (dn ++ [v]) ++ l = dn ++ v :: l := fun v l => by simp
    have hz : zip3 (x :: xs) (b :: fr) (s :: sz) = (x, b, s) :: zip3 xs fr sz := rfl
    rw [hz]
    cases b with
    | true =>
      simp only [S1.go, if_true, fre, mix]
      have := ih s f a
      rw [el, ed, ed] at this
      rw [this, List.length_cons]
      congr 1
      omega
    | false =>
      simp only [S1.go, Bool.false_eq_true, if_false, fre, mix]
      have := ih x.base (f ++ [(dn.length : Int)]) (wrap64 (a + wgt X.gr x))
      rw [el, ed, ed] at this
      have e1 : (dn ++ s :: sz).set ((dn.length : Int)).toNat x.base = dn ++ x.base :: sz := by simp
      rw [e1, this, List.length_cons, List.map_cons, wsum, hx, List.append_assoc]
      congr 1
      omega
theorem S1.all_ (X : Fx) {fr : List Bool} {sz : List Int} (hf : fr.length = X.xs.length) (hs : sz.length = X.xs.length) : S1.go X.gr ⟨0, [], sz, 0⟩ (zip3 X.xs fr sz) = ⟨X.xs.length, fre 0 fr, mix X.xs fr sz, X.all fr⟩ := by
  have := S1.go_eq X X.xs fr sz [] [] 0 hf hs (fun j hj => by simp [itA])
  simpa [Fx.all, Fx.ws] using this
/-- The second loop: what is below, what is above, by how much, the weights. -/
structure S2 where
  l : List Int
  h : List Int
  v : Int
  w : List Int
def S2.go (X : Fx) (A r : Int) : S2 → List Int → S2
  | s, [] => s
  | s, i :: is => S2.go X A r ⟨if lowB X.gr A r (itA X.xs i) then s.l ++ [i] else s.l, if !lowB X.gr A r (itA X.xs i) && higB X.gr A r (itA X.xs i) then s.h ++ [i] else s.h, vioI X.gr A r s.v (itA X.xs i), s.w ++ [wgt X.gr (itA X.xs i)]⟩ is
theorem S2.go_eq (X : Fx) (A r : Int) : ∀ (is : List Int) (s : S2), S2.go X A r s is = ⟨s.l ++ is.filter fun i => lowB X.gr A r (itA X.xs i), s.h ++ is.filter fun i => !lowB X.gr A r (itA X.xs i) && higB X.gr A r (itA X.xs i), is.foldl (fun v i => vioI X.gr A r v (itA X.xs i)) s.v, s.w ++ is.map fun i => wgt X.gr (itA X.xs i)⟩
  | [], s => by simp [S2.go]
  | i :: is, s => by
    rw [S2.go, S2.go_eq X A r is]
    simp only [List.filter_cons, List.map_cons, List.foldl_cons]
    congr 1
    · split <;> simp_all
    · split <;> simp_all
    · simp
/-- What the later loops set. -/
structure S3 where
  s : List Int
  f : List Bool
def S3.go (s : S3) (ps : List (Int × Int)) : S3 := ⟨setz ps s.s, setb (ps.map (·.1)) s.f⟩
theorem S3.go_cons (s : S3) (p : Int × Int) (ps : List (Int × Int)) : S3.go s (p :: ps) = S3.go ⟨s.s.set p.1.toNat p.2, s.f.set p.1.toNat true⟩ ps := rfl
theorem S3.go_nil (s : S3) : S3.go s [] = s := rfl
theorem zip3_fst : ∀ (xs : List GItem) (fr : List Bool) (sz : List Int), fr.length = xs.length → sz.length = xs.length → (zip3 xs fr sz).map (·.1) = xs
  | [], _, _, _, _ => rfl
  | x :: xs, b :: fr, s :: sz, h1, h2 => by
    show x :: (zip3 xs fr sz).map (·.1) = _
    rw [zip3_fst xs fr sz (by simpa using h1) (by simpa using h2)]
  | _ :: _, [], _, h, _ => by simp at h
  | _ :: _, _ :: _, [], _, h => by simp at h
theorem zip3_at (xs : List GItem) (fr : List Bool) (sz : List Int) (n : Nat) (x : GItem) (b : Bool) (s : Int) (h : (zip3 xs fr sz)[n]? = some (x, b, s)) : xs[n]? = some x ∧ fr[n]? = some b ∧ sz[n]? = some s := by
  unfold zip3 at h
  rw [List.getElem?_zip_eq_some, List.getElem?_zip_eq_some] at h
  exact h
theorem itA_at {xs : List GItem} {i : Int} (h0 : 0 ≤ i) (h1 : i < xs.length) : xs[i.toNat]? = some (itA xs i) := by
  unfold itA
  rw [List.getElem?_eq_getElem (by omega)]
  rfl
theorem setz_app (a b : List (Int × Int)) (l : List Int) : setz (a ++ b) l = setz b (setz a l) := List.foldl_append ..
theorem setb_app (a b : List Int) (l : List Bool) : setb (a ++ b) l = setb b (setb a l) := List.foldl_append ..
/-- What the pass sets, in two steps. -/
theorem Fx.setI_two (X : Fx) (fr : List Bool) (rt : Int) (sz : List Int) (h : ¬ (X.low fr rt = [] ∧ X.hig fr rt = [])) (A B : List (Int × Int)) (hA : A = if 0 ≤ X.vio fr rt then (X.low fr rt).map fun i => (i, (itA X.xs i).least) else []) (hB : B = if X.vio fr rt ≤ 0 then (X.hig fr rt).map fun i => (i, uppI (itA X.xs i)) else []) :
    S3.go (S3.go ⟨sz, fr⟩ A) B = ⟨setz (X.setI fr rt) sz, setb ((X.setI fr rt).map (·.1)) fr⟩ := by
  unfold Fx.setI
  rw [if_neg h, ← hA, ← hB, List.map_append, setz_app, setb_app]
  rfl
theorem sum_test {a b : List Int} (ha : a.length ≤ 1048576) (hb : b.length ≤ 1048576) : (wrap64 ((a.length : Int) + (b.length : Int)) == 0) = decide (a = [] ∧ b = []) := by
  have e : wrap64 ((a.length : Int) + (b.length : Int)) = (a.length : Int) + (b.length : Int) := by unfold wrap64; omega
  rw [e]
  by_cases hc : a = [] ∧ b = []
  · rw [hc.1, hc.2]; rfl
  · rw [decide_eq_false hc, beq_eq_false_iff_ne]
    intro hz
    exact hc ⟨List.eq_nil_of_length_eq_zero (by omega), List.eq_nil_of_length_eq_zero (by omega)⟩
theorem impl_copyInts_a (ws : List Int) (hl : ws.length ≤ 1048576) : PCon Try.prog 64 [.c (.view (vw intC ws))] fun res rows => res = .t (.c (.own 0)) ∧ rows = [⟨3, 1, vw intC ws⟩] := by
  obtain ⟨V, hV⟩ : ∃ V, V = vw intC ws := ⟨_, rfl⟩
  have hVl : V.length = ws.length := by rw [hV, vw_length]
  have iV : immE V = true := by rw [hV]; exact vw_imm _ _
  have kV : ∀ y ∈ V, y.length = 1 := by rw [hV]; exact vw_k (c := intC) (k := 1) fun _ => rfl
  have dV : ∀ y ∈ V, y.all dat = true := by rw [hV]; exact vw_dat
  have pV : plainE V = true := by rw [hV]; exact vw_plain _ _
  rw [← hV]
  refine pcon_run (c := body Try.f64) fits Try.func64 (by kernel_rfl) (by kernel_rfl) (by rfl) (by kernel_rfl) fun g F hg hF => ?_
  cbv
  refine goN hg ⟨kV, by omega, by omega⟩ ?_
  cbv
  rw [goAp hg]
  exact finRow hF rfl pV
set_option maxHeartbeats 3200000 in
theorem impl_flexing__pass_a (X : Fx) (hX : itsOk X.xs = true) (sz : List Int) (fr : List Bool) (hs : sz.length = X.xs.length) (hf : fr.length = X.xs.length) (p : Int) :
    Con Try.prog 52 (toH [.bx 54 7 (X.bx p), .rw ⟨3, 1, vw intC sz⟩, .rw ⟨4, 1, vw bolC fr⟩]) [.c (.ptr 0 0 0)] fun res h' => ∃ eh, toH eh = h' ∧ ∃ p' sz' fr',
      res = .t (abl (decide (fre 0 fr ≠ []))) ∧ eh = [.bx 54 7 (X.bx p'), .rw ⟨3, 1, vw intC sz'⟩, .rw ⟨4, 1, vw bolC fr'⟩] ∧
      sz' = (if fre 0 fr = [] then sz else setz (X.setI fr (X.rI fr sz)) sz) ∧ fr' = (if fre 0 fr = [] then fr else setb ((X.setI fr (X.rI fr sz)).map (·.1)) fr) := by
  have hall := S1.all_ X hf hs
  obtain ⟨hxo, hxl⟩ := itsOk_mem hX
  obtain ⟨zs, hzs⟩ : ∃ zs, zs = zip3 X.xs fr sz := ⟨_, rfl⟩
  have hV : vw GItem.c X.xs = zs.map fun t => lc (GItem.c t.1) := by
    rw [hzs, vw, ← zip3_fst X.xs fr sz hf hs, List.map_map]; simp [zip3_fst X.xs fr sz hf hs]
  have hzl : zs.length ≤ 1048576 := by rw [hzs, zip3]; simp [hs, hf]; omega
  rw [← hzs] at hall
  obtain ⟨V, hV0⟩ : ∃ V, V = vw GItem.c X.xs := ⟨_, rfl⟩
  obtain ⟨Z, hZ⟩ : ∃ Z, Z = vw intC sz := ⟨_, rfl⟩
  have hZl : Z.length = sz.length := by rw [hZ, vw_length]
  have iZ : immE Z = true := by rw [hZ]; exact vw_imm _ _
  have kZ : ∀ y ∈ Z, y.length = 1 := by rw [hZ]; exact vw_k (c := intC) (k := 1) fun _ => rfl
  have dZ : ∀ y ∈ Z, y.all dat = true := by rw [hZ]; exact vw_dat
  obtain ⟨R, hR⟩ : ∃ R, R = vw bolC fr := ⟨_, rfl⟩
  obtain ⟨FR, hFR⟩ : ∃ FR, FR = fre 0 fr := ⟨_, rfl⟩
  obtain ⟨MX, hMX⟩ : ∃ MX, MX = mix X.xs fr sz := ⟨_, rfl⟩
  obtain ⟨AL, hAL⟩ : ∃ AL, AL = X.all fr := ⟨_, rfl⟩
  obtain ⟨rt, hrt⟩ : ∃ rt, rt = X.rI fr sz := ⟨_, rfl⟩
  obtain ⟨GR, hGR⟩ : ∃ b, b = X.gr := ⟨_, rfl⟩
  have hMl : MX.length = X.xs.length := by rw [hMX]; exact mix_len _ _ _ hf hs
  have pZ : plainE Z = true := by rw [hZ]; exact vw_plain _ _
  have pR : plainE R = true := by rw [hR]; exact vw_plain _ _
  have hRl : lenI R = (X.xs.length : Int) := by rw [hR, vw_lenI, hf]
  have cc := impl_copyInts_a sz (by omega)
  have co := impl_OuterOf_a X.xs MX X.gap (by omega) (by omega)
  obtain ⟨OV, hOV⟩ : ∃ OV, OV = wrap64 (outer X.xs MX X.gap) := ⟨_, rfl⟩
  simp only [Fx.bx, ← hV0, ← hZ, ← hR, ← hOV, ← hGR] at cc co ⊢
  rw [← hV0] at hV
  rw [← hFR, ← hMX, ← hAL] at hall
  rw [← hFR, ← hrt]
  have hVl : lenI V = (X.xs.length : Int) := by rw [hV0, vw_lenI]
  obtain ⟨R1, hR1⟩ : ∃ R1, R1 = S1.mk (X.xs.length : Int) FR MX AL := ⟨_, rfl⟩
  rw [← hR1] at hall
  refine con_run (c := body Try.f52) fits Try.func52 (by kernel_rfl) (by kernel_rfl) (bl (by rfl)) (by kernel_rfl) fun g F hg hF => ?_
  replace hg : g = G0 Try.prog 3 Try.f52.ntmps := hg
  replace hF : F = FinP 3 _ := hF
  cbv
  first | (refine callRow hg cc (resA_c (resRow (ab := ⟨_, _, Z⟩) rfl kZ dZ) (resA_nil)) iZ ?_; cbv) | (refine callRowP hg cc (resA_c (resRow (ab := ⟨_, _, Z⟩) rfl kZ dZ) (resA_nil)) iZ ?_; cbv)
  refine loop_go hg fits (by kernel_rfl) V (fun t => lc (GItem.c t.1)) zs hV hzl (fun z (s : S1 × List (List AC) × List (List AC)) => [(0, .t (.c (.ptr 0 0 0))), (3, .t (.c (.own 3))), (4, .t (.c (.own 4))), (5, .t (ai (s.1.a))), (33, .t (.c (.view V))), (34, .t (ai (g .ln V))), (35, .t (ai (z)))]) (fun z (s : S1 × List (List AC) × List (List AC)) => [.bx 54 7 [.view V, .imm (.int .i64 X.gap), .imm (.int .i64 X.inner), .imm (.bool GR), .own 1, .own 2, .imm (.int .i64 p)], .rw ⟨3, 1, Z⟩, .rw ⟨4, 1, R⟩, .rw ⟨3, 1, s.2.1⟩, .rw ⟨3, 1, s.2.2⟩]) (fun z (s : S1 × List (List AC) × List (List AC)) => s.2.1 = vw intC s.1.f ∧ s.2.2 = vw intC s.1.m ∧ s.1.i = z ∧ s.1.m.length = X.xs.length ∧ (s.1.f.length : Int) ≤ z) (fun (s : S1 × List (List AC) × List (List AC)) rest => S1.go X.gr s.1 rest) (R1) (⟨0, [], sz, 0⟩, [], Z) hall ⟨rfl, hZ, rfl, hs, by simp⟩ (Wk.weak (wkG [some 0, some 1, some 2, none, some 3] ⟨rfl, rfl, rfl, rfl, rfl, rfl, rfl, trivial⟩ ⟨⟨_, _, rfl, rfl, rfl, rfl, .inr ⟨⟨rfl, rfl, rfl, rfl, rfl, rfl, rfl, trivial⟩, trivial⟩⟩, ⟨_, _, rfl, rfl, rfl, rfl, .inl ⟨rfl, pZ⟩⟩, ⟨_, _, rfl, rfl, rfl, rfl, .inl ⟨rfl, pR⟩⟩, ⟨_, rfl, rfl⟩, ⟨_, _, rfl, rfl, rfl, rfl, .inl ⟨rfl, pZ⟩⟩, trivial⟩ (by decide) (by decide))) (fun z s B hz h0 hi he => ?_) (fun z s x rest B z0 z1 z2 hx hy h0 hi hc e1 hB => ?_)
  rotate_left
  · obtain ⟨⟨i, f, m, a⟩, eF, eM⟩ := s
    obtain ⟨b1, b2, b3, b4, b5⟩ := hi
    dsimp only at b1 b2 b3 b4 b5 h0
    subst b3
    obtain ⟨x, b, s⟩ := x
    obtain ⟨q1, q2, q3⟩ := zip3_at X.xs fr sz i.toNat x b s (by rw [← hzs]; exact hx)
    have pF : plainE eF = true := by rw [b1]; exact vw_plain _ _
    have pM : plainE eM = true := by rw [b2]; exact vw_plain _ _
    have hVx : lenI V = (X.xs.length : Int) := hVl
    have hel : eF.length ≤ 1048576 := by
      rw [b1, vw_length]
      omega
    have hml : i < lenI eM := by rw [b2, vw_lenI, b4, ← hVx]; exact z1
    have hmn : i.toNat < m.length := by rw [b4]; omega
    cbv; rw [hc]; cbv; refine goX hg _ z0 hy rfl ?_; cbv
    refine goY hg z0 (by rw [hRl, ← hVl]; exact z1) fun j hj hjl => ?_
    cbv
    refine ⟨_, by rw [hj, hR]; exact vw_at q2, ?_⟩
    cases b <;> cbv
    · refine goNA1 hg rfl (by decide) hel ?_
      cbv
      refine goY hg z0 hml fun j hj hjl => ?_
      cbv
      refine goN hg ⟨_, by rw [hj, b2]; exact vw_at (List.getElem?_eq_getElem hmn), rfl⟩ ?_
      cbv
      (first | refine callI hg (impl_weightOf_a x GR) rfl (fun Q0 hQ0 => ?_) | refine callIP hg (impl_weightOf_a x GR) rfl (fun Q0 hQ0 => ?_)); cbv
      rw [e1, goAp hg, goSt hg, goAdd hg]
      have hm' : eM.set j [.imm (.int .i64 x.base)] = vw intC (m.set i.toNat x.base) := by rw [vw_set, b2, hj]; rfl
      have hf' : eF ++ [[.imm (.int .i64 i)]] = vw intC (f ++ [i]) := by rw [vw_snoc, b1]; rfl
      exact hB ((⟨i + 1, f ++ [i], m.set i.toNat x.base, wrap64 (a + Q0)⟩, _, _)) _ _ ⟨(by simpa [S1.go, hQ0, hGR] using h0), ⟨hf', hm', rfl, by simpa using b4, by simp; omega⟩⟩ (Wk.weak (wkG [some 0, some 1, some 2, some _, some _] ⟨rfl, rfl, rfl, rfl, rfl, rfl, rfl, trivial⟩ ⟨⟨_, _, rfl, rfl, rfl, rfl, .inr ⟨⟨rfl, rfl, rfl, rfl, rfl, rfl, rfl, trivial⟩, trivial⟩⟩, ⟨_, _, rfl, rfl, rfl, rfl, .inl ⟨rfl, pZ⟩⟩, ⟨_, _, rfl, rfl, rfl, rfl, .inl ⟨rfl, pR⟩⟩, ⟨_, _, rfl, rfl, rfl, rfl, .inl ⟨rfl, hf'.symm ▸ vw_plain _ _⟩⟩, ⟨_, _, rfl, rfl, rfl, rfl, .inl ⟨rfl, hm'.symm ▸ vw_plain _ _⟩⟩, trivial⟩ (by decide) (by decide)))
    · rw [e1]
      exact hB ((⟨i + 1, f, m, a⟩, eF, eM)) _ _ ⟨(by simpa [S1.go] using h0), ⟨b1, b2, rfl, b4, by dsimp only; omega⟩⟩ (Wk.weak (wkG [some 0, some 1, some 2, some 3, some 4] ⟨rfl, rfl, rfl, rfl, rfl, rfl, rfl, trivial⟩ ⟨⟨_, _, rfl, rfl, rfl, rfl, .inr ⟨⟨rfl, rfl, rfl, rfl, rfl, rfl, rfl, trivial⟩, trivial⟩⟩, ⟨_, _, rfl, rfl, rfl, rfl, .inl ⟨rfl, pZ⟩⟩, ⟨_, _, rfl, rfl, rfl, rfl, .inl ⟨rfl, pR⟩⟩, ⟨_, _, rfl, rfl, rfl, rfl, .inl ⟨rfl, pF⟩⟩, ⟨_, _, rfl, rfl, rfl, rfl, .inl ⟨rfl, pM⟩⟩, trivial⟩ (by decide) (by decide)))
  obtain ⟨⟨i, f, m, a⟩, eF, eM⟩ := s
  obtain ⟨b1, b2, b3, b4, b5⟩ := hi
  dsimp only at b1 b2 h0
  rw [hR1] at h0
  simp only [S1.go, S1.mk.injEq] at h0
  obtain ⟨-, h2, h3, h4⟩ := h0
  obtain rfl : FR = f := h2.symm
  obtain rfl : MX = m := h3.symm
  obtain rfl : AL = a := h4.symm
  have keF : ∀ y ∈ eF, y.length = 1 := by rw [b1]; exact vw_k (c := intC) (k := 1) fun _ => rfl
  have keM : ∀ y ∈ eM, y.length = 1 := by rw [b2]; exact vw_k (c := intC) (k := 1) fun _ => rfl
  have deF : ∀ y ∈ eF, y.all dat = true := by rw [b1]; exact vw_dat
  have deM : ∀ y ∈ eM, y.all dat = true := by rw [b2]; exact vw_dat
  have peF : plainE eF = true := by rw [b1]; exact vw_plain _ _
  rw [← b2] at co
  cbv; rw [he]; cbv
  by_cases hn : FR = []
  · have e : g .q .eql (g .ln eF) 0 = true := by rw [goEql hg, goLn hg, b1, hn]; rfl
    rw [e]
    cbv
    exact finH3 hF rfl rfl rfl ⟨rfl, rfl, rfl, rfl, rfl, rfl, rfl, trivial⟩ pZ pR rfl ⟨_, rfl, p, sz, fr, by simp [hn], by rw [hZ, hR], by simp [hn], by simp [hn]⟩
  have e : g .q .eql (g .ln eF) 0 = false := by
    rw [goEql hg, goLn hg, b1, vw_lenI]
    have : FR.length ≠ 0 := fun h => hn (List.eq_nil_of_length_eq_zero h)
    simp; omega
  rw [e]
  cbv
  first | (refine callR hg co (resA_c (resDat rfl) (resA_c (resRow (ab := ⟨_, _, eM⟩) rfl keM deM) (resA_c (resDat rfl) (resA_nil)))) rfl ?_; cbv) | (refine callRP hg co (resA_c (resDat rfl) (resA_c (resRow (ab := ⟨_, _, eM⟩) rfl keM deM) (resA_c (resDat rfl) (resA_nil)))) rfl ?_; cbv)
  obtain ⟨p1, hp1⟩ : ∃ p1, p1 = g .w .add .i64 p 1 := ⟨_, rfl⟩
  rw [← hp1]
  obtain ⟨n, hnn⟩ : ∃ n, n = g .w .sub .i64 X.inner OV := ⟨_, rfl⟩
  rw [← hnn]
  rw [goSub hg] at hnn
  have hrN : rt = if (GR = true ∧ n < 0) ∨ (GR = false ∧ 0 < n) then 0 else sg n := by rw [hGR, hrt, Fx.rI, rstN, hnn, hOV, hMX]
  have t0 : g .q .gtr n 0 = decide (0 < n) := by rw [goGtr hg]
  have t1 : g .q .lss n 0 = decide (n < 0) := goLss hg _ _
  have s0 : sg 0 = 0 := by decide
  have r0 : ∀ q, g .q .gtr n 0 = q → GR = false → rt = sg (if q then 0 else n) := fun q h1 h2 => by
    rw [t0] at h1
    rw [hrN, h2]
    cases q
    · have := of_decide_eq_false h1
      rw [if_neg (by simp; omega)]; rfl
    · have := of_decide_eq_true h1
      rw [if_pos (by simp; omega)]; exact s0.symm
  have r1 : ∀ q, g .q .lss n 0 = q → GR = true → rt = sg (if q then 0 else n) := fun q h1 h2 => by
    rw [t1] at h1
    rw [hrN, h2]
    cases q
    · have := of_decide_eq_false h1
      rw [if_neg (by simp; omega)]; rfl
    · have := of_decide_eq_true h1
      rw [if_pos (by simp; omega)]; exact s0.symm
  obtain ⟨LO, hLO⟩ : ∃ LO, LO = X.low fr rt := ⟨_, rfl⟩
  obtain ⟨HI, hHI⟩ : ∃ HI, HI = X.hig fr rt := ⟨_, rfl⟩
  obtain ⟨VI, hVI⟩ : ∃ VI, VI = X.vio fr rt := ⟨_, rfl⟩
  obtain ⟨WS, hWS⟩ : ∃ WS, WS = X.ws fr := ⟨_, rfl⟩
  obtain ⟨R2, hR2⟩ : ∃ R2, R2 = S2.mk LO HI VI WS := ⟨_, rfl⟩
  have h20 : S2.go X AL rt ⟨[], [], 0, []⟩ FR = R2 := by
    rw [S2.go_eq, hR2, hLO, hHI, hVI, hWS, hFR, hAL]
    simp [Fx.low, Fx.hig, Fx.vio, Fx.ws]
  have heF := b1
  have hFl : FR.length ≤ 12 := by have := fre_len fr 0; rw [← hFR, hf] at this; omega
  have hFl0 : FR.length ≤ 1048576 := by omega
  cases hG : GR <;> cbv
  rotate_left
  cases hq : g .q .lss n 0
  rotate_left 2
  cases hq : g .q .gtr n 0
  all_goals
    cbv
    (first | refine callI hg (impl_signed_a _) rfl (fun R0 hR0 => ?_) | refine callIP hg (impl_signed_a _) rfl (fun R0 hR0 => ?_)); cbv
    obtain rfl : rt = R0 := by rw [hR0]; first | exact r0 _ hq hG | exact r1 _ hq hG
    refine loop_go hg fits (by kernel_rfl) eF (fun x => lc (intC x)) FR heF hFl0 (fun z (s : S2 × List (List AC) × List (List AC) × List (List AC)) => [(0, .t (.c (.ptr 0 0 0))), (3, .t (.c (.view eF))), (5, .t (ai (AL))), (8, .t (ai (rt))), (9, .t (.c (.own 3))), (10, .t (.c (.own 4))), (11, .t (ai (s.1.v))), (12, .t (.c (.own 5))), (112, .t (.c (.view eF))), (113, .t (ai (g .ln eF))), (114, .t (ai (z)))]) (fun z (s : S2 × List (List AC) × List (List AC) × List (List AC)) => [.bx 54 7 [.view V, .imm (.int .i64 X.gap), .imm (.int .i64 X.inner), .imm (.bool GR), .own 1, .own 2, .imm (.int .i64 p1)], .rw ⟨3, 1, Z⟩, .rw ⟨4, 1, R⟩, .rw ⟨3, 1, s.2.1⟩, .rw ⟨3, 1, s.2.2.1⟩, .rw ⟨3, 1, s.2.2.2⟩]) (fun z (s : S2 × List (List AC) × List (List AC) × List (List AC)) => s.2.1 = vw intC s.1.l ∧ s.2.2.1 = vw intC s.1.h ∧ s.2.2.2 = vw intC s.1.w ∧ (s.1.l.length : Int) ≤ z ∧ (s.1.h.length : Int) ≤ z ∧ (s.1.w.length : Int) ≤ z) (fun (s : S2 × List (List AC) × List (List AC) × List (List AC)) rest => S2.go X AL rt s.1 rest) (R2) (⟨[], [], 0, []⟩, [], [], []) h20 ⟨rfl, rfl, rfl, by simp, by simp, by simp⟩ (weak_seal (sl1 3 eF) (seal1 rfl keF deF) (Wk.weak (wkG [some 0, some 1, some 2, none, none, none] ⟨rfl, rfl, rfl, rfl, rfl, rfl, rfl, rfl, rfl, rfl, rfl, trivial⟩ ⟨⟨_, _, rfl, rfl, rfl, rfl, .inr ⟨⟨rfl, rfl, rfl, (by rw [hG]; exact rfl), rfl, rfl, rfl, trivial⟩, trivial⟩⟩, ⟨_, _, rfl, rfl, rfl, rfl, .inl (seal_row pZ)⟩, ⟨_, _, rfl, rfl, rfl, rfl, .inl (seal_row pR)⟩, ⟨_, rfl, rfl⟩, ⟨_, rfl, rfl⟩, ⟨_, rfl, rfl⟩, trivial⟩ (by decide) (by decide)))) (fun z s B hz h0 hi he => ?_) (fun z s x rest B z0 z1 z2 hx hy h0 hi hc e1 hB => ?_)
    rotate_left
    · obtain ⟨⟨lo, hi_, v, ws⟩, eL, eH, eW⟩ := s
      obtain ⟨c1, c2, c3, c4, c5, c6⟩ := hi
      dsimp only at c1 c2 c3 c4 c5 c6 h0
      have hmem : x ∈ fre 0 fr := hFR ▸ List.mem_of_getElem? hx
      have hfm := fre_mem fr 0 (Int.le_refl 0) x hmem
      obtain ⟨y, hyd⟩ : ∃ y, y = itA X.xs x := ⟨_, rfl⟩
      have hVy : V[x.toNat]? = some (lc (GItem.c y)) := by rw [hV0, hyd]; exact vw_at (itA_at hfm.1 (by rw [← hf]; omega))
      have hx0 := hfm.1
      have lL : eL.length ≤ 1048576 := by rw [c1, vw_length]; omega
      have lH : eH.length ≤ 1048576 := by rw [c2, vw_length]; omega
      have lW : eW.length ≤ 1048576 := by rw [c3, vw_length]; omega
      obtain ⟨y0, y1, y2, y3, y4, y5, y6, y7, y8⟩ := y
      have aL : eL ++ [[.imm (.int .i64 x)]] = vw intC (lo ++ [x]) := by rw [vw_snoc, c1]; rfl
      have aH : eH ++ [[.imm (.int .i64 x)]] = vw intC (hi_ ++ [x]) := by rw [vw_snoc, c2]; rfl
      have aW : eW ++ [[.imm (.int .i64 (wgt GR ⟨y0, y1, y2, y3, y4, y5, y6, y7, y8⟩))]] = vw intC (ws ++ [wgt GR ⟨y0, y1, y2, y3, y4, y5, y6, y7, y8⟩]) := by rw [vw_snoc, c3]; rfl
      have pL : plainE eL = true := by rw [c1]; exact vw_plain _ _
      have pH : plainE eH = true := by rw [c2]; exact vw_plain _ _
      cbv; rw [hc]; cbv; refine goX hg _ z0 hy rfl ?_; cbv
      refine goX hg _ hx0 hVy rfl ?_
      cbv
      (first | refine callI hg (impl_weightOf_a ⟨y0, y1, y2, y3, y4, y5, y6, y7, y8⟩ GR) rfl (fun Q0 hQ0 => ?_) | refine callIP hg (impl_weightOf_a ⟨y0, y1, y2, y3, y4, y5, y6, y7, y8⟩ GR) rfl (fun Q0 hQ0 => ?_)); cbv
      refine goNA1 hg rfl (by decide) lW ?_
      cbv
      have hT1 : g .q .lss (g .w .add .i64 (g .w .mul .i64 y0 AL) (g .w .mul .i64 rt Q0)) (g .w .mul .i64 y1 AL) = lowB GR AL rt ⟨y0, y1, y2, y3, y4, y5, y6, y7, y8⟩ := by simp only [goLss hg, goAdd hg, goMul hg, hQ0]; rfl
      rw [hT1]
      have hgo : S2.go X AL rt ⟨if lowB GR AL rt ⟨y0, y1, y2, y3, y4, y5, y6, y7, y8⟩ then lo ++ [x] else lo, if !lowB GR AL rt ⟨y0, y1, y2, y3, y4, y5, y6, y7, y8⟩ && higB GR AL rt ⟨y0, y1, y2, y3, y4, y5, y6, y7, y8⟩ then hi_ ++ [x] else hi_, vioI GR AL rt v ⟨y0, y1, y2, y3, y4, y5, y6, y7, y8⟩, ws ++ [wgt GR ⟨y0, y1, y2, y3, y4, y5, y6, y7, y8⟩]⟩ rest = R2 := by rw [hyd, hGR]; exact h0
      cases hl : lowB GR AL rt ⟨y0, y1, y2, y3, y4, y5, y6, y7, y8⟩
      · cbv
        cases h2 : g .q .geq y2 0
        · have hh : higB GR AL rt ⟨y0, y1, y2, y3, y4, y5, y6, y7, y8⟩ = false := by
            rw [goGeq hg] at h2
            have := of_decide_eq_false h2
            simp [higB]; omega
          have hv : vioI GR AL rt v ⟨y0, y1, y2, y3, y4, y5, y6, y7, y8⟩ = v := by unfold vioI; rw [hl, hh]; rfl
          rw [hl, hh, hv] at hgo
          cbv
          rw [e1, goAp hg, hQ0, aW]
          exact hB ((⟨lo, hi_, v, ws ++ [wgt GR ⟨y0, y1, y2, y3, y4, y5, y6, y7, y8⟩]⟩, eL, eH, _)) _ _ ⟨hgo, ⟨c1, c2, rfl, by dsimp only; omega, by dsimp only; omega, by simp; omega⟩⟩ (Wk.weak (wkG [some 0, some 1, some 2, some 3, some 4, some _] ⟨rfl, rfl, rfl, rfl, rfl, rfl, rfl, rfl, rfl, rfl, rfl, trivial⟩ ⟨⟨_, _, rfl, rfl, rfl, rfl, .inr ⟨⟨rfl, rfl, rfl, rfl, rfl, rfl, rfl, trivial⟩, trivial⟩⟩, ⟨_, _, rfl, rfl, rfl, rfl, .inl ⟨rfl, pZ⟩⟩, ⟨_, _, rfl, rfl, rfl, rfl, .inl ⟨rfl, pR⟩⟩, ⟨_, _, rfl, rfl, rfl, rfl, .inl ⟨rfl, pL⟩⟩, ⟨_, _, rfl, rfl, rfl, rfl, .inl ⟨rfl, pH⟩⟩, ⟨_, _, rfl, rfl, rfl, rfl, .inl ⟨rfl, vw_plain _ _⟩⟩, trivial⟩ (by decide) (by decide)))
        · cbv
          (first | refine callI hg (impl_upper_a ⟨y0, y1, y2, y3, y4, y5, y6, y7, y8⟩) rfl (fun Q1 hQ1 => ?_) | refine callIP hg (impl_upper_a ⟨y0, y1, y2, y3, y4, y5, y6, y7, y8⟩) rfl (fun Q1 hQ1 => ?_)); cbv
          have h2' : (decide (0 ≤ y2)) = true := by rw [goGeq hg] at h2; exact h2
          have hT2 : g .q .gtr (g .w .add .i64 (g .w .mul .i64 y0 AL) (g .w .mul .i64 rt Q0)) (g .w .mul .i64 Q1 AL) = higB GR AL rt ⟨y0, y1, y2, y3, y4, y5, y6, y7, y8⟩ := by simp only [goGtr hg, goAdd hg, goMul hg, hQ0, hQ1]; unfold higB; rw [show (decide (0 ≤ GItem.most ⟨y0, y1, y2, y3, y4, y5, y6, y7, y8⟩)) = true from h2', Bool.true_and]; rfl
          rw [hT2]
          cases hh : higB GR AL rt ⟨y0, y1, y2, y3, y4, y5, y6, y7, y8⟩
          · have hv : vioI GR AL rt v ⟨y0, y1, y2, y3, y4, y5, y6, y7, y8⟩ = v := by unfold vioI; rw [hl, hh]; rfl
            rw [hl, hh, hv] at hgo
            cbv
            rw [e1, goAp hg, hQ0, aW]
            exact hB ((⟨lo, hi_, v, ws ++ [wgt GR ⟨y0, y1, y2, y3, y4, y5, y6, y7, y8⟩]⟩, eL, eH, _)) _ _ ⟨hgo, ⟨c1, c2, rfl, by dsimp only; omega, by dsimp only; omega, by simp; omega⟩⟩ (Wk.weak (wkG [some 0, some 1, some 2, some 3, some 4, some _] ⟨rfl, rfl, rfl, rfl, rfl, rfl, rfl, rfl, rfl, rfl, rfl, trivial⟩ ⟨⟨_, _, rfl, rfl, rfl, rfl, .inr ⟨⟨rfl, rfl, rfl, rfl, rfl, rfl, rfl, trivial⟩, trivial⟩⟩, ⟨_, _, rfl, rfl, rfl, rfl, .inl ⟨rfl, pZ⟩⟩, ⟨_, _, rfl, rfl, rfl, rfl, .inl ⟨rfl, pR⟩⟩, ⟨_, _, rfl, rfl, rfl, rfl, .inl ⟨rfl, pL⟩⟩, ⟨_, _, rfl, rfl, rfl, rfl, .inl ⟨rfl, pH⟩⟩, ⟨_, _, rfl, rfl, rfl, rfl, .inl ⟨rfl, vw_plain _ _⟩⟩, trivial⟩ (by decide) (by decide)))
          · cbv
            refine goNA1 hg rfl (by decide) lH ?_
            cbv
            (first | refine callI hg (impl_upper_a ⟨y0, y1, y2, y3, y4, y5, y6, y7, y8⟩) rfl (fun Q2 hQ2 => ?_) | refine callIP hg (impl_upper_a ⟨y0, y1, y2, y3, y4, y5, y6, y7, y8⟩) rfl (fun Q2 hQ2 => ?_)); cbv
            have hv : g .w .sub .i64 v (g .w .sub .i64 (g .w .add .i64 (g .w .mul .i64 y0 AL) (g .w .mul .i64 rt Q0)) (g .w .mul .i64 Q2 AL)) = vioI GR AL rt v ⟨y0, y1, y2, y3, y4, y5, y6, y7, y8⟩ := by unfold vioI; rw [hl, hh]; simp only [goSub hg, goAdd hg, goMul hg, hQ0, hQ2]; rfl
            rw [hl, hh] at hgo
            rw [e1, hv]
            simp only [goAp hg, hQ0, aW, aH]
            exact hB ((⟨lo, hi_ ++ [x], vioI GR AL rt v ⟨y0, y1, y2, y3, y4, y5, y6, y7, y8⟩, ws ++ [wgt GR ⟨y0, y1, y2, y3, y4, y5, y6, y7, y8⟩]⟩, eL, _, _)) _ _ ⟨hgo, ⟨c1, rfl, rfl, by dsimp only; omega, by simp; omega, by simp; omega⟩⟩ (Wk.weak (wkG [some 0, some 1, some 2, some 3, some _, some _] ⟨rfl, rfl, rfl, rfl, rfl, rfl, rfl, rfl, rfl, rfl, rfl, trivial⟩ ⟨⟨_, _, rfl, rfl, rfl, rfl, .inr ⟨⟨rfl, rfl, rfl, rfl, rfl, rfl, rfl, trivial⟩, trivial⟩⟩, ⟨_, _, rfl, rfl, rfl, rfl, .inl ⟨rfl, pZ⟩⟩, ⟨_, _, rfl, rfl, rfl, rfl, .inl ⟨rfl, pR⟩⟩, ⟨_, _, rfl, rfl, rfl, rfl, .inl ⟨rfl, pL⟩⟩, ⟨_, _, rfl, rfl, rfl, rfl, .inl ⟨rfl, vw_plain _ _⟩⟩, ⟨_, _, rfl, rfl, rfl, rfl, .inl ⟨rfl, vw_plain _ _⟩⟩, trivial⟩ (by decide) (by decide)))
      · cbv
        refine goNA1 hg rfl (by decide) lL ?_
        cbv
        have hv : g .w .add .i64 v (g .w .sub .i64 (g .w .mul .i64 y1 AL) (g .w .add .i64 (g .w .mul .i64 y0 AL) (g .w .mul .i64 rt Q0))) = vioI GR AL rt v ⟨y0, y1, y2, y3, y4, y5, y6, y7, y8⟩ := by unfold vioI; rw [hl]; simp only [goSub hg, goAdd hg, goMul hg, hQ0]; rfl
        rw [hl] at hgo
        rw [e1, hv]
        simp only [goAp hg, hQ0, aW, aL]
        exact hB ((⟨lo ++ [x], hi_, vioI GR AL rt v ⟨y0, y1, y2, y3, y4, y5, y6, y7, y8⟩, ws ++ [wgt GR ⟨y0, y1, y2, y3, y4, y5, y6, y7, y8⟩]⟩, _, eH, _)) _ _ ⟨hgo, ⟨rfl, c2, rfl, by simp; omega, by dsimp only; omega, by simp; omega⟩⟩ (Wk.weak (wkG [some 0, some 1, some 2, some _, some 4, some _] ⟨rfl, rfl, rfl, rfl, rfl, rfl, rfl, rfl, rfl, rfl, rfl, trivial⟩ ⟨⟨_, _, rfl, rfl, rfl, rfl, .inr ⟨⟨rfl, rfl, rfl, rfl, rfl, rfl, rfl, trivial⟩, trivial⟩⟩, ⟨_, _, rfl, rfl, rfl, rfl, .inl ⟨rfl, pZ⟩⟩, ⟨_, _, rfl, rfl, rfl, rfl, .inl ⟨rfl, pR⟩⟩, ⟨_, _, rfl, rfl, rfl, rfl, .inl ⟨rfl, vw_plain _ _⟩⟩, ⟨_, _, rfl, rfl, rfl, rfl, .inl ⟨rfl, pH⟩⟩, ⟨_, _, rfl, rfl, rfl, rfl, .inl ⟨rfl, vw_plain _ _⟩⟩, trivial⟩ (by decide) (by decide)))
    · obtain ⟨⟨lo, hi_, v, ws⟩, eL, eH, eW⟩ := s
      obtain ⟨c1, c2, c3, -, -, -⟩ := hi
      dsimp only at c1 c2 c3 h0
      rw [hR2] at h0
      simp only [S2.go, S2.mk.injEq] at h0
      obtain ⟨g1, g2, g3, g4⟩ := h0
      obtain rfl : LO = lo := g1.symm
      obtain rfl : HI = hi_ := g2.symm
      obtain rfl : VI = v := g3.symm
      obtain rfl : WS = ws := g4.symm
      have heL := c1
      have heH := c2
      have pL : plainE eL = true := by rw [c1]; exact vw_plain _ _
      have pH : plainE eH = true := by rw [c2]; exact vw_plain _ _
      have keL : ∀ y ∈ eL, y.length = 1 := by rw [c1]; exact vw_k (c := intC) (k := 1) fun _ => rfl
      have keH : ∀ y ∈ eH, y.length = 1 := by rw [c2]; exact vw_k (c := intC) (k := 1) fun _ => rfl
      have keW : ∀ y ∈ eW, y.length = 1 := by rw [c3]; exact vw_k (c := intC) (k := 1) fun _ => rfl
      have deL : ∀ y ∈ eL, y.all dat = true := by rw [c1]; exact vw_dat
      have deH : ∀ y ∈ eH, y.all dat = true := by rw [c2]; exact vw_dat
      have deW : ∀ y ∈ eW, y.all dat = true := by rw [c3]; exact vw_dat
      have hLl : LO.length ≤ 1048576 := by have := List.length_filter_le (fun i => lowB X.gr (X.all fr) rt (itA X.xs i)) FR; rw [hLO, Fx.low, ← hFR]; omega
      have hHl : HI.length ≤ 1048576 := by have := List.length_filter_le (fun i => !lowB X.gr (X.all fr) rt (itA X.xs i) && higB X.gr (X.all fr) rt (itA X.xs i)) FR; rw [hHI, Fx.hig, ← hFR]; omega
      have hte : g .q .eql (g .w .add .i64 (g .ln eL) (g .ln eH)) 0 = decide (LO = [] ∧ HI = []) := by
        rw [goEql hg, goAdd hg, goLn hg, goLn hg, c1, c2, vw_lenI, vw_lenI]
        exact sum_test hLl hHl
      cbv; rw [he]; cbv
      rw [hte]
      by_cases hlh : LO = [] ∧ HI = []
      · rw [decide_eq_true hlh]
        cbv
        have hsl : (shr rt WS).length = FR.length := by rw [hWS, hFR]; exact X.shr_len hX hf rt
        have cs := impl_Shares_a rt WS (by rw [hWS, Fx.ws, List.length_map, ← hFR]; omega)
        obtain ⟨ES, hES'⟩ : ∃ ES, ES = vw intC (shr rt WS) := ⟨_, rfl⟩
        obtain ⟨qs, hqs⟩ : ∃ qs, qs = FR.zip (shr rt WS) := ⟨_, rfl⟩
        have hES : ES = qs.map fun p => lc (intC p.2) := by
          rw [hES', hqs, vw]
          conv => lhs; rw [← List.map_snd_zip (l₁ := FR) (l₂ := shr rt WS) (by omega)]
          rw [List.map_map]; rfl
        have hql : qs.length ≤ 1048576 := by rw [hqs, List.length_zip]; omega
        have iES : immE ES = true := by rw [hES']; exact vw_imm _ _
        have kES : ∀ y ∈ ES, y.length = 1 := by rw [hES']; exact vw_k (c := intC) (k := 1) fun _ => rfl
        have dES : ∀ y ∈ ES, y.all dat = true := by rw [hES']; exact vw_dat
        rw [← c3, ← hES'] at cs
        obtain ⟨R3, hR3⟩ : ∃ R3, R3 = S3.go ⟨sz, fr⟩ (X.shs fr rt) := ⟨_, rfl⟩
        have h30 : S3.go ⟨sz, fr⟩ (qs.map fun p => (p.1, cl (wrap64 ((itA X.xs p.1).base + p.2)))) = R3 := by rw [hR3, Fx.shs, hqs, ← hFR, ← hWS]
        have hset : X.setI fr rt = X.shs fr rt := by unfold Fx.setI; rw [← hLO, ← hHI, if_pos hlh]
        first | (refine callRow hg cs (resA_c (resDat rfl) (resA_c (resRow (ab := ⟨_, _, eW⟩) rfl keW deW) (resA_nil))) iES ?_; cbv) | (refine callRowP hg cs (resA_c (resDat rfl) (resA_c (resRow (ab := ⟨_, _, eW⟩) rfl keW deW) (resA_nil))) iES ?_; cbv)
        refine loop_go hg fits (by kernel_rfl) ES (fun p => lc (intC p.2)) qs hES hql (fun z (s : S3 × List (List AC) × List (List AC)) => [(0, .t (.c (.ptr 0 0 0))), (3, .t (.c (.view eF))), (195, .t (.c (.view ES))), (196, .t (ai (g .ln ES))), (197, .t (ai (z)))]) (fun z (s : S3 × List (List AC) × List (List AC)) => [.bx 54 7 [.view V, .imm (.int .i64 X.gap), .imm (.int .i64 X.inner), .imm (.bool GR), .own 1, .own 2, .imm (.int .i64 p1)], .rw ⟨3, 1, s.2.1⟩, .rw ⟨4, 1, s.2.2⟩]) (fun z (s : S3 × List (List AC) × List (List AC)) => s.2.1 = vw intC s.1.s ∧ s.2.2 = vw bolC s.1.f ∧ s.1.s.length = X.xs.length ∧ s.1.f.length = X.xs.length) (fun (s : S3 × List (List AC) × List (List AC)) rest => S3.go s.1 (rest.map fun p => (p.1, cl (wrap64 ((itA X.xs p.1).base + p.2))))) (R3) (⟨sz, fr⟩, Z, R) h30 ⟨hZ, hR, hs, hf⟩ (weak_seal (sl1 6 ES) (seal1 rfl kES dES) (Wk.weak (wkG [some 0, some 1, some 2] ⟨rfl, rfl, rfl, rfl, rfl, trivial⟩ ⟨⟨_, _, rfl, rfl, rfl, rfl, .inr ⟨⟨rfl, rfl, rfl, rfl, rfl, rfl, rfl, trivial⟩, trivial⟩⟩, ⟨_, _, rfl, rfl, rfl, rfl, .inl (seal_row pZ)⟩, ⟨_, _, rfl, rfl, rfl, rfl, .inl (seal_row pR)⟩, trivial⟩ (by decide) (by decide)))) (fun z s B hz h0 hi he => ?_) (fun z s x rest B z0 z1 z2 hx hy h0 hi hc e1 hB => ?_)
        · obtain ⟨⟨q, w⟩, eZ, eR⟩ := s
          obtain ⟨k1, k2, k3, k4⟩ := hi
          dsimp only at k1 k2 k3 k4 h0
          cbv; rw [he]; cbv
          have hfin : S3.mk q w = R3 := h0
          rw [hR3] at hfin
          simp only [S3.go, S3.mk.injEq, ← hset] at hfin
          exact finH3 hF rfl rfl rfl ⟨rfl, rfl, rfl, rfl, rfl, rfl, rfl, trivial⟩ (by rw [k1]; exact vw_plain _ _) (by rw [k2]; exact vw_plain _ _) rfl ⟨_, rfl, p1, q, w, by simp [hn], by rw [k1, k2], by rw [if_neg hn]; exact hfin.1.symm ▸ rfl, by rw [if_neg hn]; exact hfin.2.symm ▸ rfl⟩
        · obtain ⟨i, sh⟩ := x
          have hx2 : FR[z.toNat]? = some i := by
            rw [hqs, List.getElem?_zip_eq_some] at hx
            exact hx.1
          have hmem : i ∈ fre 0 fr := hFR ▸ List.mem_of_getElem? hx2
          have hFz : eF[z.toNat]? = some (lc (intC i)) := by rw [b1]; exact vw_at hx2
          obtain ⟨⟨q, w⟩, eZ, eR⟩ := s
          obtain ⟨k1, k2, k3, k4⟩ := hi
          dsimp only at k1 k2 k3 k4 h0
          have hfm := fre_mem fr 0 (Int.le_refl 0) i hmem
          have hi0 := hfm.1
          obtain ⟨y, hyd⟩ : ∃ y, y = itA X.xs i := ⟨_, rfl⟩
          have hVy : V[i.toNat]? = some (lc (GItem.c y)) := by rw [hV0, hyd]; exact vw_at (itA_at hfm.1 (by rw [← hf]; omega))
          have hiR : i < lenI eR := by rw [k2, vw_lenI, k4, ← hf]; omega
          have hiZ : i < lenI eZ := by rw [k1, vw_lenI, k3, ← hf]; omega
          have hiw : i.toNat < w.length := by rw [k4, ← hf]; omega
          have hiq : i.toNat < q.length := by rw [k3, ← hf]; omega
          have sR : eR.set i.toNat [.imm (.bool true)] = vw bolC (w.set i.toNat true) := by rw [vw_set, k2]; rfl
          have sZ : ∀ u : Int, eZ.set i.toNat [.imm (.int .i64 u)] = vw intC (q.set i.toNat u) := fun u => by rw [vw_set, k1]; rfl
          obtain ⟨y0, y1, y2, y3, y4, y5, y6, y7, y8⟩ := y
          cbv; rw [hc]; cbv; refine goX hg _ z0 hy rfl ?_; cbv
          refine goX hg _ z0 hFz rfl ?_
          cbv
          refine goY hg hi0 hiR fun j hj hjl => ?_
          cbv
          refine goN hg ⟨_, by rw [hj, k2]; exact vw_at (List.getElem?_eq_getElem hiw), rfl⟩ ?_
          cbv
          refine goX hg _ hi0 hVy rfl ?_
          cbv
          (first | refine callI hg (impl_Clamped_a _) rfl (fun Q0 hQ0 => ?_) | refine callIP hg (impl_Clamped_a _) rfl (fun Q0 hQ0 => ?_)); cbv
          refine goY hg hi0 hiZ fun j2 hj2 hjl2 => ?_
          cbv
          refine goN hg ⟨_, by rw [hj2, k1]; exact vw_at (List.getElem?_eq_getElem hiq), rfl⟩ ?_
          cbv
          rw [e1]
          simp only [goSt hg]
          subst hj hj2
          exact hB ((⟨q.set i.toNat Q0, w.set i.toNat true⟩, _, _)) _ _ ⟨(by rw [hQ0, goAdd hg]; rw [← h0, List.map_cons, S3.go_cons, ← hyd]), ⟨sZ _, sR, by simpa using k3, by simpa using k4⟩⟩ (Wk.weak (wkG [some 0, some 1, some 2] ⟨rfl, rfl, rfl, rfl, rfl, trivial⟩ ⟨⟨_, _, rfl, rfl, rfl, rfl, .inr ⟨⟨rfl, rfl, rfl, rfl, rfl, rfl, rfl, trivial⟩, trivial⟩⟩, ⟨_, _, rfl, rfl, rfl, rfl, .inl ⟨rfl, (sZ _).symm ▸ vw_plain _ _⟩⟩, ⟨_, _, rfl, rfl, rfl, rfl, .inl ⟨rfl, sR.symm ▸ vw_plain _ _⟩⟩, trivial⟩ (by decide) (by decide)))
      · rw [decide_eq_false hlh]
        cbv
        have tv : g .q .geq VI 0 = decide (0 ≤ VI) := goGeq hg _ _
        have tw : g .q .leq VI 0 = decide (VI ≤ 0) := goLeq hg _ _
        have hlh' : ¬ (X.low fr rt = [] ∧ X.hig fr rt = []) := by rw [← hLO, ← hHI]; exact hlh
        obtain ⟨R4, hR4⟩ : ∃ R4, R4 = S3.mk (setz (X.setI fr rt) sz) (setb ((X.setI fr rt).map (·.1)) fr) := ⟨_, rfl⟩
        by_cases v0 : 0 ≤ VI
        · rw [tv, decide_eq_true v0]
          cbv
          obtain ⟨R3, hR3⟩ : ∃ R3, R3 = S3.go ⟨sz, fr⟩ (LO.map fun i => (i, (itA X.xs i).least)) := ⟨_, rfl⟩
          refine loop_go hg fits (by kernel_rfl) eL (fun x => lc (intC x)) LO heL hLl (fun z (s : S3 × List (List AC) × List (List AC)) => [(0, .t (.c (.ptr 0 0 0))), (10, .t (.c (.own 3))), (11, .t (ai (VI))), (232, .t (.c (.view eL))), (233, .t (ai (g .ln eL))), (234, .t (ai (z)))]) (fun z (s : S3 × List (List AC) × List (List AC)) => [.bx 54 7 [.view V, .imm (.int .i64 X.gap), .imm (.int .i64 X.inner), .imm (.bool GR), .own 1, .own 2, .imm (.int .i64 p1)], .rw ⟨3, 1, s.2.1⟩, .rw ⟨4, 1, s.2.2⟩, .rw ⟨3, 1, eH⟩]) (fun z (s : S3 × List (List AC) × List (List AC)) => s.2.1 = vw intC s.1.s ∧ s.2.2 = vw bolC s.1.f ∧ s.1.s.length = X.xs.length ∧ s.1.f.length = X.xs.length) (fun (s : S3 × List (List AC) × List (List AC)) rest => S3.go s.1 (rest.map fun i => (i, (itA X.xs i).least))) (R3) (⟨sz, fr⟩, Z, R) hR3.symm ⟨hZ, hR, hs, hf⟩ (weak_seal (sl1 3 eL) (seal1 rfl keL deL) (Wk.weak (wkG [some 0, some 1, some 2, some 4] ⟨rfl, rfl, rfl, rfl, rfl, rfl, trivial⟩ ⟨⟨_, _, rfl, rfl, rfl, rfl, .inr ⟨⟨rfl, rfl, rfl, rfl, rfl, rfl, rfl, trivial⟩, trivial⟩⟩, ⟨_, _, rfl, rfl, rfl, rfl, .inl (seal_row pZ)⟩, ⟨_, _, rfl, rfl, rfl, rfl, .inl (seal_row pR)⟩, ⟨_, _, rfl, rfl, rfl, rfl, .inl (seal_row pH)⟩, trivial⟩ (by decide) (by decide)))) (fun z s B hz h0 hi he => ?_) (fun z s x rest B z0 z1 z2 hx hy h0 hi hc e1 hB => ?_)
          rotate_left
          · have hmem : x ∈ fre 0 fr := by
              have := List.mem_of_getElem? hx
              rw [hLO, Fx.low, ← hFR] at this
              exact hFR ▸ (List.mem_filter.1 this).1
            obtain ⟨⟨q, w⟩, eZ, eR⟩ := s
            obtain ⟨k1, k2, k3, k4⟩ := hi
            dsimp only at k1 k2 k3 k4 h0
            have hfm := fre_mem fr 0 (Int.le_refl 0) x hmem
            have hi0 := hfm.1
            obtain ⟨y, hyd⟩ : ∃ y, y = itA X.xs x := ⟨_, rfl⟩
            have hVy : V[x.toNat]? = some (lc (GItem.c y)) := by rw [hV0, hyd]; exact vw_at (itA_at hfm.1 (by rw [← hf]; omega))
            have hiR : x < lenI eR := by rw [k2, vw_lenI, k4, ← hf]; omega
            have hiZ : x < lenI eZ := by rw [k1, vw_lenI, k3, ← hf]; omega
            have hiw : x.toNat < w.length := by rw [k4, ← hf]; omega
            have hiq : x.toNat < q.length := by rw [k3, ← hf]; omega
            have sR : eR.set x.toNat [.imm (.bool true)] = vw bolC (w.set x.toNat true) := by rw [vw_set, k2]; rfl
            have sZ : ∀ u : Int, eZ.set x.toNat [.imm (.int .i64 u)] = vw intC (q.set x.toNat u) := fun u => by rw [vw_set, k1]; rfl
            obtain ⟨y0, y1, y2, y3, y4, y5, y6, y7, y8⟩ := y
            cbv; rw [hc]; cbv; refine goX hg _ z0 hy rfl ?_; cbv
            refine goY hg hi0 hiR fun j hj hjl => ?_
            cbv
            refine goN hg ⟨_, by rw [hj, k2]; exact vw_at (List.getElem?_eq_getElem hiw), rfl⟩ ?_
            cbv
            refine goX hg _ hi0 hVy rfl ?_
            cbv
            refine goY hg hi0 hiZ fun j2 hj2 hjl2 => ?_
            cbv
            refine goN hg ⟨_, by rw [hj2, k1]; exact vw_at (List.getElem?_eq_getElem hiq), rfl⟩ ?_
            cbv
            rw [e1]
            simp only [goSt hg]
            subst hj hj2
            exact hB ((⟨q.set x.toNat y1, w.set x.toNat true⟩, _, _)) _ _ ⟨(by rw [show y1 = (itA X.xs x).least by rw [← hyd]]; exact h0), ⟨sZ _, sR, by simpa using k3, by simpa using k4⟩⟩ (Wk.weak (wkG [some 0, some 1, some 2, some 3] ⟨rfl, rfl, rfl, rfl, rfl, rfl, trivial⟩ ⟨⟨_, _, rfl, rfl, rfl, rfl, .inr ⟨⟨rfl, rfl, rfl, rfl, rfl, rfl, rfl, trivial⟩, trivial⟩⟩, ⟨_, _, rfl, rfl, rfl, rfl, .inl ⟨rfl, (sZ _).symm ▸ vw_plain _ _⟩⟩, ⟨_, _, rfl, rfl, rfl, rfl, .inl ⟨rfl, sR.symm ▸ vw_plain _ _⟩⟩, ⟨_, _, rfl, rfl, rfl, rfl, .inl ⟨rfl, pH⟩⟩, trivial⟩ (by decide) (by decide)))
          · obtain ⟨⟨q, w⟩, eZ, eR⟩ := s
            obtain ⟨k1, k2, k3, k4⟩ := hi
            dsimp only at k1 k2 k3 k4 h0
            have pq : plainE eZ = true := by rw [k1]; exact vw_plain _ _
            have pw : plainE eR = true := by rw [k2]; exact vw_plain _ _
            have hmid : S3.mk q w = R3 := h0
            cbv; rw [he]; cbv
            by_cases v1 : VI ≤ 0
            · rw [tw, decide_eq_true v1]
              cbv
              have h50 : S3.go ⟨q, w⟩ (HI.map fun i => (i, uppI (itA X.xs i))) = R4 := by
                rw [hmid, hR3, hR4]
                exact X.setI_two fr rt sz hlh' _ _ (by rw [← hVI, if_pos v0, hLO]) (by rw [← hVI, if_pos v1, hHI])
              refine loop_go hg fits (by kernel_rfl) eH (fun x => lc (intC x)) HI heH hHl (fun z (s : S3 × List (List AC) × List (List AC)) => [(0, .t (.c (.ptr 0 0 0))), (261, .t (.c (.view eH))), (262, .t (ai (g .ln eH))), (263, .t (ai (z)))]) (fun z (s : S3 × List (List AC) × List (List AC)) => [.bx 54 7 [.view V, .imm (.int .i64 X.gap), .imm (.int .i64 X.inner), .imm (.bool GR), .own 1, .own 2, .imm (.int .i64 p1)], .rw ⟨3, 1, s.2.1⟩, .rw ⟨4, 1, s.2.2⟩]) (fun z (s : S3 × List (List AC) × List (List AC)) => s.2.1 = vw intC s.1.s ∧ s.2.2 = vw bolC s.1.f ∧ s.1.s.length = X.xs.length ∧ s.1.f.length = X.xs.length) (fun (s : S3 × List (List AC) × List (List AC)) rest => S3.go s.1 (rest.map fun i => (i, uppI (itA X.xs i)))) (R4) (⟨q, w⟩, eZ, eR) h50 ⟨k1, k2, k3, k4⟩ (weak_seal (sl1 3 eH) (seal1 rfl keH deH) (Wk.weak (wkG [some 0, some 1, some 2] ⟨rfl, rfl, rfl, rfl, trivial⟩ ⟨⟨_, _, rfl, rfl, rfl, rfl, .inr ⟨⟨rfl, rfl, rfl, rfl, rfl, rfl, rfl, trivial⟩, trivial⟩⟩, ⟨_, _, rfl, rfl, rfl, rfl, .inl (seal_row pq)⟩, ⟨_, _, rfl, rfl, rfl, rfl, .inl (seal_row pw)⟩, trivial⟩ (by decide) (by decide)))) (fun z s B hz h0 hi he => ?_) (fun z s x rest B z0 z1 z2 hx hy h0 hi hc e1 hB => ?_)
              rotate_left
              · have hmem : x ∈ fre 0 fr := by
                  have := List.mem_of_getElem? hx
                  rw [hHI, Fx.hig, ← hFR] at this
                  exact hFR ▸ (List.mem_filter.1 this).1
                obtain ⟨⟨q, w⟩, eZ, eR⟩ := s
                obtain ⟨k1, k2, k3, k4⟩ := hi
                dsimp only at k1 k2 k3 k4 h0
                have hfm := fre_mem fr 0 (Int.le_refl 0) x hmem
                have hi0 := hfm.1
                obtain ⟨y, hyd⟩ : ∃ y, y = itA X.xs x := ⟨_, rfl⟩
                have hVy : V[x.toNat]? = some (lc (GItem.c y)) := by rw [hV0, hyd]; exact vw_at (itA_at hfm.1 (by rw [← hf]; omega))
                have hiR : x < lenI eR := by rw [k2, vw_lenI, k4, ← hf]; omega
                have hiZ : x < lenI eZ := by rw [k1, vw_lenI, k3, ← hf]; omega
                have hiw : x.toNat < w.length := by rw [k4, ← hf]; omega
                have hiq : x.toNat < q.length := by rw [k3, ← hf]; omega
                have sR : eR.set x.toNat [.imm (.bool true)] = vw bolC (w.set x.toNat true) := by rw [vw_set, k2]; rfl
                have sZ : ∀ u : Int, eZ.set x.toNat [.imm (.int .i64 u)] = vw intC (q.set x.toNat u) := fun u => by rw [vw_set, k1]; rfl
                obtain ⟨y0, y1, y2, y3, y4, y5, y6, y7, y8⟩ := y
                cbv; rw [hc]; cbv; refine goX hg _ z0 hy rfl ?_; cbv
                refine goY hg hi0 hiR fun j hj hjl => ?_
                cbv
                refine goN hg ⟨_, by rw [hj, k2]; exact vw_at (List.getElem?_eq_getElem hiw), rfl⟩ ?_
                cbv
                refine goX hg _ hi0 hVy rfl ?_
                cbv
                (first | refine callI hg (impl_upper_a ⟨y0, y1, y2, y3, y4, y5, y6, y7, y8⟩) rfl (fun Q0 hQ0 => ?_) | refine callIP hg (impl_upper_a ⟨y0, y1, y2, y3, y4, y5, y6, y7, y8⟩) rfl (fun Q0 hQ0 => ?_)); cbv
                refine goY hg hi0 hiZ fun j2 hj2 hjl2 => ?_
                cbv
                refine goN hg ⟨_, by rw [hj2, k1]; exact vw_at (List.getElem?_eq_getElem hiq), rfl⟩ ?_
                cbv
                rw [e1]
                simp only [goSt hg]
                subst hj hj2
                exact hB ((⟨q.set x.toNat Q0, w.set x.toNat true⟩, _, _)) _ _ ⟨(by rw [hQ0, hyd]; exact h0), ⟨sZ _, sR, by simpa using k3, by simpa using k4⟩⟩ (Wk.weak (wkG [some 0, some 1, some 2] ⟨rfl, rfl, rfl, rfl, trivial⟩ ⟨⟨_, _, rfl, rfl, rfl, rfl, .inr ⟨⟨rfl, rfl, rfl, rfl, rfl, rfl, rfl, trivial⟩, trivial⟩⟩, ⟨_, _, rfl, rfl, rfl, rfl, .inl ⟨rfl, (sZ _).symm ▸ vw_plain _ _⟩⟩, ⟨_, _, rfl, rfl, rfl, rfl, .inl ⟨rfl, sR.symm ▸ vw_plain _ _⟩⟩, trivial⟩ (by decide) (by decide)))
              · obtain ⟨⟨q, w⟩, eZ, eR⟩ := s
                obtain ⟨k1, k2, k3, k4⟩ := hi
                dsimp only at k1 k2 k3 k4 h0
                cbv; rw [he]; cbv
                have hfin : S3.mk q w = R4 := h0
                rw [hR4] at hfin
                simp only [S3.mk.injEq] at hfin
                exact finH3 hF rfl rfl rfl ⟨rfl, rfl, rfl, rfl, rfl, rfl, rfl, trivial⟩ (by rw [k1]; exact vw_plain _ _) (by rw [k2]; exact vw_plain _ _) rfl ⟨_, rfl, p1, q, w, by simp [hn], by rw [k1, k2], by rw [if_neg hn]; exact hfin.1, by rw [if_neg hn]; exact hfin.2⟩
            · rw [tw, decide_eq_false v1]
              cbv
              have hfin : S3.mk q w = R4 := by
                rw [hmid, hR3, hR4]
                exact X.setI_two fr rt sz hlh' _ [] (by rw [← hVI, if_pos v0, hLO]) (by rw [← hVI, if_neg v1])
              rw [hR4] at hfin
              simp only [S3.mk.injEq] at hfin
              exact finH3 hF rfl rfl rfl ⟨rfl, rfl, rfl, rfl, rfl, rfl, rfl, trivial⟩ (by rw [k1]; exact vw_plain _ _) (by rw [k2]; exact vw_plain _ _) rfl ⟨_, rfl, p1, q, w, by simp [hn], by rw [k1, k2], by rw [if_neg hn]; exact hfin.1, by rw [if_neg hn]; exact hfin.2⟩
        · rw [tv, decide_eq_false v0]
          cbv
          rw [tw, decide_eq_true (by omega)]
          cbv
          have h50 : S3.go ⟨sz, fr⟩ (HI.map fun i => (i, uppI (itA X.xs i))) = R4 := by
            rw [hR4]
            exact X.setI_two fr rt sz hlh' [] _ (by rw [← hVI, if_neg v0]) (by rw [← hVI, if_pos (by omega), hHI])
          refine loop_go hg fits (by kernel_rfl) eH (fun x => lc (intC x)) HI heH hHl (fun z (s : S3 × List (List AC) × List (List AC)) => [(0, .t (.c (.ptr 0 0 0))), (261, .t (.c (.view eH))), (262, .t (ai (g .ln eH))), (263, .t (ai (z)))]) (fun z (s : S3 × List (List AC) × List (List AC)) => [.bx 54 7 [.view V, .imm (.int .i64 X.gap), .imm (.int .i64 X.inner), .imm (.bool GR), .own 1, .own 2, .imm (.int .i64 p1)], .rw ⟨3, 1, s.2.1⟩, .rw ⟨4, 1, s.2.2⟩]) (fun z (s : S3 × List (List AC) × List (List AC)) => s.2.1 = vw intC s.1.s ∧ s.2.2 = vw bolC s.1.f ∧ s.1.s.length = X.xs.length ∧ s.1.f.length = X.xs.length) (fun (s : S3 × List (List AC) × List (List AC)) rest => S3.go s.1 (rest.map fun i => (i, uppI (itA X.xs i)))) (R4) (⟨sz, fr⟩, Z, R) h50 ⟨hZ, hR, hs, hf⟩ (weak_seal (sl1 4 eH) (seal1 rfl keH deH) (Wk.weak (wkG [some 0, some 1, some 2] ⟨rfl, rfl, rfl, rfl, trivial⟩ ⟨⟨_, _, rfl, rfl, rfl, rfl, .inr ⟨⟨rfl, rfl, rfl, rfl, rfl, rfl, rfl, trivial⟩, trivial⟩⟩, ⟨_, _, rfl, rfl, rfl, rfl, .inl (seal_row pZ)⟩, ⟨_, _, rfl, rfl, rfl, rfl, .inl (seal_row pR)⟩, trivial⟩ (by decide) (by decide)))) (fun z s B hz h0 hi he => ?_) (fun z s x rest B z0 z1 z2 hx hy h0 hi hc e1 hB => ?_)
          rotate_left
          · have hmem : x ∈ fre 0 fr := by
              have := List.mem_of_getElem? hx
              rw [hHI, Fx.hig, ← hFR] at this
              exact hFR ▸ (List.mem_filter.1 this).1
            obtain ⟨⟨q, w⟩, eZ, eR⟩ := s
            obtain ⟨k1, k2, k3, k4⟩ := hi
            dsimp only at k1 k2 k3 k4 h0
            have hfm := fre_mem fr 0 (Int.le_refl 0) x hmem
            have hi0 := hfm.1
            obtain ⟨y, hyd⟩ : ∃ y, y = itA X.xs x := ⟨_, rfl⟩
            have hVy : V[x.toNat]? = some (lc (GItem.c y)) := by rw [hV0, hyd]; exact vw_at (itA_at hfm.1 (by rw [← hf]; omega))
            have hiR : x < lenI eR := by rw [k2, vw_lenI, k4, ← hf]; omega
            have hiZ : x < lenI eZ := by rw [k1, vw_lenI, k3, ← hf]; omega
            have hiw : x.toNat < w.length := by rw [k4, ← hf]; omega
            have hiq : x.toNat < q.length := by rw [k3, ← hf]; omega
            have sR : eR.set x.toNat [.imm (.bool true)] = vw bolC (w.set x.toNat true) := by rw [vw_set, k2]; rfl
            have sZ : ∀ u : Int, eZ.set x.toNat [.imm (.int .i64 u)] = vw intC (q.set x.toNat u) := fun u => by rw [vw_set, k1]; rfl
            obtain ⟨y0, y1, y2, y3, y4, y5, y6, y7, y8⟩ := y
            cbv; rw [hc]; cbv; refine goX hg _ z0 hy rfl ?_; cbv
            refine goY hg hi0 hiR fun j hj hjl => ?_
            cbv
            refine goN hg ⟨_, by rw [hj, k2]; exact vw_at (List.getElem?_eq_getElem hiw), rfl⟩ ?_
            cbv
            refine goX hg _ hi0 hVy rfl ?_
            cbv
            (first | refine callI hg (impl_upper_a ⟨y0, y1, y2, y3, y4, y5, y6, y7, y8⟩) rfl (fun Q0 hQ0 => ?_) | refine callIP hg (impl_upper_a ⟨y0, y1, y2, y3, y4, y5, y6, y7, y8⟩) rfl (fun Q0 hQ0 => ?_)); cbv
            refine goY hg hi0 hiZ fun j2 hj2 hjl2 => ?_
            cbv
            refine goN hg ⟨_, by rw [hj2, k1]; exact vw_at (List.getElem?_eq_getElem hiq), rfl⟩ ?_
            cbv
            rw [e1]
            simp only [goSt hg]
            subst hj hj2
            exact hB ((⟨q.set x.toNat Q0, w.set x.toNat true⟩, _, _)) _ _ ⟨(by rw [hQ0, hyd]; exact h0), ⟨sZ _, sR, by simpa using k3, by simpa using k4⟩⟩ (Wk.weak (wkG [some 0, some 1, some 2] ⟨rfl, rfl, rfl, rfl, trivial⟩ ⟨⟨_, _, rfl, rfl, rfl, rfl, .inr ⟨⟨rfl, rfl, rfl, rfl, rfl, rfl, rfl, trivial⟩, trivial⟩⟩, ⟨_, _, rfl, rfl, rfl, rfl, .inl ⟨rfl, (sZ _).symm ▸ vw_plain _ _⟩⟩, ⟨_, _, rfl, rfl, rfl, rfl, .inl ⟨rfl, sR.symm ▸ vw_plain _ _⟩⟩, trivial⟩ (by decide) (by decide)))
          · obtain ⟨⟨q, w⟩, eZ, eR⟩ := s
            obtain ⟨k1, k2, k3, k4⟩ := hi
            dsimp only at k1 k2 k3 k4 h0
            cbv; rw [he]; cbv
            have hfin : S3.mk q w = R4 := h0
            rw [hR4] at hfin
            simp only [S3.mk.injEq] at hfin
            exact finH3 hF rfl rfl rfl ⟨rfl, rfl, rfl, rfl, rfl, rfl, rfl, trivial⟩ (by rw [k1]; exact vw_plain _ _) (by rw [k2]; exact vw_plain _ _) rfl ⟨_, rfl, p1, q, w, by simp [hn], by rw [k1, k2], by rw [if_neg hn]; exact hfin.1, by rw [if_neg hn]; exact hfin.2⟩

end Go.Proofs.Ytcohgnecmgcajaa
