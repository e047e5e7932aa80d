/- The law of Absolute. -/
import Derived.Test.YtenbloaopcfdlaaW5
import Derived.Test.YtenbloaopcfdlaaW6
import Derived.Test.YtenbloaopcfdlaaW3
namespace Go.Proofs.Ytenbloaopcfdlaa
open Go.ChangeShapes Go.WideShapes Go.ChangeAt Go.RowKit Am
set_option linter.unusedVariables false
set_option linter.unusedSimpArgs false
set_option maxRecDepth 100000

section
variable {P : Program} {n0 N : Nat} {g : Gd}
/-- A call over data and own rows, that returns one new row of plain cells. -/
theorem callXRow {β : BP} (hg : g = G0 P n0 N) {h : EH} {f : FuncId} {args args' : List AT} {K : AV → EH → Prop} {ab : AB} (hc : PCon P f args' fun res rows => res = .t (.c (.own 0)) ∧ rows = [ab]) (ha : ResB (toH h) args args') (hp : immE ab.es = true)
    (hK : K (.t (.c (.own (lenL h)))) (h ++ [.rw ab])) : g .C f h args K :=
  callX hg hc ha fun res rows hpost => by
    obtain ⟨rfl, rfl⟩ := hpost
    refine ⟨rfl, fun ab' hab => ?_, [.rw ab], ?_, ?_⟩
    · obtain rfl := List.mem_singleton.1 hab
      exact plain_fresh hp _ _
    · simp only [List.map_cons, List.map_nil, shift_row (imm_plainE hp)]; rfl
    · rw [lenL_eq] at hK; rw [toH_len]; exact hK
theorem callXRowP {β : BP} (hg : g = G0 P n0 N) {h : EH} {n : Nat} {f : FuncId} {args args' : List AT} {K : AV → EH → Prop} {ab : AB} (hc : PCon P f args' fun res rows => res = .t (.c (.own 0)) ∧ rows = [ab]) (ha : ResB (toH h) args args') (hp : immE ab.es = true)
    (hK : K (.t (.c (.own n))) [.rw ab]) : g .PC f h n args K :=
  callXP hg hc ha rfl (fun ab' hab => by
    obtain rfl := List.mem_singleton.1 hab
    exact plain_fresh hp _ _) [.rw ab] (by simp only [List.map_cons, List.map_nil, shift_row (imm_plainE hp)]; rfl) hK
/-- A call that marks one own row of plain cells. -/
theorem callMX {β : BP} (hg : g = G0 P n0 N) {H : EH} {f : FuncId} {args : List AT} {K : AV → EH → Prop} (r : Nat) {ab ab' : AB} {R k : Int}
    (hc : @Con bp0 P f (toH [.rw ab]) [.c (.own 0), ai k] fun res h' => ∃ eh, toH eh = h' ∧ (res = .t (ai R) ∧ eh = [.rw ab'])) (hr : nth H r = some (.rw ab)) (hp : plainE ab.es = true) (hp' : plainE ab'.es = true) (ha : args = [.c (.own r), ai k])
    (hK : K (.t (.c (.imm (.int .i64 R)))) (setL H r (.rw ab'))) : g .C f H args K := by
  subst ha
  have hrl : r < H.length := by rw [nth_eq] at hr; exact (List.getElem?_eq_some_iff.1 hr).1
  refine callH hg [r] (Con.to hc) (by simp) (by simpa using hrl) ⟨⟨ab, ab, rfl, by rw [hr]; rfl, rfl, rfl, .inl ⟨rfl, hp⟩⟩, trivial⟩ ⟨rfl, rfl, trivial⟩ fun res eh ⟨h1, h2⟩ => ?_
  subst h1 h2
  rw [setL_eq] at hK
  simp only [putBack, EE.mv, mv_row hp', List.map_nil, List.append_nil]
  exact hK
end
set_option maxHeartbeats 16000000 in
theorem laws_FnExactAbsolute_w (w : World) (a0 : NTree) (f0 : a0.fit) (v0 : Value) (r0 : RT (fun b => b < w.heap.size) w [] [] (.agg a0.ac) v0) (a1 : List GFrame) (v1 : Value) (r1 : RepS 5 GFrame.c w v1 a1) (z1 : ∀ x ∈ a1, ∃ (g : Nat → Int) (h : Nat → Bool), (∀ i, R64 (g i)) ∧ x = GFrame.of g h) :
    Calls Try.prog 4 #[v0, v1] w fun e w' => e = .returned (.bool true) ∧ Below w.heap.size w w' := by
  have cz := laws_szTree_n a0 1048576 f0 (by decide) (by decide)
  have ck : a0.small → _ := fun hs => laws_toTree_n a0 hs
  have ct : a0.small → _ := fun hs => laws_toTree_t a0 hs
  have ce : a0.small → _ := fun hs => laws_eqTree_n a0 hs
  have hx0 : a1.length ≤ 9223372036854775807 := RepS.len r1
  obtain ⟨ns⟩ := a0
  have cm : NTree.small ⟨ns⟩ → _ := fun hs => markTree_of ns hs.1 hs.2.1
  have cs : NTree.small ⟨ns⟩ → a1.length ≤ 1048576 → _ := fun hs hx => spec_Absolute_a ns hs.1 hs.2.1 a1 hx
  have ci : NTree.small ⟨ns⟩ → a1.length ≤ 1048576 → _ := fun hs hx => impl_Absolute_a ns hs.1 hs.2.1 a1 hx
  have cx : a1.length ≤ 1048576 → _ := fun hx => toRow (laws_toFrameS_a a1 hx)
  have ex : a1.length ≤ 1048576 → _ := fun hx => laws_eqFrameS_a a1 a1 hx
  have hal : (absF ns a1).length = a1.length := by unfold absF; split <;> simp
  have eg : a1.length ≤ 1048576 → _ := fun hx => laws_eqFrameS_a (absF ns a1) (absF ns a1) (by rw [hal]; exact hx)
  obtain ⟨T, hT⟩ : ∃ T, T = vwA NNode.ac ns := ⟨_, rfl⟩
  obtain ⟨V, hV⟩ : ∃ V, V = vw GFrame.c a1 := ⟨_, rfl⟩
  obtain ⟨G, hG⟩ : ∃ G, G = vw GFrame.c (absF ns a1) := ⟨_, rfl⟩
  have iV : immE V = true := by rw [hV]; exact vw_imm _ _
  have kV : ∀ y ∈ V, y.length = 5 := by rw [hV]; exact vw_k (c := GFrame.c) (k := 5) fun _ => rfl
  have dV : ∀ y ∈ V, y.all dat = true := by rw [hV]; exact vw_dat
  have iG : immE G = true := by rw [hG]; exact vw_imm _ _
  have kG : ∀ y ∈ G, y.length = 5 := by rw [hG]; exact vw_k (c := GFrame.c) (k := 5) fun _ => rfl
  have dG : ∀ y ∈ G, y.all dat = true := by rw [hG]; exact vw_dat
  have pV := imm_plainE iV
  have pG := imm_plainE iG
  have hVl : V.length = a1.length := by rw [hV, vw_length]
  have hGl : G.length = a1.length := by rw [hG, vw_length, hal]
  replace r0 : RT (fun b => b < w.heap.size) w [] [] (.agg [.view T]) v0 := by rw [hT]; exact r0
  have r1' : RC (fun b => b < w.heap.size) w [] [] (.view V) v1 := by rw [hV]; exact rc_of_rep r1 (by decide) (fun _ => rfl) (fun _ => rfl)
  have czF := fun L h0 h1 => laws_szFrameS_b V L (by rw [hVl]; exact hx0) h0 h1
  obtain ⟨S, hS⟩ : ∃ S : Prop, S = NTree.small ⟨ns⟩ := ⟨_, rfl⟩
  rw [← hS] at ck ct ce cs ci cm
  replace cz : PCon Try.prog 16 [.agg [.view T], ai 1048576] (fun res rows => ∃ R : Int, res = .t (ai R) ∧ rows = [] ∧ (R ≤ 1048576 ∨ R < 0) ∧ (0 ≤ R → S)) := by rw [hT, hS]; exact cz
  replace ck : S → PCon Try.prog 19 [.agg [.view T]] (fun res rows => res = .t (.agg [.view T]) ∧ rows = []) := by rw [hT]; exact ck
  replace ct : S → TCon Try.prog 19 [.agg [.view T]] (fun lo res rows => (∃ b, res = .t (.agg [.fv b T]) ∧ NewB lo b) ∧ plainV res = true ∧ rows = []) := by rw [hT]; exact ct
  replace ce : S → PCon Try.prog 23 [.agg [.view T], .agg [.view T]] (fun res rows => res = .t (abl true) ∧ rows = []) := by rw [hT]; exact ce
  rw [← hT] at cm
  rw [← hT, ← hV, ← hG] at cs ci
  rw [← hV] at cx ex
  rw [← hG] at eg
  rw [decide_eq_true rfl] at ex eg
  clear hS hT hV hG f0 r1 z1 hx0 hal
  refine law_run [(19, .hand)] [] (args := fun lo => [.agg [.old lo T], .c (.old lo V)]) (c := body Try.f4) fits Try.func4 (by kernel_rfl) (by kernel_rfl) (fun _ => by rfl) (by kernel_rfl) (fun β g eff hd F hex heff hhd hg hF => ?_) (vs := [v0, v1]) rfl (argsR_cons (rt_old (xs := [.view T]) rfl r0) (argsR_cons (rc_old (c := .view V) rfl r1') argsR_nil))
  clear r0 r1'
  cbv
  refine callDw hg cz ⟨⟨rfl, trivial⟩, rfl, trivial⟩ (fun res rows ⟨R, hres, hrows, hR1, hR2⟩ => ?_)
  subst hres hrows
  refine ⟨[], rfl, ?_⟩
  cbv
  cases hlt : g .q .lss R 0
  case true =>
    cbv
    rw [hF]
  rw [goLss hg, decide_eq_false_iff_not] at hlt
  have hsm : S := hR2 (by omega)
  replace ck := ck hsm
  replace ct := ct hsm
  replace ce := ce hsm
  replace cs := cs hsm
  replace ci := ci hsm
  replace cm := cm hsm
  replace czF := czF R (by omega) (by omega)
  obtain ⟨Z, hZ⟩ : ∃ Z, Z = szR (lenI V) R := ⟨_, rfl⟩
  rw [← hZ] at czF
  have hZ2 : 0 ≤ Z → V.length ≤ 1048576 := fun h => by rw [hZ, lenI_eq] at h; unfold szR at h; split at h <;> omega
  clear hR1 hR2 hlt hsm cz hZ
  cbv
  refine call0Dw hg czF ⟨rfl, rfl, trivial⟩ rfl ?_
  cbv
  cases hlt : g .q .lss Z 0
  case true =>
    cbv
    rw [hF]
  rw [goLss hg, decide_eq_false_iff_not] at hlt
  have hx : a1.length ≤ 1048576 := by rw [← hVl]; exact hZ2 (by omega)
  replace cs := cs hx
  replace ci := ci hx
  replace cx := cx hx
  replace ex := ex hx
  replace eg := eg hx
  clear hZ2 hlt czF
  cbv
  -- the reference's answer
  refine call0Dw hg ck ⟨⟨rfl, trivial⟩, trivial⟩ rfl ?_
  cbv
  refine callXRow hg cx (.c (.old _ _) .nil) iV ?_
  cbv
  refine callXRow hg cs (.agg (.cons (.view _) .nil) (.c (resRow (ab := ⟨_, _, V⟩) rfl kV dV) .nil)) iG ?_
  cbv
  -- the copies that are to be marked
  refine callT0 hg ct ⟨⟨rfl, trivial⟩, trivial⟩ (fun lo res q1 q2 q3 ⟨b0, hres, hn⟩ => ?_)
  subst hres
  replace hn := hn.mono q1
  clear q1 q2 q3
  cbv
  refine callXRow hg cx (.c (.old _ _) .nil) iV ?_
  cbv
  refine callXRow hg ci (.agg (.cons (.fv _ _) .nil) (.c (resRow (ab := ⟨_, _, V⟩) rfl kV dV) .nil)) iG ?_
  cbv
  refine callXR hg eg (.c (resRow (ab := ⟨_, _, G⟩) rfl kG dG) (.c (resRow (ab := ⟨_, _, G⟩) rfl kG dG) .nil)) rfl ?_
  cbv
  refine call0DwP hg ck ⟨⟨rfl, trivial⟩, trivial⟩ rfl ?_
  cbv
  refine call0DwP hg ce ⟨⟨.inl rfl, trivial⟩, ⟨rfl, trivial⟩, trivial⟩ rfl ?_
  cbv
  refine callXRow hg cx (.c (.old _ _) .nil) iV ?_
  cbv
  refine callXR hg ex (.c (resRow (ab := ⟨_, _, V⟩) rfl kV dV) (.c (resRow (ab := ⟨_, _, V⟩) rfl kV dV) .nil)) rfl ?_
  cbv
  -- the copies are marked
  obtain ⟨R0, K, hK0, hK1, cm⟩ := cm
  have hm := cm b0 hn.1
  clear cm
  refine hand_mark hg hhd fits 2 (by kernel_rfl) (fun mk hmk => ?_)
  cbv
  subst hmk
  refine ⟨_, _, _, [(b0, T, R0)], _, [(2, .t (.c (.ptr 0 0 0))), (6, .t (.c (.own 2))), (7, .t (.c (.ptr 3 0 0))), (8, .t (.c (.own 4))), (9, .t (.c (.own 5))), (1, .t (.c (.old β.lo V)))], [.bx 48 1 [.old β.lo T], .rw ⟨79, 5, V⟩, .rw ⟨79, 5, G⟩, .bx 55 1 [.dead], .rw ⟨79, 5, V⟩, .rw ⟨79, 5, G⟩, .rw ⟨79, 5, V⟩], rfl, rfl, rfl, rfl, rfl, hm, fun u hu b hb => ?_, fun u hu => ?_,
    ⟨.inr (.inl ⟨rfl, trivial⟩), .inr (.inl ⟨rfl, trivial⟩), .inr (.inl ⟨rfl, trivial⟩), .inr (.inl ⟨rfl, trivial⟩), .inr (.inl ⟨rfl, trivial⟩), .inr (.inl ⟨rfl, fun u hu b hb => ?_⟩), trivial⟩,
    ⟨⟨rfl, rfl, .inr (.inl ⟨rfl, fun u hu b hb => ?_⟩), trivial⟩, .inl ⟨rfl, iV⟩, .inl ⟨rfl, iG⟩, ⟨rfl, rfl, .inl rfl, trivial⟩, .inl ⟨rfl, iV⟩, .inl ⟨rfl, iG⟩, .inl ⟨rfl, iV⟩, trivial⟩, ?_⟩
  · rw [List.mem_singleton.1 hu] at hb; exact hex b (hn.2 b hb)
  · rw [List.mem_singleton.1 hu]; exact ⟨_, List.mem_cons_self .., List.mem_cons_self ..⟩
  · rw [List.mem_singleton.1 hu] at hb; exact hn.2 b hb
  · rw [List.mem_singleton.1 hu] at hb; exact hn.2 b hb
  clear hm hn
  have hVl2 : V.length ≤ 1048576 := by omega
  have hGl2 : G.length ≤ 1048576 := by omega
  have cmV := laws_markFrameS_a K V kV pV hVl2 hK0 hK1
  have cmG := laws_markFrameS_a 1 G kG pG hGl2 (by decide) (by decide)
  have ch := laws_heldFrameS_a 1 G.length hGl2 (by decide) (by decide)
  rw [← lenI_eq] at ch
  obtain ⟨X, hX⟩ : ∃ X, X = vw GFrame.c (marksFrame K V.length) := ⟨_, rfl⟩
  obtain ⟨Y, hY⟩ : ∃ Y, Y = vw GFrame.c (marksFrame 1 G.length) := ⟨_, rfl⟩
  have pX : plainE X = true := by rw [hX]; exact vw_plain _ _
  have pY : plainE Y = true := by rw [hY]; exact vw_plain _ _
  have kY : ∀ y ∈ Y, y.length = 5 := by rw [hY]; exact vw_k (c := GFrame.c) (k := 5) fun _ => rfl
  have dY : ∀ y ∈ Y, y.all dat = true := by rw [hY]; exact vw_dat
  rw [← hX] at cmV
  rw [← hY] at cmG ch
  obtain ⟨L, hL⟩ : ∃ L : Int, L = K + 5 * lenI V := ⟨_, rfl⟩
  obtain ⟨M, hM⟩ : ∃ M : Int, M = 1 + 5 * lenI G := ⟨_, rfl⟩
  have bL : ¬ L < 0 := by rw [hL, lenI_eq]; omega
  have bM : ¬ M < 0 := by rw [hM, lenI_eq]; omega
  rw [← hL] at cmV
  rw [← hM] at cmG ch
  clear hX hY hL hM hVl2 hGl2
  have e3 : g .q .lss L 0 = false := by rw [goLss hg]; exact decide_eq_false bL
  have e4 : g .q .lss M 0 = false := by rw [goLss hg]; exact decide_eq_false bM
  have e5 : g .q .neq M M = false := by rw [goNeq hg]; simp
  cbv
  refine callMX hg 4 cmV rfl pV pX rfl ?_
  cbv
  rw [e3]
  cbv
  refine callXR hg eg (.c (resRow (ab := ⟨_, _, G⟩) rfl kG dG) (.c (resRow (ab := ⟨_, _, G⟩) rfl kG dG) .nil)) rfl ?_
  cbv
  refine callMX hg 5 cmG rfl pG pY rfl ?_
  cbv
  refine callXR hg ch (.c (resRow (ab := ⟨_, _, Y⟩) rfl kY dY) (.c (.imm _) .nil)) rfl ?_
  cbv
  rw [e4]
  cbv
  rw [e5]
  cbv
  refine call0Dw hg ck ⟨⟨rfl, trivial⟩, trivial⟩ rfl ?_
  cbv
  refine callXRow hg cx (.c (.old _ _) .nil) iV ?_
  cbv
  refine callXRow hg ci (.agg (.cons (.view _) .nil) (.c (resRow (ab := ⟨_, _, V⟩) rfl kV dV) .nil)) iG ?_
  cbv
  refine callXR hg eg (.c (resRow (ab := ⟨_, _, G⟩) rfl kG dG) (.c (resRow (ab := ⟨_, _, G⟩) rfl kG dG) .nil)) rfl ?_
  cbv
  refine callXR hg ch (.c (resRow (ab := ⟨_, _, Y⟩) rfl kY dY) (.c (.imm _) .nil)) rfl ?_
  cbv
  rw [e4]
  cbv
  rw [e5]
  cbv
  rw [hF]

end Go.Proofs.Ytenbloaopcfdlaa
