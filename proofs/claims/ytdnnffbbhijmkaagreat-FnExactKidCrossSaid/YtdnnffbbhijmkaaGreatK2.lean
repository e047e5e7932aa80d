/- impl's children in the flow, their row sorted. -/
import Derived.Test.YtdnnffbbhijmkaaGreatK1
namespace Go.Proofs.YtdnnffbbhijmkaaGreat
open Go.Shelf Go.RowKit Go.Lib Go.Sort Am
set_option linter.unusedVariables false
set_option linter.unusedSimpArgs false
/-- The last operations of flowKids: the row is sorted where it lies. -/
theorem vc_sort {id n0 : Nat} {o35 o36 o37 o38 : Oper} (e35 : o35.op = .load 49 (.tmp 5)) (d35 : o35.dst = some 35) (g35 : o35.guard = none) (e36 : o36.op = .makeInterface 49 (.tmp 35)) (d36 : o36.dst = some 36) (g36 : o36.guard = none)
    (e37 : o37.op = .makeFunc (.func 123) #[] #[.tmp 2, .tmp 5]) (d37 : o37.dst = some 37) (g37 : o37.guard = none) (c38 : Call) (e38 : o38.op = .call c38) (k38 : c38.callee = .value (.func 122)) (a38 : c38.args = #[.tmp 36, .tmp 37]) (d38 : o38.dst = some 38) (g38 : o38.guard = none)
    (ns : List NNode) (hl : ns.length ≤ 1048576) {E : List Int} (hE : ∀ k ∈ E, isN ns k = true) (h20 : E.length < 20) {l : List (Nat × AV)} {Q : Exit → (Nat → AV) → AH → Prop}
    (h2 : lkT l 2 = .t (.c (.ptr 0 0 0))) (h5 : lkT l 5 = .t (.c (.ptr 1 0 0))) (tT tI : Nat)
    (hQ : Q .normal (lkT ((38, .t (.c .dead)) :: (37, .t (.c .dead)) :: (36, .t (.c .dead)) :: (35, .t (.c (.own 2))) :: l)) (toH [.bx tT 1 [.view (vwA NNode.ac ns)], .bx tI 1 [.own 2], .rw ⟨3, 1, vw intC (sortF (ordN ns) E)⟩])) (N : Nat) (hN : N = 40) (cd : Code) (hcd : cd = .region id #[o35, o36, o37, o38] false) (hh : EH) (hhh : hh = [.bx tT 1 [.view (vwA NNode.ac ns)], .bx tI 1 [.own 2], .rw ⟨3, 1, vw intC E⟩]) :
    VC Tryz.prog n0 N cd Q (lkT l) (toH hh) := by
  subst hN hcd hhh
  intro F w0 m0 h0 a w m hlen r
  refine wp_region_list ?_
  show wpList _ _ _ [o35, o36, o37, o38] a w
  have wnt : ∀ (o : Oper) (y : Nat → Option Bool), o.guard = none → Region.wanted o y = true := fun o y hg => by unfold Region.wanted; rw [hg]
  unfold wpList
  rw [if_pos (wnt _ _ g35)]
  left
  obtain ⟨H, hH'⟩ : ∃ H : AH, H = toH [.bx tT 1 [.view (vwA NNode.ac ns)], .bx tI 1 [.own 2], .rw ⟨3, 1, vw intC E⟩] := ⟨_, rfl⟩
  rw [← hH'] at r
  have H1 : H[1]? = some (.live ⟨tI, 1, [[.own 2]]⟩) := by rw [hH']; rfl
  have H0 : H[0]? = some (.live ⟨tT, 1, [[.view (vwA NNode.ac ns)]]⟩) := by rw [hH']; rfl
  have H2 : H[2]? = some (.live ⟨3, 1, vw intC E⟩) := by rw [hH']; rfl
  refine (opA_sound (o := o35) (K := fun res h' => res = .t (.c (.own 2)) ∧ h' = H) r.st.hp r.tm ?_).wp (fun v w1 ⟨res, h', m1, F1, ⟨hres, hh'⟩, hG1, hs, hv⟩ => ?_)
  · rw [e35]
    have ha : aggOf Tryz.prog 49 = some none := by kernel_rfl
    simp only [opA, pop, ev, h5, ha, H1]
    exact ⟨[.own 2], rfl, .own 2, rfl, rfl, by simp⟩
  subst hres hh'
  have r1 := r.nextG (o := o35) (by unfold dstOk; rw [d35]; rfl) hG1.1 hs hv
  have hsz : a.tmps.size = 40 := r.sz
  obtain ⟨b, hb⟩ : ∃ b, b = a.put o35.dst v := ⟨_, rfl⟩
  have v35 : b.tmps.getD 35 undef = v := by rw [hb, put_get, if_pos ⟨d35, by rw [hsz]; decide⟩]
  rw [← hb] at r1 ⊢
  have hb1 : b.tmps.size = 40 := r1.sz
  have hGr : Grow F F1 w0 m0 h0 := r.grow (Grow.refl _ _ _ _) hG1
  clear hs r hb hsz
  unfold wpList
  rw [if_pos (wnt _ _ g36)]
  left
  have x36 : (execOp b.eval o36).run Tryz.prog w1 = .ok (.value (.iface 49 v)) w1 := by
    have hu := run_makeInterface (P := Tryz.prog) w1 49 v (by kernel_rfl)
    simp [execOp, e36, Act.eval, v35, hu]
  refine (Yl.value x36 (R := fun u w2 => u = .iface 49 v ∧ w2 = w1) ⟨rfl, rfl⟩).wp (fun u w2 ⟨hu, hw⟩ => ?_)
  subst hu hw
  have r2 := r1.next (o := o36) (by unfold dstOk; rw [d36]; rfl) (Step.refl r1.st.hp) (res := .t (.c .dead)) (v := .iface 49 v) trivial
  obtain ⟨c, hc⟩ : ∃ c, c = b.put o36.dst (.iface 49 v) := ⟨_, rfl⟩
  have v36 : c.tmps.getD 36 undef = .iface 49 v := by rw [hc, put_get, if_pos ⟨d36, by rw [hb1]; decide⟩]
  rw [← hc] at r2 ⊢
  have hc1 : c.tmps.size = 40 := r2.sz
  clear hc x36
  unfold wpList
  rw [if_pos (wnt _ _ g37)]
  left
  obtain ⟨p2, hp2⟩ : ∃ p2, p2 = c.tmps.getD 2 undef := ⟨_, rfl⟩
  obtain ⟨p5, hp5⟩ : ∃ p5, p5 = c.tmps.getD 5 undef := ⟨_, rfl⟩
  have x37 : (execOp c.eval o37).run Tryz.prog w2 = .ok (.value (.func (.func 123) #[] #[p2, p5])) w2 := by
    simp [execOp, e37, Act.eval, ← hp2, ← hp5, Instr.makeFunc]
  refine (Yl.value x37 (R := fun u w3 => u = .func (.func 123) #[] #[p2, p5] ∧ w3 = w2) ⟨rfl, rfl⟩).wp (fun u w3 ⟨hu, hw⟩ => ?_)
  subst hu hw
  have r3 := r2.next (o := o37) (by unfold dstOk; rw [d37]; rfl) (Step.refl r2.st.hp) (res := .t (.c .dead)) (v := .func (.func 123) #[] #[p2, p5]) trivial
  obtain ⟨e, he⟩ : ∃ e, e = c.put o37.dst (.func (.func 123) #[] #[p2, p5]) := ⟨_, rfl⟩
  have v37 : e.tmps.getD 37 undef = .func (.func 123) #[] #[p2, p5] := by rw [he, put_get, if_pos ⟨d37, by rw [hc1]; decide⟩]
  have v36 : e.tmps.getD 36 undef = .iface 49 v := by rw [he, put_get, if_neg (by rw [d37]; simp), v36]
  rw [← he] at r3 ⊢
  have t2 := r2.tm 2
  have t5 := r2.tm 5
  rw [← hp2] at t2
  rw [← hp5] at t5
  simp only [put, d36, d35, h2, h5, Option.some.injEq, Nat.reduceEqDiff, if_false] at t2 t5
  have he1 : e.tmps.size = 40 := r3.sz
  clear he x37 r2
  unfold wpList
  rw [if_pos (wnt _ _ g38)]
  left
  -- where the three blocks lie
  have hH := r3.st.hp
  rcases t2 with hx | ⟨ab, b0, cap0, h20', hm0, rfl⟩
  · rw [H0] at hx; cases hx
  rw [H0] at h20'; cases h20'
  rcases t5 with hx | ⟨ab, b1, cap1, h21', hm1, rfl⟩
  · rw [H1] at hx; cases hx
  rw [H1] at h21'; cases h21'
  simp only [Nat.zero_mul, Nat.add_zero] at *
  -- what follows the call
  have hcall : ∀ {R : Value → World → Prop}, Calls Tryz.prog 122 #[.iface 49 v, .func (.func 123) #[] #[.pointer (some ⟨b0, 0, none⟩), .pointer (some ⟨b1, 0, none⟩)]] w3 (fun x w' => x = .returned (.tuple #[]) ∧ R (.tuple #[]) w') → Yl Tryz.prog o38 e w3 R := fun hR => by
    unfold Yl
    rw [run_call e38 k38 (by kernel_rfl), a38]
    have : (#[Operand.tmp 36, Operand.tmp 37].map e.eval) = #[.iface 49 v, .func (.func 123) #[] #[.pointer (some ⟨b0, 0, none⟩), .pointer (some ⟨b1, 0, none⟩)]] := by simp [Act.eval, v36, v37]
    rw [this]
    exact hR.mono fun x w' ⟨h1, h2⟩ => ⟨_, h1, h2⟩
  have hfin : ∀ (H' : AH) (w' : World), Step F1 w3 m1 h' w' m1 H' → H' = toH [.bx tT 1 [.view (vwA NNode.ac ns)], .bx tI 1 [.own 2], .rw ⟨3, 1, vw intC (sortF (ordN ns) E)⟩] → wpList Tryz.prog #[o35, o36, o37, o38] (Meets F w0 m0 h0 40 Q) [] (e.put o38.dst (.tuple #[])) w' := fun H' w' hs heq => by
    subst heq
    have r4 := r3.next (o := o38) (by unfold dstOk; rw [d38]; rfl) hs (res := .t (.c .dead)) (v := .tuple #[]) trivial
    exact ⟨_, _, _, F1, by simpa only [d35, d36, d37, d38, put_lk, putT] using hQ, hGr, r4⟩
  refine (hcall (R := fun u w' => u = .tuple #[] ∧ ∃ H', Step F1 w3 m1 h' w' m1 H' ∧ H' = toH [.bx tT 1 [.view (vwA NNode.ac ns)], .bx tI 1 [.own 2], .rw ⟨3, 1, vw intC (sortF (ordN ns) E)⟩]) ?_).wp (fun u w' ⟨hu, H', hs, heq⟩ => by subst hu; exact hfin H' w' hs heq)
  rcases hv with hx | ⟨ab, hab, hv⟩
  · rw [H2] at hx; cases hx
  rw [H2] at hab; cases hab
  simp only [vw_length] at hv
  by_cases hE1 : E.length ≤ 1
  · have hss : sortF (ordN ns) E = E := by
      match E, hE1 with
      | [], _ => rfl
      | [x], _ => rfl
    obtain ⟨p, cc, rfl⟩ : ∃ p cc, v = .slice p E.length cc := by
      rcases hv with ⟨bb, cc, _, rfl⟩ | ⟨_, h0, rfl⟩
      · exact ⟨_, _, rfl⟩
      · exact ⟨none, 0, by rw [h0]⟩
    refine (sort_tiny (w := w3) hE1 _ _ _).mono ?_
    rintro x w' ⟨rfl, os, rfl⟩
    refine ⟨rfl, rfl, h', step_after (Step.refl hH) rfl rfl rfl (by simp) (fun b hb => ?_), by rw [hss, hH']⟩
    simp only [grow, Array.getElem?_append, hb, if_true]
  have hE2 : 2 ≤ E.length := by omega
  obtain ⟨b2, cap, hm2, rfl⟩ : ∃ b2 cap, m1[2]? = some (some (b2, cap)) ∧ v = .slice (some ⟨b2, 0, none⟩) E.length cap := by
    rcases hv with ⟨bb, cc, h1, h2⟩ | ⟨_, h0, _⟩
    · exact ⟨bb, cc, h1, h2⟩
    · omega
  obtain ⟨_, hF2, cur, hcur, hcs, hcl, hcm, hce⟩ := hH.get H2 H2 hm2
  simp only [Nat.mul_one, vw_length] at hcs hcl hce
  obtain ⟨_, hF1b, cur1, hcur1, _, _, _, hce1⟩ := hH.get H1 H1 hm1
  obtain ⟨_, hF0b, cur0, hcur0, _, _, _, hce0⟩ := hH.get H0 H0 hm0
  have l2 := (hH.lt H2 hm2).2
  have l1 := (hH.lt H1 hm1).2
  have l0 := (hH.lt H0 hm0).2
  have n12 : b1 ≠ b2 := fun h => by subst h; have := hH.inj 1 2 _ _ _ _ _ H1 H2 hm1 hm2; cases this
  have n02 : b0 ≠ b2 := fun h => by subst h; have := hH.inj 0 2 _ _ _ _ _ H0 H2 hm0 hm2; cases this
  have hHo : Holds (Value.int .i64) w3 b2 0 E.toArray := fun j hj => by
    have hj' : j < E.length := by simpa using hj
    obtain ⟨_, hq⟩ := hce j _ (vw_at (c := intC) (arr_l hj'))
    obtain ⟨u, hu, _, hr⟩ := hq 0 _ rfl
    have hr' : u = .int .i64 E[j]! := hr
    subst hr'
    refine ⟨?_, ?_⟩
    · simp only [World.cell?, hcur]
      simpa [getElem!_pos E j hj'] using hu
    · simp [World.frozen?, hcur]
  have hco : w3.cell? ⟨b1, 0, none⟩ = some (.slice (some ⟨b2, 0, none⟩) E.length cap) := by
    obtain ⟨_, hq⟩ := hce1 0 _ rfl
    obtain ⟨u, hu, _, hr⟩ := hq 0 _ rfl
    rcases hr with hx | ⟨ab, hab, hr⟩
    · rw [H2] at hx; cases hx
    rw [H2] at hab; cases hab
    simp only [vw_length, hm2, Option.some.injEq, Prod.mk.injEq] at hr
    rcases hr with ⟨bb, cc, ⟨rfl, rfl⟩, rfl⟩ | ⟨hx, _⟩
    · simp only [World.cell?, hcur1]
      simpa using hu
    · cases hx
  have hct : RPL F1 w3 b0 0 [.view (vwA NNode.ac ns)] := by
    obtain ⟨_, hq⟩ := hce0 0 _ rfl
    obtain ⟨u, hu, ho, hr⟩ := hq 0 _ rfl
    refine RPL.mk fun t c ht => ?_
    obtain rfl : t = 0 := by
      have := (List.getElem?_eq_some_iff.1 ht).1
      simp at this; omega
    obtain rfl := Option.some.inj ht.symm
    exact ⟨u, by simp only [World.cell?, hcur0]; simpa using hu, ho, hr⟩
  have hless := less_of_pcon (P := Tryz.prog) (g := 123) (f := ordN ns) (p := fun k => isN ns k = true) (cs := [.view (vwA NNode.ac ns)]) (n := E.length) (fun dk i j hd hp hi hj => flowLess_a ns dk hl hp i j (by omega) (by omega)) hH.old hF2 l2 l1 l0 n12 n02 hco hcl hcm hct (d := E.toArray) (by simp) hHo
  have hs := sort_row (w := w3) (g := 123) (blk := b2) (c := cap) (lb := #[.pointer (some ⟨b0, 0, none⟩), .pointer (some ⟨b1, 0, none⟩)]) (d := E.toArray) (ordN ns) (fun k => isN ns k = true) (enters_of Tryz.func123 (by kernel_rfl) rfl) (by simpa using hE2) (by simpa using h20) (by simpa using hless) (fun i hi => hE _ (by
    have hi' : i < E.length := by simpa using hi
    have := List.mem_of_getElem? (arr_l hi')
    simp [getElem!_pos E i hi', hi'])) hHo l2
  simp only [List.size_toArray] at hs
  refine hs.mono ?_
  rintro x w' ⟨rfl, hS⟩
  have hsz : (Sort.insertionSort (ltF (ordN ns)) E.toArray 0 E.length).size = E.length := by
    have := congrArg List.length (sort_list (ordN ns) E)
    have h3 := sortF_len (ordN ns) E
    unfold sortF at h3
    rw [h3] at this
    simpa using this
  refine ⟨rfl, rfl, _, step_sorted hH H2 hm2 hsz hS, ?_⟩
  have := sort_list (ordN ns) E
  simp only [List.size_toArray] at this
  rw [this, hH']
  rfl

end Go.Proofs.YtdnnffbbhijmkaaGreat
