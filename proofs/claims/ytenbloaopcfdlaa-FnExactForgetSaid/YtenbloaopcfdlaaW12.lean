/- The law of Forget. -/
import Derived.Test.YtenbloaopcfdlaaW11
import Derived.Test.YtenbloaopcfdlaaAmAP
namespace Go.Proofs.Ytenbloaopcfdlaa
open Go.ChangeShapes Go.WideShapes Go.ChangeAt Go.RowKit Am
set_option linter.unusedVariables false
set_option linter.unusedSimpArgs false
set_option maxRecDepth 100000

set_option maxHeartbeats 16000000 in
theorem laws_FnExactForget_w (w : World) (a0 : NTree) (f0 : a0.fit) (v0 : Value) (r0 : RT (fun b => b < w.heap.size) w [] [] (.agg a0.ac) v0) (a1 : NKept) (f1 : a1.fit) (v1 : Value) (r1 : RT (fun b => b < w.heap.size) w [] [] (.agg a1.ac) v1) (a2 : Int) :
    Calls Try.prog 5 #[v0, v1, .int .i64 a2] w fun e w' => e = .returned (.bool true) ∧ Below w.heap.size w w' := by
  have cz0 := fun (L : Int) (h0 : 0 ≤ L) (h1 : L ≤ 1048576) => laws_szTree_n a0 L f0 h0 h1
  have ck0 : a0.small → _ := fun hs => laws_toTree_n a0 hs
  have ct0 : a0.small → _ := fun hs => laws_toTree_t a0 hs
  have ce0 : a0.small → _ := fun hs => laws_eqTree_n a0 hs
  have cm0 : a0.small → _ := fun hs => markTree_m a0 hs
  have cz1 := fun (L : Int) (h0 : 0 ≤ L) (h1 : L ≤ 1048576) => laws_szKept_n a1 L f1 h0 h1
  have ck1 : a1.small → _ := fun hs => laws_toKept_n a1 hs
  have ct1 : a1.small → _ := fun hs => laws_toKept_t a1 hs
  have ce1 : a1.small → _ := fun hs => laws_eqKept_n a1 hs
  have cm1 : a1.small → _ := fun hs => markKept_m a1 hs
  have cs := fun (hs0 : a0.small) (hs1 : a1.small) => spec_Forget_t a0.nodes hs0.1 hs0.2.1 a1 hs1 a2
  have ci := fun (hs0 : a0.small) (hs1 : a1.small) => impl_Forget_t a0.nodes hs0.1 hs0.2.1 a1 hs1 a2
  have hR := fun (hs0 : a0.small) (hs1 : a1.small) => fgM_small a0.nodes a1 a2 hs1
  have eg := fun (hs0 : a0.small) (hs1 : a1.small) => laws_eqKept_n _ (hR hs0 hs1)
  have cg := fun (hs0 : a0.small) (hs1 : a1.small) => markKept_h _ (hR hs0 hs1)
  clear hR
  obtain ⟨S0, hS0⟩ : ∃ S : Prop, S = a0.small := ⟨_, rfl⟩
  obtain ⟨S1, hS1⟩ : ∃ S : Prop, S = a1.small := ⟨_, rfl⟩
  obtain ⟨a0ns⟩ := a0
  obtain ⟨a1ms, a1qs⟩ := a1
  obtain ⟨V00, hV00⟩ : ∃ V, V = vwA NNode.ac a0ns := ⟨_, rfl⟩
  obtain ⟨V10, hV10⟩ : ∃ V, V = vwA NMemo.ac a1ms := ⟨_, rfl⟩
  obtain ⟨V11, hV11⟩ : ∃ V, V = vw GAsked.c a1qs := ⟨_, rfl⟩

  obtain ⟨G0, hG0⟩ : ∃ V, V = vwA NMemo.ac (fgM a0ns a1ms a2) := ⟨_, rfl⟩
  obtain ⟨G1, hG1⟩ : ∃ V, V = vw GAsked.c a1qs := ⟨_, rfl⟩
  replace r0 : RT (fun b => b < w.heap.size) w [] [] (.agg [.view V00]) v0 := by rw [hV00]; exact r0
  replace cz0 : ∀ L : Int, 0 ≤ L → L ≤ 1048576 → PCon Try.prog 16 [.agg [.view V00], ai L] (fun res rows => ∃ R : Int, res = .t (ai R) ∧ rows = [] ∧ (R ≤ L ∨ R < 0) ∧ (0 ≤ R → S0)) := by rw [hV00, hS0]; exact cz0
  replace ck0 : S0 → PCon Try.prog 19 [.agg [.view V00]] (fun res rows => res = .t (.agg [.view V00]) ∧ rows = []) := by rw [hV00, hS0]; exact ck0
  replace ct0 : S0 → TCon Try.prog 19 [.agg [.view V00]] (fun lo res rows => (∃ b0, res = .t (.agg [.fv b0 V00]) ∧ NewB lo (b0)) ∧ plainV res = true ∧ rows = []) := by rw [hV00, hS0]; exact ct0
  replace ce0 : S0 → PCon Try.prog 23 [.agg [.view V00], .agg [.view V00]] (fun res rows => res = .t (abl true) ∧ rows = []) := by rw [hV00, hS0]; exact ce0
  replace cm0 : S0 → ∀ k0 : Int, 0 ≤ k0 → k0 ≤ 1000000000000000 → ∃ (R0 : List (List AC)) (K : Int), k0 ≤ K ∧ K ≤ k0 + 100000000000000 ∧ (∀ b0 : List Nat, (b0).Nodup → MCon Try.prog 24 [.agg [.fv b0 V00], ai k0] [(b0, V00, R0)] (.int .i64 K)) := by rw [hV00, hS0]; exact cm0
  replace r1 : RT (fun b => b < w.heap.size) w [] [] (.agg [.view V10, .view V11]) v1 := by rw [hV10, hV11]; exact r1
  replace cz1 : ∀ L : Int, 0 ≤ L → L ≤ 1048576 → PCon Try.prog 6 [.agg [.view V10, .view V11], ai L] (fun res rows => ∃ R : Int, res = .t (ai R) ∧ rows = [] ∧ (R ≤ L ∨ R < 0) ∧ (0 ≤ R → S1)) := by rw [hV10, hV11, hS1]; exact cz1
  replace ck1 : S1 → PCon Try.prog 8 [.agg [.view V10, .view V11]] (fun res rows => res = .t (.agg [.view V10, .view V11]) ∧ rows = []) := by rw [hV10, hV11, hS1]; exact ck1
  replace ct1 : S1 → TCon Try.prog 8 [.agg [.view V10, .view V11]] (fun lo res rows => (∃ b0 b1, res = .t (.agg [.fv b0 V10, .fv b1 V11]) ∧ NewB lo (b0 ++ b1)) ∧ plainV res = true ∧ rows = []) := by rw [hV10, hV11, hS1]; exact ct1
  replace ce1 : S1 → PCon Try.prog 12 [.agg [.view V10, .view V11], .agg [.view V10, .view V11]] (fun res rows => res = .t (abl true) ∧ rows = []) := by rw [hV10, hV11, hS1]; exact ce1
  replace cm1 : S1 → ∀ k0 : Int, 0 ≤ k0 → k0 ≤ 1000000000000000 → ∃ (R0 R1 : List (List AC)) (K : Int), k0 ≤ K ∧ K ≤ k0 + 100000000000000 ∧ (∀ b0 b1 : List Nat, (b0 ++ b1).Nodup → MCon Try.prog 13 [.agg [.fv b0 V10, .fv b1 V11], ai k0] [(b0, V10, R0), (b1, V11, R1)] (.int .i64 K)) := by rw [hV10, hV11, hS1]; exact cm1
  replace cs : S0 → S1 → TCon Try.prog 27 [.agg [.view V00], .agg [.view V10, .view V11], ai a2] (fun lo res rows => (∃ b0 b1, res = .t (.agg [.fv b0 G0, .fv b1 G1]) ∧ NewB lo (b0 ++ b1)) ∧ plainV res = true ∧ rows = []) := by rw [hV00, hV10, hV11, hS0, hS1, hG0, hG1]; exact cs
  replace ci : S0 → S1 → TCon Try.prog 28 [.agg [.view V00], .agg [.view V10, .view V11], ai a2] (fun lo res rows => (∃ b0 b1, res = .t (.agg [.fv b0 G0, .fv b1 G1]) ∧ NewB lo (b0 ++ b1)) ∧ plainV res = true ∧ rows = []) := by rw [hV00, hV10, hV11, hS0, hS1, hG0, hG1]; exact ci
  replace eg : S0 → S1 → PCon Try.prog 12 [.agg [.view G0, .view G1], .agg [.view G0, .view G1]] (fun res rows => res = .t (abl true) ∧ rows = []) := by rw [hS0, hS1, hG0, hG1]; exact eg
  replace cg : S0 → S1 → ∃ (R0 R1 : List (List AC)) (K : Int), 1 ≤ K ∧ K ≤ 1 + 100000000000000 ∧ (∀ b0 b1 : List Nat, (b0 ++ b1).Nodup → MCon Try.prog 13 [.agg [.fv b0 G0, .fv b1 G1], ai 1] [(b0, G0, R0), (b1, G1, R1)] (.int .i64 K)) ∧ PCon Try.prog 29 [.agg [.view R0, .view R1], ai 1] (fun res rows => res = .t (ai K) ∧ rows = []) := by rw [hS0, hS1, hG0, hG1]; exact cg
  have cw : S0 → S1 → PCon Try.prog 27 [.agg [.view V00], .agg [.view V10, .view V11], ai a2] (fun res rows => res = .t (.agg [.view G0, .view G1]) ∧ rows = []) := fun h0 h1 => pcon_of_tcon (y := .agg [.view G0, .view G1]) (Q := fun _ _ => True) ((cs h0 h1).mono fun lo res rows ⟨⟨b0, b1, h1, h2⟩, h3, h4⟩ => ⟨⟨_, h1, ⟨.inl rfl, .inl rfl, trivial⟩, trivial⟩, h3, h4⟩)
  have ch : S0 → S1 → PCon Try.prog 28 [.agg [.view V00], .agg [.view V10, .view V11], ai a2] (fun res rows => res = .t (.agg [.view G0, .view G1]) ∧ rows = []) := fun h0 h1 => pcon_of_tcon (y := .agg [.view G0, .view G1]) (Q := fun _ _ => True) ((ci h0 h1).mono fun lo res rows ⟨⟨b0, b1, h1, h2⟩, h3, h4⟩ => ⟨⟨_, h1, ⟨.inl rfl, .inl rfl, trivial⟩, trivial⟩, h3, h4⟩)
  clear cs hS0 hV00 f0 hS1 hV10 hV11 f1 hG0 hG1
  refine law_cut 7 [(19, .hand), (20, .hand), (24, .hand)] [] (S0 ∧ S1) (args := fun lo => [.agg [.old lo V00], .agg [.old lo V10, .old lo V11], ai a2]) (c := body Try.f5) (fun lo => [(2, .t (ai a2)), (3, .t (.c (.ptr 0 0 0))), (4, .t (.c (.ptr 1 0 0))), (8, .t (.c (.ptr 2 0 0)))]) (fun lo => [.bx 48 1 [.old lo V00], .bx 25 2 [.old lo V10, .old lo V11], .bx 37 2 [.view G0, .view G1]]) fits Try.func5 (by kernel_rfl) (by kernel_rfl) (fun _ => by rfl) (by kernel_rfl) (fun β g eff hd F B hex heff hhd hg hF hB => ?_) (fun β lo g eff hd F ⟨hs0, hs1⟩ hlo hex heff hhd hg hF => ?_) (vs := [v0, v1, .int .i64 a2]) rfl (argsR_cons (rt_old (xs := [.view V00]) rfl r0) (argsR_cons (rt_old (xs := [.view V10, .view V11]) rfl r1) (argsR_cons (rt_int _) (argsR_nil))))
  · clear r0 r1
    cbv
    refine callDw hg (cz0 1048576 (by decide) (by decide)) ⟨⟨rfl, trivial⟩, rfl, trivial⟩ (fun res rows ⟨R0, hres, hrows, hz0, hy0⟩ => ?_)
    subst hres hrows
    refine ⟨[], rfl, ?_⟩
    cbv
    cases hl0 : g .q .lss R0 0
    case true =>
      cbv
      rw [hF]
    rw [goLss hg, decide_eq_false_iff_not] at hl0
    have hs0 : S0 := hy0 (by omega)
    cbv
    refine callDw hg (cz1 R0 (by omega) (by omega)) ⟨⟨rfl, rfl, trivial⟩, rfl, trivial⟩ (fun res rows ⟨R1, hres, hrows, hz1, hy1⟩ => ?_)
    subst hres hrows
    refine ⟨[], rfl, ?_⟩
    cbv
    cases hl1 : g .q .lss R1 0
    case true =>
      cbv
      rw [hF]
    rw [goLss hg, decide_eq_false_iff_not] at hl1
    have hs1 : S1 := hy1 (by omega)
    cbv
    clear cz0 cz1
    repeat' (first | (refine call0DwP hg (ck0 hs0) ⟨⟨rfl, trivial⟩, trivial⟩ rfl ?_; cbv) | (refine call0DwP hg (ck1 hs1) ⟨⟨rfl, rfl, trivial⟩, trivial⟩ rfl ?_; cbv) | (refine call0DwP hg (cw hs0 hs1) (dwA_same rfl) rfl ?_; cbv))
    skip
    exact hB ⟨hs0, hs1⟩ _ _ (Wk.weak (wkG [some 0, some 1, some 2] ⟨rfl, rfl, rfl, rfl, trivial⟩ ⟨⟨_, _, rfl, rfl, rfl, rfl, .inl ⟨rfl, rfl⟩⟩, ⟨_, _, rfl, rfl, rfl, rfl, .inl ⟨rfl, rfl⟩⟩, ⟨_, _, rfl, rfl, rfl, rfl, .inl ⟨rfl, rfl⟩⟩, trivial⟩ (by decide) no_lt))
  · clear r0 r1 cz0 cz1 cw
    replace ck0 := ck0 hs0
    replace ct0 := ct0 hs0
    replace ce0 := ce0 hs0
    replace cm0 := cm0 hs0
    replace ck1 := ck1 hs1
    replace ct1 := ct1 hs1
    replace ce1 := ce1 hs1
    replace cm1 := cm1 hs1
    replace ci := ci hs0 hs1
    replace ch := ch hs0 hs1
    replace eg := eg hs0 hs1
    replace cg := cg hs0 hs1
    cbv
    refine callT0 hg ct0 ⟨⟨rfl, trivial⟩, trivial⟩ (fun lo0 res q1 q2 q3 ⟨b00, hres, hn0⟩ => ?_)
    subst hres
    have p0 : β.lo ≤ lo0 := q1
    clear q1 q2 q3
    cbv
    have l_b00 : ∀ b ∈ b00, lo0 ≤ b := fun b hb => hn0.2 b (by simp [hb])
    refine callT0 hg ct1 ⟨⟨rfl, rfl, trivial⟩, trivial⟩ (fun lo1 res q1 q2 q3 ⟨b10, b11, hres, hn1⟩ => ?_)
    subst hres
    have p1 : β.lo ≤ lo1 := q1
    have u_1_b00 : ∀ b ∈ b00, b < lo1 := fun b hb => q2 b (by simp [fpH, fpL, fpC, hb])
    clear q1 q2 q3
    cbv
    have l_b10 : ∀ b ∈ b10, lo1 ≤ b := fun b hb => hn1.2 b (by simp [hb])
    have l_b11 : ∀ b ∈ b11, lo1 ≤ b := fun b hb => hn1.2 b (by simp [hb])
    refine callT0 hg ci ⟨⟨.inl rfl, trivial⟩, ⟨.inl rfl, .inl rfl, trivial⟩, rfl, trivial⟩ (fun log res q1 q2 q3 ⟨c0, c1, hres, hng⟩ => ?_)
    subst hres
    have pg : β.lo ≤ log := q1
    have u_g_b00 : ∀ b ∈ b00, b < log := fun b hb => q2 b (by simp [fpH, fpL, fpC, hb])
    have u_g_b10 : ∀ b ∈ b10, b < log := fun b hb => q2 b (by simp [fpH, fpL, fpC, hb])
    have u_g_b11 : ∀ b ∈ b11, b < log := fun b hb => q2 b (by simp [fpH, fpL, fpC, hb])
    clear q1 q2 q3 ci ct0 ct1
    cbv
    have l_c0 : ∀ b ∈ c0, log ≤ b := fun b hb => hng.2 b (by simp [hb])
    have l_c1 : ∀ b ∈ c1, log ≤ b := fun b hb => hng.2 b (by simp [hb])
    refine call0Dw hg eg ⟨⟨.inl rfl, .inl rfl, trivial⟩, ⟨rfl, rfl, trivial⟩, trivial⟩ rfl ?_
    cbv
    refine call0DwP hg ck0 ⟨⟨rfl, trivial⟩, trivial⟩ rfl ?_
    cbv
    refine call0DwP hg ce0 ⟨⟨.inl rfl, trivial⟩, ⟨rfl, trivial⟩, trivial⟩ rfl ?_
    cbv
    refine call0DwP hg ck1 ⟨⟨rfl, rfl, trivial⟩, trivial⟩ rfl ?_
    cbv
    refine call0DwP hg ce1 ⟨⟨.inl rfl, .inl rfl, trivial⟩, ⟨rfl, rfl, trivial⟩, trivial⟩ rfl ?_
    cbv
    obtain ⟨Z00, K0, hK0, hL0, hm0⟩ := cm0 1 (by decide) (by decide)
    have hU1 : ∀ u ∈ [(b00, V00, Z00)], ∀ b ∈ u.1, lo0 ≤ b := fun u hu => by
      simp only [List.mem_cons, List.mem_nil_iff, or_false, List.not_mem_nil] at hu
      rcases hu with rfl
      · exact l_b00
    have hV1 : ∀ u ∈ [(b00, V00, Z00)], ∀ b ∈ u.1, b < lo1 := fun u hu => by
      simp only [List.mem_cons, List.mem_nil_iff, or_false, List.not_mem_nil] at hu
      rcases hu with rfl
      · exact u_1_b00
    have hVg : ∀ u ∈ [(b00, V00, Z00)], ∀ b ∈ u.1, b < log := fun u hu => by
      simp only [List.mem_cons, List.mem_nil_iff, or_false, List.not_mem_nil] at hu
      rcases hu with rfl
      · exact u_g_b00
    have hUm : ∀ u ∈ [(b00, V00, Z00)], ∃ x ∈ ([.agg [.fv b00 V00], ai 1] : List AT), .fv u.1 u.2.1 ∈ x.cells := fun u hu => by
      simp only [List.mem_cons, List.mem_nil_iff, or_false, List.not_mem_nil] at hu
      rcases hu with rfl
      · exact ⟨_, List.mem_cons_self .., List.mem_cons_self ..⟩
    refine hand_mark hg hhd fits 2 (by kernel_rfl) (fun mk hmk => ?_)
    cbv
    subst hmk
    refine ⟨_, _, _, [(b00, V00, Z00)], _, [(2, .t (ai a2)), (3, .t (.c (.ptr 0 0 0))), (4, .t (.c (.ptr 1 0 0))), (8, .t (.c (.ptr 2 0 0))), (9, .t (.c (.ptr 3 0 0))), (10, .t (.c (.ptr 4 0 0))), (11, .t (.c (.ptr 5 0 0)))], [.bx 48 1 [.old lo V00], .bx 25 2 [.old lo V10, .old lo V11], .bx 37 2 [.old β.lo G0, .old β.lo G1], .bx 55 1 [.dead], .bx 37 2 [.fv b10 V10, .fv b11 V11], .bx 37 2 [.fv c0 G0, .fv c1 G1]], rfl, rfl, rfl, rfl, rfl, hm0 b00 hn0.1, fun u hu b hb => hex b (Nat.le_trans p0 (hU1 u hu b hb)), fun u hu => hUm u hu, ⟨.inr (.inl ⟨rfl, trivial⟩), .inr (.inl ⟨rfl, trivial⟩), .inr (.inl ⟨rfl, trivial⟩), .inr (.inl ⟨rfl, trivial⟩), .inr (.inl ⟨rfl, trivial⟩), .inr (.inl ⟨rfl, trivial⟩), .inr (.inl ⟨rfl, trivial⟩), trivial⟩, ⟨⟨rfl, rfl, .inr (.inl ⟨rfl, okM_old (Nat.le_trans hlo p0) hU1⟩), trivial⟩, ⟨rfl, rfl, .inr (.inl ⟨rfl, okM_old (Nat.le_trans hlo p0) hU1⟩), .inr (.inl ⟨rfl, okM_old (Nat.le_trans hlo p0) hU1⟩), trivial⟩, ⟨rfl, rfl, .inr (.inl ⟨rfl, okM_old p0 hU1⟩), .inr (.inl ⟨rfl, okM_old p0 hU1⟩), trivial⟩, ⟨rfl, rfl, .inl rfl, trivial⟩, ⟨rfl, rfl, .inr (.inl ⟨rfl, okM_gt l_b10 hV1⟩), .inr (.inl ⟨rfl, okM_gt l_b11 hV1⟩), trivial⟩, ⟨rfl, rfl, .inr (.inl ⟨rfl, okM_gt l_c0 hVg⟩), .inr (.inl ⟨rfl, okM_gt l_c1 hVg⟩), trivial⟩, trivial⟩, ?_⟩
    clear hU1 hUm hVg hm0 hV1
    cbv
    obtain ⟨Z10, Z11, K1, hK1, hL1, hm1⟩ := cm1 K0 (by omega) (by omega)
    have hU1 : ∀ u ∈ [(b10, V10, Z10), (b11, V11, Z11)], ∀ b ∈ u.1, lo1 ≤ b := fun u hu => by
      simp only [List.mem_cons, List.mem_nil_iff, or_false, List.not_mem_nil] at hu
      rcases hu with rfl | rfl
      · exact l_b10
      · exact l_b11
    have hVg : ∀ u ∈ [(b10, V10, Z10), (b11, V11, Z11)], ∀ b ∈ u.1, b < log := fun u hu => by
      simp only [List.mem_cons, List.mem_nil_iff, or_false, List.not_mem_nil] at hu
      rcases hu with rfl | rfl
      · exact u_g_b10
      · exact u_g_b11
    have hUm : ∀ u ∈ [(b10, V10, Z10), (b11, V11, Z11)], ∃ x ∈ ([.agg [.fv b10 V10, .fv b11 V11], ai K0] : List AT), .fv u.1 u.2.1 ∈ x.cells := fun u hu => by
      simp only [List.mem_cons, List.mem_nil_iff, or_false, List.not_mem_nil] at hu
      rcases hu with rfl | rfl
      · exact ⟨_, List.mem_cons_self .., List.mem_cons_self ..⟩
      · exact ⟨_, List.mem_cons_self .., List.mem_cons_of_mem _ (List.mem_cons_self ..)⟩
    refine hand_mark hg hhd fits 2 (by kernel_rfl) (fun mk hmk => ?_)
    cbv
    subst hmk
    refine ⟨_, _, _, [(b10, V10, Z10), (b11, V11, Z11)], _, [(2, .t (ai a2)), (3, .t (.c (.ptr 0 0 0))), (4, .t (.c (.ptr 1 0 0))), (8, .t (.c (.ptr 2 0 0))), (9, .t (.c (.ptr 3 0 0))), (10, .t (.c (.ptr 4 0 0))), (11, .t (.c (.ptr 5 0 0))), (12, .t (ai K0))], [.bx 48 1 [.old lo V00], .bx 25 2 [.old lo V10, .old lo V11], .bx 37 2 [.old β.lo G0, .old β.lo G1], .bx 55 1 [.dead], .bx 37 2 [.dead, .dead], .bx 37 2 [.fv c0 G0, .fv c1 G1]], rfl, rfl, rfl, rfl, rfl, hm1 b10 b11 hn1.1, fun u hu b hb => hex b (Nat.le_trans p1 (hU1 u hu b hb)), fun u hu => hUm u hu, ⟨.inr (.inl ⟨rfl, trivial⟩), .inr (.inl ⟨rfl, trivial⟩), .inr (.inl ⟨rfl, trivial⟩), .inr (.inl ⟨rfl, trivial⟩), .inr (.inl ⟨rfl, trivial⟩), .inr (.inl ⟨rfl, trivial⟩), .inr (.inl ⟨rfl, trivial⟩), .inr (.inl ⟨rfl, trivial⟩), trivial⟩, ⟨⟨rfl, rfl, .inr (.inl ⟨rfl, okM_old (Nat.le_trans hlo p1) hU1⟩), trivial⟩, ⟨rfl, rfl, .inr (.inl ⟨rfl, okM_old (Nat.le_trans hlo p1) hU1⟩), .inr (.inl ⟨rfl, okM_old (Nat.le_trans hlo p1) hU1⟩), trivial⟩, ⟨rfl, rfl, .inr (.inl ⟨rfl, okM_old p1 hU1⟩), .inr (.inl ⟨rfl, okM_old p1 hU1⟩), trivial⟩, ⟨rfl, rfl, .inl rfl, trivial⟩, ⟨rfl, rfl, .inl rfl, .inl rfl, trivial⟩, ⟨rfl, rfl, .inr (.inl ⟨rfl, okM_gt l_c0 hVg⟩), .inr (.inl ⟨rfl, okM_gt l_c1 hVg⟩), trivial⟩, trivial⟩, ?_⟩
    clear hU1 hUm hVg hm1
    cbv
    have eK : g .q .lss K1 0 = false := by rw [goLss hg]; exact decide_eq_false (by omega)
    rw [eK]
    cbv
    refine call0Dw hg eg ⟨⟨.inl rfl, .inl rfl, trivial⟩, ⟨rfl, rfl, trivial⟩, trivial⟩ rfl ?_
    cbv
    obtain ⟨Y0, Y1, M, hM0, hM1, hmg, hd2⟩ := cg
    have hU1 : ∀ u ∈ [(c0, G0, Y0), (c1, G1, Y1)], ∀ b ∈ u.1, log ≤ b := fun u hu => by
      simp only [List.mem_cons, List.mem_nil_iff, or_false, List.not_mem_nil] at hu
      rcases hu with rfl | rfl
      · exact l_c0
      · exact l_c1
    have hUm : ∀ u ∈ [(c0, G0, Y0), (c1, G1, Y1)], ∃ x ∈ ([.agg [.fv c0 G0, .fv c1 G1], ai 1] : List AT), .fv u.1 u.2.1 ∈ x.cells := fun u hu => by
      simp only [List.mem_cons, List.mem_nil_iff, or_false, List.not_mem_nil] at hu
      rcases hu with rfl | rfl
      · exact ⟨_, List.mem_cons_self .., List.mem_cons_self ..⟩
      · exact ⟨_, List.mem_cons_self .., List.mem_cons_of_mem _ (List.mem_cons_self ..)⟩
    refine hand_mark hg hhd fits 2 (by kernel_rfl) (fun mk hmk => ?_)
    cbv
    subst hmk
    refine ⟨_, _, _, [(c0, G0, Y0), (c1, G1, Y1)], _, [(2, .t (ai a2)), (3, .t (.c (.ptr 0 0 0))), (4, .t (.c (.ptr 1 0 0))), (8, .t (.c (.ptr 2 0 0))), (9, .t (.c (.ptr 3 0 0))), (10, .t (.c (.ptr 4 0 0))), (11, .t (.c (.ptr 5 0 0)))], [.bx 48 1 [.old lo V00], .bx 25 2 [.old lo V10, .old lo V11], .bx 37 2 [.old β.lo G0, .old β.lo G1], .bx 55 1 [.dead], .bx 37 2 [.dead, .dead], .bx 37 2 [.fv c0 Y0, .fv c1 Y1]], rfl, rfl, rfl, rfl, rfl, hmg c0 c1 hng.1, fun u hu b hb => hex b (Nat.le_trans pg (hU1 u hu b hb)), fun u hu => hUm u hu, ⟨.inr (.inl ⟨rfl, trivial⟩), .inr (.inl ⟨rfl, trivial⟩), .inr (.inl ⟨rfl, trivial⟩), .inr (.inl ⟨rfl, trivial⟩), .inr (.inl ⟨rfl, trivial⟩), .inr (.inl ⟨rfl, trivial⟩), .inr (.inl ⟨rfl, trivial⟩), trivial⟩, ⟨⟨rfl, rfl, .inr (.inl ⟨rfl, okM_old (Nat.le_trans hlo pg) hU1⟩), trivial⟩, ⟨rfl, rfl, .inr (.inl ⟨rfl, okM_old (Nat.le_trans hlo pg) hU1⟩), .inr (.inl ⟨rfl, okM_old (Nat.le_trans hlo pg) hU1⟩), trivial⟩, ⟨rfl, rfl, .inr (.inl ⟨rfl, okM_old pg hU1⟩), .inr (.inl ⟨rfl, okM_old pg hU1⟩), trivial⟩, ⟨rfl, rfl, .inl rfl, trivial⟩, ⟨rfl, rfl, .inl rfl, .inl rfl, trivial⟩, ⟨rfl, rfl, .inr (.inr ⟨_, List.mem_cons_self .., rfl, rfl⟩), .inr (.inr ⟨_, List.mem_cons_of_mem _ (List.mem_cons_self ..), rfl, rfl⟩), trivial⟩, trivial⟩, ?_⟩
    clear hU1 hUm hmg
    cbv
    have eM : g .q .lss M 0 = false := by rw [goLss hg]; exact decide_eq_false (by omega)
    have eN : g .q .neq M M = false := by rw [goNeq hg]; simp
    refine call0Dw hg hd2 ⟨⟨.inl rfl, .inl rfl, trivial⟩, rfl, trivial⟩ rfl ?_
    cbv
    rw [eM]
    cbv
    rw [eN]
    cbv
    repeat' (first | (refine call0DwP hg ck0 ⟨⟨rfl, trivial⟩, trivial⟩ rfl ?_; cbv) | (refine call0DwP hg ck1 ⟨⟨rfl, rfl, trivial⟩, trivial⟩ rfl ?_; cbv) | (refine call0DwP hg ch (dwA_same rfl) rfl ?_; cbv))
    refine call0Dw hg eg ⟨⟨rfl, rfl, trivial⟩, ⟨rfl, rfl, trivial⟩, trivial⟩ rfl ?_
    cbv
    refine call0Dw hg hd2 ⟨⟨.inl rfl, .inl rfl, trivial⟩, rfl, trivial⟩ rfl ?_
    cbv
    rw [eM]
    cbv
    rw [eN]
    cbv
    rw [hF]

end Go.Proofs.Ytenbloaopcfdlaa
