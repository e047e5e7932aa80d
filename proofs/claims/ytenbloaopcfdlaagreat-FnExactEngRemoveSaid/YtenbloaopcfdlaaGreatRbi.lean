/- The law of EngRemove. -/
import Derived.Test.YtenbloaopcfdlaaGreatRbh
namespace Go.Proofs.YtenbloaopcfdlaaGreat
open Go.ChangeShapes Go.WideShapes Go.ChangeAt Go.RowKit Am
set_option linter.unusedVariables false
set_option linter.unusedSimpArgs false
set_option maxRecDepth 100000
set_option maxHeartbeats 16000000 in
theorem laws_FnExactEngRemove_w (w : World) (a0 : NEngine) (f0 : a0.fit) (v0 : Value) (r0 : RT (fun b => b < w.heap.size) w [] [] (.agg a0.ac) v0) (a1 : Int) (a2 : Int) :
    Calls Tryz.prog 8 #[v0, .int .i64 a1, .int .i64 a2] w fun e w' => e = .returned (.bool true) ∧ Below w.heap.size w w' := by
  have cz0 := fun (L : Int) (h0 : 0 ≤ L) (h1 : L ≤ 1048576) => laws_szEngine_n a0 L f0 h0 h1
  have ck0 : a0.small → _ := fun hs => laws_toEngine_n a0 hs
  have ct0 : a0.small → _ := fun hs => laws_toEngine_t a0 hs
  have ce0 : a0.small → _ := fun hs => laws_eqEngine_n a0 hs
  have cm0 : a0.small → _ := fun hs => markEngine_m a0 hs
  have cs := fun (hs0 : a0.small) => spec_EngRemove_t a0 hs0 a1 a2
  have ci := fun (hs0 : a0.small) => impl_EngRemove_t a0 hs0 a1 a2
  have hR := fun (hs0 : a0.small) => rmT_small a0 (rmI a0.tree.nodes a1 a2) a1 a1 a2 hs0
  have eg := fun (hs0 : a0.small) => laws_eqEngine_n _ (hR hs0)
  have cg := fun (hs0 : a0.small) => markEngine_h _ (hR hs0)
  clear hR
  obtain ⟨S0, hS0⟩ : ∃ S : Prop, S = a0.small := ⟨_, rfl⟩
  obtain ⟨⟨a0ns⟩, ⟨a0ms, a0qs⟩, a0fs, a0e0, a0e1, a0e2, a0e3⟩ := a0
  obtain ⟨V00, hV00⟩ : ∃ V, V = vwA NNode.ac a0ns := ⟨_, rfl⟩
  obtain ⟨V01, hV01⟩ : ∃ V, V = vwA NMemo.ac a0ms := ⟨_, rfl⟩
  obtain ⟨V02, hV02⟩ : ∃ V, V = vw GAsked.c a0qs := ⟨_, rfl⟩
  obtain ⟨V03, hV03⟩ : ∃ V, V = vw GFrame.c a0fs := ⟨_, rfl⟩

  obtain ⟨G0, hG0⟩ : ∃ V, V = vwA NNode.ac (rmN a0ns a1 a2) := ⟨_, rfl⟩
  obtain ⟨G1, hG1⟩ : ∃ V, V = vwA NMemo.ac (kpM (rmN a0ns a1 a2) a0ms (rmI a0ns a1 a2) a1) := ⟨_, rfl⟩
  obtain ⟨G2, hG2⟩ : ∃ V, V = vw GAsked.c a0qs := ⟨_, rfl⟩
  obtain ⟨G3, hG3⟩ : ∃ V, V = vw GFrame.c a0fs := ⟨_, rfl⟩
  obtain ⟨X0, hX0⟩ : ∃ X : Int, X = rmI a0ns a1 a2 := ⟨_, rfl⟩
  replace r0 : RT (fun b => b < w.heap.size) w [] [] (.agg [.view V00, .view V01, .view V02, .view V03, .imm (.int .i64 a0e0), .imm (.int .i64 a0e1), .imm (.int .i64 a0e2), .imm (.bool a0e3)]) v0 := by rw [hV00, hV01, hV02, hV03]; exact r0
  replace cz0 : ∀ L : Int, 0 ≤ L → L ≤ 1048576 → PCon Tryz.prog 9 [.agg [.view V00, .view V01, .view V02, .view V03, .imm (.int .i64 a0e0), .imm (.int .i64 a0e1), .imm (.int .i64 a0e2), .imm (.bool a0e3)], ai L] (fun res rows => ∃ R : Int, res = .t (ai R) ∧ rows = [] ∧ (R ≤ L ∨ R < 0) ∧ (0 ≤ R → S0)) := by rw [hV00, hV01, hV02, hV03, hS0]; exact cz0
  replace ck0 : S0 → PCon Tryz.prog 11 [.agg [.view V00, .view V01, .view V02, .view V03, .imm (.int .i64 a0e0), .imm (.int .i64 a0e1), .imm (.int .i64 a0e2), .imm (.bool a0e3)]] (fun res rows => res = .t (.agg [.view V00, .view V01, .view V02, .view V03, .imm (.int .i64 a0e0), .imm (.int .i64 a0e1), .imm (.int .i64 a0e2), .imm (.bool a0e3)]) ∧ rows = []) := by rw [hV00, hV01, hV02, hV03, hS0]; exact ck0
  replace ct0 : S0 → TCon Tryz.prog 11 [.agg [.view V00, .view V01, .view V02, .view V03, .imm (.int .i64 a0e0), .imm (.int .i64 a0e1), .imm (.int .i64 a0e2), .imm (.bool a0e3)]] (fun lo res rows => (∃ b0 b1 b2 b3, res = .t (.agg [.fv b0 V00, .fv b1 V01, .fv b2 V02, .fv b3 V03, .imm (.int .i64 a0e0), .imm (.int .i64 a0e1), .imm (.int .i64 a0e2), .imm (.bool a0e3)]) ∧ NewB lo (b0 ++ b1 ++ b2 ++ b3)) ∧ plainV res = true ∧ rows = []) := by rw [hV00, hV01, hV02, hV03, hS0]; exact ct0
  replace ce0 : S0 → PCon Tryz.prog 14 [.agg [.view V00, .view V01, .view V02, .view V03, .imm (.int .i64 a0e0), .imm (.int .i64 a0e1), .imm (.int .i64 a0e2), .imm (.bool a0e3)], .agg [.view V00, .view V01, .view V02, .view V03, .imm (.int .i64 a0e0), .imm (.int .i64 a0e1), .imm (.int .i64 a0e2), .imm (.bool a0e3)]] (fun res rows => res = .t (abl true) ∧ rows = []) := by rw [hV00, hV01, hV02, hV03, hS0]; exact ce0
  replace cm0 : S0 → ∀ k0 : Int, 0 ≤ k0 → k0 ≤ 1000000000000000 → ∃ (R0 R1 R2 R3 : List (List AC)) (K : Int), k0 ≤ K ∧ K ≤ k0 + 100000000000000 ∧ (∀ b0 b1 b2 b3 : List Nat, (b0 ++ b1 ++ b2 ++ b3).Nodup → MCon Tryz.prog 15 [.agg [.fv b0 V00, .fv b1 V01, .fv b2 V02, .fv b3 V03, .imm (.int .i64 a0e0), .imm (.int .i64 a0e1), .imm (.int .i64 a0e2), .imm (.bool a0e3)], ai k0] [(b0, V00, R0), (b1, V01, R1), (b2, V02, R2), (b3, V03, R3)] (.int .i64 K)) := by rw [hV00, hV01, hV02, hV03, hS0]; exact cm0
  replace cs : S0 → TCon Tryz.prog 29 [.agg [.view V00, .view V01, .view V02, .view V03, .imm (.int .i64 a0e0), .imm (.int .i64 a0e1), .imm (.int .i64 a0e2), .imm (.bool a0e3)], ai a1, ai a2] (fun lo res rows => (∃ b0 b1 b2 b3, res = .tup [.agg [.fv b0 G0, .fv b1 G1, .fv b2 G2, .fv b3 G3, .imm (.int .i64 a0e0), .imm (.int .i64 a0e1), .imm (.int .i64 a0e2), .imm (.bool a0e3)], ai X0] ∧ NewB lo (b0 ++ b1 ++ b2 ++ b3)) ∧ plainV res = true ∧ rows = []) := by rw [hV00, hV01, hV02, hV03, hS0, hG0, hG1, hG2, hG3, hX0]; exact cs
  replace ci : S0 → TCon Tryz.prog 30 [.agg [.view V00, .view V01, .view V02, .view V03, .imm (.int .i64 a0e0), .imm (.int .i64 a0e1), .imm (.int .i64 a0e2), .imm (.bool a0e3)], ai a1, ai a2] (fun lo res rows => (∃ b0 b1 b2 b3, res = .tup [.agg [.fv b0 G0, .fv b1 G1, .fv b2 G2, .fv b3 G3, .imm (.int .i64 a0e0), .imm (.int .i64 a0e1), .imm (.int .i64 a0e2), .imm (.bool a0e3)], ai X0] ∧ NewB lo (b0 ++ b1 ++ b2 ++ b3)) ∧ plainV res = true ∧ rows = []) := by rw [hV00, hV01, hV02, hV03, hS0, hG0, hG1, hG2, hG3, hX0]; exact ci
  replace eg : S0 → PCon Tryz.prog 14 [.agg [.view G0, .view G1, .view G2, .view G3, .imm (.int .i64 a0e0), .imm (.int .i64 a0e1), .imm (.int .i64 a0e2), .imm (.bool a0e3)], .agg [.view G0, .view G1, .view G2, .view G3, .imm (.int .i64 a0e0), .imm (.int .i64 a0e1), .imm (.int .i64 a0e2), .imm (.bool a0e3)]] (fun res rows => res = .t (abl true) ∧ rows = []) := by rw [hS0, hG0, hG1, hG2, hG3]; exact eg
  replace cg : S0 → ∃ (R0 R1 R2 R3 : List (List AC)) (K : Int), 1 ≤ K ∧ K ≤ 1 + 100000000000000 ∧ (∀ b0 b1 b2 b3 : List Nat, (b0 ++ b1 ++ b2 ++ b3).Nodup → MCon Tryz.prog 15 [.agg [.fv b0 G0, .fv b1 G1, .fv b2 G2, .fv b3 G3, .imm (.int .i64 a0e0), .imm (.int .i64 a0e1), .imm (.int .i64 a0e2), .imm (.bool a0e3)], ai 1] [(b0, G0, R0), (b1, G1, R1), (b2, G2, R2), (b3, G3, R3)] (.int .i64 K)) ∧ PCon Tryz.prog 16 [.agg [.view R0, .view R1, .view R2, .view R3, .imm (.int .i64 a0e0), .imm (.int .i64 a0e1), .imm (.int .i64 a0e2), .imm (.bool a0e3)], ai 1] (fun res rows => res = .t (ai K) ∧ rows = []) := by rw [hS0, hG0, hG1, hG2, hG3]; exact cg
  have cw : S0 → PCon Tryz.prog 29 [.agg [.view V00, .view V01, .view V02, .view V03, .imm (.int .i64 a0e0), .imm (.int .i64 a0e1), .imm (.int .i64 a0e2), .imm (.bool a0e3)], ai a1, ai a2] (fun res rows => res = .tup [.agg [.view G0, .view G1, .view G2, .view G3, .imm (.int .i64 a0e0), .imm (.int .i64 a0e1), .imm (.int .i64 a0e2), .imm (.bool a0e3)], ai X0] ∧ rows = []) := fun h0 => pcon_of_tcon2 (y := .agg [.view G0, .view G1, .view G2, .view G3, .imm (.int .i64 a0e0), .imm (.int .i64 a0e1), .imm (.int .i64 a0e2), .imm (.bool a0e3)]) (Q := fun _ _ => True) ((cs h0).mono fun lo res rows ⟨⟨b0, b1, b2, b3, h1, h2⟩, h3, h4⟩ => ⟨⟨_, h1, ⟨.inl rfl, .inl rfl, .inl rfl, .inl rfl, rfl, rfl, rfl, rfl, trivial⟩, trivial⟩, h3, h4⟩)
  have ch : S0 → PCon Tryz.prog 30 [.agg [.view V00, .view V01, .view V02, .view V03, .imm (.int .i64 a0e0), .imm (.int .i64 a0e1), .imm (.int .i64 a0e2), .imm (.bool a0e3)], ai a1, ai a2] (fun res rows => res = .tup [.agg [.view G0, .view G1, .view G2, .view G3, .imm (.int .i64 a0e0), .imm (.int .i64 a0e1), .imm (.int .i64 a0e2), .imm (.bool a0e3)], ai X0] ∧ rows = []) := fun h0 => pcon_of_tcon2 (y := .agg [.view G0, .view G1, .view G2, .view G3, .imm (.int .i64 a0e0), .imm (.int .i64 a0e1), .imm (.int .i64 a0e2), .imm (.bool a0e3)]) (Q := fun _ _ => True) ((ci h0).mono fun lo res rows ⟨⟨b0, b1, b2, b3, h1, h2⟩, h3, h4⟩ => ⟨⟨_, h1, ⟨.inl rfl, .inl rfl, .inl rfl, .inl rfl, rfl, rfl, rfl, rfl, trivial⟩, trivial⟩, h3, h4⟩)
  clear cs hS0 hV00 hV01 hV02 hV03 f0 hG0 hG1 hG2 hG3 hX0
  refine law_cut 5 [(13, .hand), (17, .hand)] [] (S0) (args := fun lo => [.agg [.old lo V00, .old lo V01, .old lo V02, .old lo V03, .imm (.int .i64 a0e0), .imm (.int .i64 a0e1), .imm (.int .i64 a0e2), .imm (.bool a0e3)], ai a1, ai a2]) (c := body Tryz.f8) (fun lo => [(1, .t (ai a1)), (2, .t (ai a2)), (3, .t (.c (.ptr 0 0 0))), (8, .t (.c (.ptr 1 0 0))), (9, .t (ai X0))]) (fun lo => [.bx 31 8 [.old lo V00, .old lo V01, .old lo V02, .old lo V03, .imm (.int .i64 a0e0), .imm (.int .i64 a0e1), .imm (.int .i64 a0e2), .imm (.bool a0e3)], .bx 50 8 [.view G0, .view G1, .view G2, .view G3, .imm (.int .i64 a0e0), .imm (.int .i64 a0e1), .imm (.int .i64 a0e2), .imm (.bool a0e3)]]) fits Tryz.func8 (by kernel_rfl) (by kernel_rfl) (fun _ => by rfl) (by kernel_rfl) (fun β g eff hd F B hex heff hhd hg hF hB => ?_) (fun β lo g eff hd F hs0 hlo hex heff hhd hg hF => ?_) (vs := [v0, .int .i64 a1, .int .i64 a2]) rfl (argsR_cons (rt_old (xs := [.view V00, .view V01, .view V02, .view V03, .imm (.int .i64 a0e0), .imm (.int .i64 a0e1), .imm (.int .i64 a0e2), .imm (.bool a0e3)]) rfl r0) (argsR_cons (rt_int _) (argsR_cons (rt_int _) (argsR_nil))))
  · clear r0
    cbv
    refine callDw hg (cz0 1048576 (by decide) (by decide)) ⟨⟨rfl, rfl, rfl, rfl, rfl, rfl, rfl, rfl, trivial⟩, rfl, trivial⟩ (fun res rows ⟨R0, hres, hrows, hz0, hy0⟩ => ?_)
    subst hres hrows
    refine ⟨[], rfl, ?_⟩
    cbv
    cases hl0 : g .q .lss R0 0
    case true =>
      cbv
      rw [hF]
    rw [goLss hg, decide_eq_false_iff_not] at hl0
    have hs0 : S0 := hy0 (by omega)
    cbv
    clear cz0
    repeat' (first | (refine call0DwP hg (ck0 hs0) ⟨⟨rfl, rfl, rfl, rfl, rfl, rfl, rfl, rfl, trivial⟩, trivial⟩ rfl ?_; cbv) | (refine call0Dw hg (ck0 hs0) ⟨⟨rfl, rfl, rfl, rfl, rfl, rfl, rfl, rfl, trivial⟩, trivial⟩ rfl ?_; cbv) | (refine call0DwP hg (cw hs0) (dwA_same rfl) rfl ?_; cbv) | (refine call0Dw hg (cw hs0) (dwA_same rfl) rfl ?_; cbv))
    skip
    exact hB hs0 _ _ (Wk.weak (wkG [some 0, some 1] ⟨rfl, rfl, rfl, rfl, rfl, trivial⟩ ⟨⟨_, _, rfl, rfl, rfl, rfl, .inl ⟨rfl, rfl⟩⟩, ⟨_, _, rfl, rfl, rfl, rfl, .inl ⟨rfl, rfl⟩⟩, trivial⟩ (by decide) no_lt))
  · clear r0 cz0 cw
    replace ck0 := ck0 hs0
    replace ct0 := ct0 hs0
    replace ce0 := ce0 hs0
    replace cm0 := cm0 hs0
    replace ci := ci hs0
    replace ch := ch hs0
    replace eg := eg hs0
    replace cg := cg hs0
    cbv
    refine callT0 hg ct0 ⟨⟨rfl, rfl, rfl, rfl, rfl, rfl, rfl, rfl, trivial⟩, trivial⟩ (fun lo0 res q1 q2 q3 ⟨b00, b01, b02, b03, hres, hn0⟩ => ?_)
    subst hres
    have p0 : β.lo ≤ lo0 := q1
    clear q1 q2 q3
    cbv
    have l_b00 : ∀ b ∈ b00, lo0 ≤ b := fun b hb => hn0.2 b (by simp [hb])
    have l_b01 : ∀ b ∈ b01, lo0 ≤ b := fun b hb => hn0.2 b (by simp [hb])
    have l_b02 : ∀ b ∈ b02, lo0 ≤ b := fun b hb => hn0.2 b (by simp [hb])
    have l_b03 : ∀ b ∈ b03, lo0 ≤ b := fun b hb => hn0.2 b (by simp [hb])
    refine callT0 hg ci ⟨⟨.inl rfl, .inl rfl, .inl rfl, .inl rfl, rfl, rfl, rfl, rfl, trivial⟩, rfl, rfl, trivial⟩ (fun log res q1 q2 q3 ⟨c0, c1, c2, c3, hres, hng⟩ => ?_)
    subst hres
    have pg : β.lo ≤ log := q1
    have u_g_b00 : ∀ b ∈ b00, b < log := fun b hb => q2 b (by simp [fpH, fpL, fpC, hb])
    have u_g_b01 : ∀ b ∈ b01, b < log := fun b hb => q2 b (by simp [fpH, fpL, fpC, hb])
    have u_g_b02 : ∀ b ∈ b02, b < log := fun b hb => q2 b (by simp [fpH, fpL, fpC, hb])
    have u_g_b03 : ∀ b ∈ b03, b < log := fun b hb => q2 b (by simp [fpH, fpL, fpC, hb])
    clear q1 q2 q3 ci ct0
    cbv
    have l_c0 : ∀ b ∈ c0, log ≤ b := fun b hb => hng.2 b (by simp [hb])
    have l_c1 : ∀ b ∈ c1, log ≤ b := fun b hb => hng.2 b (by simp [hb])
    have l_c2 : ∀ b ∈ c2, log ≤ b := fun b hb => hng.2 b (by simp [hb])
    have l_c3 : ∀ b ∈ c3, log ≤ b := fun b hb => hng.2 b (by simp [hb])
    have eX : g .q .neq (X0) (X0) = false := by rw [goNeq hg]; simp
    refine call0Dw hg eg ⟨⟨.inl rfl, .inl rfl, .inl rfl, .inl rfl, rfl, rfl, rfl, rfl, trivial⟩, ⟨rfl, rfl, rfl, rfl, rfl, rfl, rfl, rfl, trivial⟩, trivial⟩ rfl ?_
    cbv
    rw [eX]
    cbv
    refine call0DwP hg ck0 ⟨⟨rfl, rfl, rfl, rfl, rfl, rfl, rfl, rfl, trivial⟩, trivial⟩ rfl ?_
    cbv
    refine call0DwP hg ce0 ⟨⟨.inl rfl, .inl rfl, .inl rfl, .inl rfl, rfl, rfl, rfl, rfl, trivial⟩, ⟨rfl, rfl, rfl, rfl, rfl, rfl, rfl, rfl, trivial⟩, trivial⟩ rfl ?_
    cbv
    obtain ⟨Z00, Z01, Z02, Z03, K0, hK0, hL0, hm0⟩ := cm0 1 (by decide) (by decide)
    have hU1 : ∀ u ∈ [(b00, V00, Z00), (b01, V01, Z01), (b02, V02, Z02), (b03, V03, Z03)], ∀ b ∈ u.1, lo0 ≤ b := fun u hu => by
      simp only [List.mem_cons, List.mem_nil_iff, or_false, List.not_mem_nil] at hu
      rcases hu with rfl | rfl | rfl | rfl
      · exact l_b00
      · exact l_b01
      · exact l_b02
      · exact l_b03
    have hVg : ∀ u ∈ [(b00, V00, Z00), (b01, V01, Z01), (b02, V02, Z02), (b03, V03, Z03)], ∀ b ∈ u.1, b < log := fun u hu => by
      simp only [List.mem_cons, List.mem_nil_iff, or_false, List.not_mem_nil] at hu
      rcases hu with rfl | rfl | rfl | rfl
      · exact u_g_b00
      · exact u_g_b01
      · exact u_g_b02
      · exact u_g_b03
    have hUm : ∀ u ∈ [(b00, V00, Z00), (b01, V01, Z01), (b02, V02, Z02), (b03, V03, Z03)], ∃ x ∈ ([.agg [.fv b00 V00, .fv b01 V01, .fv b02 V02, .fv b03 V03, .imm (.int .i64 a0e0), .imm (.int .i64 a0e1), .imm (.int .i64 a0e2), .imm (.bool a0e3)], ai 1] : List AT), .fv u.1 u.2.1 ∈ x.cells := fun u hu => by
      simp only [List.mem_cons, List.mem_nil_iff, or_false, List.not_mem_nil] at hu
      rcases hu with rfl | rfl | rfl | rfl
      · exact ⟨_, List.mem_cons_self .., List.mem_cons_self ..⟩
      · exact ⟨_, List.mem_cons_self .., List.mem_cons_of_mem _ (List.mem_cons_self ..)⟩
      · exact ⟨_, List.mem_cons_self .., List.mem_cons_of_mem _ (List.mem_cons_of_mem _ (List.mem_cons_self ..))⟩
      · exact ⟨_, List.mem_cons_self .., List.mem_cons_of_mem _ (List.mem_cons_of_mem _ (List.mem_cons_of_mem _ (List.mem_cons_self ..)))⟩
    refine hand_mark hg hhd fits 2 (by kernel_rfl) (fun mk hmk => ?_)
    cbv
    subst hmk
    refine ⟨_, _, _, [(b00, V00, Z00), (b01, V01, Z01), (b02, V02, Z02), (b03, V03, Z03)], _, [(1, .t (ai a1)), (2, .t (ai a2)), (3, .t (.c (.ptr 0 0 0))), (8, .t (.c (.ptr 1 0 0))), (9, .t (ai X0)), (10, .t (.c (.ptr 2 0 0))), (11, .t (.c (.ptr 3 0 0))), (12, .t (ai X0))], [.bx 31 8 [.old lo V00, .old lo V01, .old lo V02, .old lo V03, .imm (.int .i64 a0e0), .imm (.int .i64 a0e1), .imm (.int .i64 a0e2), .imm (.bool a0e3)], .bx 50 8 [.old β.lo G0, .old β.lo G1, .old β.lo G2, .old β.lo G3, .imm (.int .i64 a0e0), .imm (.int .i64 a0e1), .imm (.int .i64 a0e2), .imm (.bool a0e3)], .bx 50 8 [.dead, .dead, .dead, .dead, .imm (.int .i64 a0e0), .imm (.int .i64 a0e1), .imm (.int .i64 a0e2), .imm (.bool a0e3)], .bx 50 8 [.fv c0 G0, .fv c1 G1, .fv c2 G2, .fv c3 G3, .imm (.int .i64 a0e0), .imm (.int .i64 a0e1), .imm (.int .i64 a0e2), .imm (.bool a0e3)]], rfl, rfl, rfl, rfl, rfl, hm0 b00 b01 b02 b03 hn0.1, fun u hu b hb => hex b (Nat.le_trans p0 (hU1 u hu b hb)), fun u hu => hUm u hu, ⟨.inr (.inl ⟨rfl, trivial⟩), .inr (.inl ⟨rfl, trivial⟩), .inr (.inl ⟨rfl, trivial⟩), .inr (.inl ⟨rfl, trivial⟩), .inr (.inl ⟨rfl, trivial⟩), .inr (.inl ⟨rfl, trivial⟩), .inr (.inl ⟨rfl, trivial⟩), .inr (.inl ⟨rfl, trivial⟩), trivial⟩, ⟨⟨rfl, rfl, .inr (.inl ⟨rfl, okM_old (Nat.le_trans hlo p0) hU1⟩), .inr (.inl ⟨rfl, okM_old (Nat.le_trans hlo p0) hU1⟩), .inr (.inl ⟨rfl, okM_old (Nat.le_trans hlo p0) hU1⟩), .inr (.inl ⟨rfl, okM_old (Nat.le_trans hlo p0) hU1⟩), .inr (.inl ⟨rfl, trivial⟩), .inr (.inl ⟨rfl, trivial⟩), .inr (.inl ⟨rfl, trivial⟩), .inr (.inl ⟨rfl, trivial⟩), trivial⟩, ⟨rfl, rfl, .inr (.inl ⟨rfl, okM_old p0 hU1⟩), .inr (.inl ⟨rfl, okM_old p0 hU1⟩), .inr (.inl ⟨rfl, okM_old p0 hU1⟩), .inr (.inl ⟨rfl, okM_old p0 hU1⟩), .inr (.inl ⟨rfl, trivial⟩), .inr (.inl ⟨rfl, trivial⟩), .inr (.inl ⟨rfl, trivial⟩), .inr (.inl ⟨rfl, trivial⟩), trivial⟩, ⟨rfl, rfl, .inl rfl, .inl rfl, .inl rfl, .inl rfl, .inr (.inl ⟨rfl, trivial⟩), .inr (.inl ⟨rfl, trivial⟩), .inr (.inl ⟨rfl, trivial⟩), .inr (.inl ⟨rfl, trivial⟩), trivial⟩, ⟨rfl, rfl, .inr (.inl ⟨rfl, okM_gt l_c0 hVg⟩), .inr (.inl ⟨rfl, okM_gt l_c1 hVg⟩), .inr (.inl ⟨rfl, okM_gt l_c2 hVg⟩), .inr (.inl ⟨rfl, okM_gt l_c3 hVg⟩), .inr (.inl ⟨rfl, trivial⟩), .inr (.inl ⟨rfl, trivial⟩), .inr (.inl ⟨rfl, trivial⟩), .inr (.inl ⟨rfl, trivial⟩), trivial⟩, trivial⟩, ?_⟩
    clear hU1 hUm hVg hm0
    cbv
    have eK : g .q .lss K0 0 = false := by rw [goLss hg]; exact decide_eq_false (by omega)
    rw [eK]
    cbv
    refine call0Dw hg eg ⟨⟨.inl rfl, .inl rfl, .inl rfl, .inl rfl, rfl, rfl, rfl, rfl, trivial⟩, ⟨rfl, rfl, rfl, rfl, rfl, rfl, rfl, rfl, trivial⟩, trivial⟩ rfl ?_
    cbv
    rw [eX]
    cbv
    obtain ⟨Y0, Y1, Y2, Y3, M, hM0, hM1, hmg, hd2⟩ := cg
    have hU1 : ∀ u ∈ [(c0, G0, Y0), (c1, G1, Y1), (c2, G2, Y2), (c3, G3, Y3)], ∀ b ∈ u.1, log ≤ b := fun u hu => by
      simp only [List.mem_cons, List.mem_nil_iff, or_false, List.not_mem_nil] at hu
      rcases hu with rfl | rfl | rfl | rfl
      · exact l_c0
      · exact l_c1
      · exact l_c2
      · exact l_c3
    have hUm : ∀ u ∈ [(c0, G0, Y0), (c1, G1, Y1), (c2, G2, Y2), (c3, G3, Y3)], ∃ x ∈ ([.agg [.fv c0 G0, .fv c1 G1, .fv c2 G2, .fv c3 G3, .imm (.int .i64 a0e0), .imm (.int .i64 a0e1), .imm (.int .i64 a0e2), .imm (.bool a0e3)], ai 1] : List AT), .fv u.1 u.2.1 ∈ x.cells := fun u hu => by
      simp only [List.mem_cons, List.mem_nil_iff, or_false, List.not_mem_nil] at hu
      rcases hu with rfl | rfl | rfl | rfl
      · exact ⟨_, List.mem_cons_self .., List.mem_cons_self ..⟩
      · exact ⟨_, List.mem_cons_self .., List.mem_cons_of_mem _ (List.mem_cons_self ..)⟩
      · exact ⟨_, List.mem_cons_self .., List.mem_cons_of_mem _ (List.mem_cons_of_mem _ (List.mem_cons_self ..))⟩
      · exact ⟨_, List.mem_cons_self .., List.mem_cons_of_mem _ (List.mem_cons_of_mem _ (List.mem_cons_of_mem _ (List.mem_cons_self ..)))⟩
    refine hand_mark hg hhd fits 2 (by kernel_rfl) (fun mk hmk => ?_)
    cbv
    subst hmk
    refine ⟨_, _, _, [(c0, G0, Y0), (c1, G1, Y1), (c2, G2, Y2), (c3, G3, Y3)], _, [(1, .t (ai a1)), (2, .t (ai a2)), (3, .t (.c (.ptr 0 0 0))), (8, .t (.c (.ptr 1 0 0))), (9, .t (ai X0)), (10, .t (.c (.ptr 2 0 0))), (11, .t (.c (.ptr 3 0 0))), (12, .t (ai X0))], [.bx 31 8 [.old lo V00, .old lo V01, .old lo V02, .old lo V03, .imm (.int .i64 a0e0), .imm (.int .i64 a0e1), .imm (.int .i64 a0e2), .imm (.bool a0e3)], .bx 50 8 [.old β.lo G0, .old β.lo G1, .old β.lo G2, .old β.lo G3, .imm (.int .i64 a0e0), .imm (.int .i64 a0e1), .imm (.int .i64 a0e2), .imm (.bool a0e3)], .bx 50 8 [.dead, .dead, .dead, .dead, .imm (.int .i64 a0e0), .imm (.int .i64 a0e1), .imm (.int .i64 a0e2), .imm (.bool a0e3)], .bx 50 8 [.fv c0 Y0, .fv c1 Y1, .fv c2 Y2, .fv c3 Y3, .imm (.int .i64 a0e0), .imm (.int .i64 a0e1), .imm (.int .i64 a0e2), .imm (.bool a0e3)]], rfl, rfl, rfl, rfl, rfl, hmg c0 c1 c2 c3 hng.1, fun u hu b hb => hex b (Nat.le_trans pg (hU1 u hu b hb)), fun u hu => hUm u hu, ⟨.inr (.inl ⟨rfl, trivial⟩), .inr (.inl ⟨rfl, trivial⟩), .inr (.inl ⟨rfl, trivial⟩), .inr (.inl ⟨rfl, trivial⟩), .inr (.inl ⟨rfl, trivial⟩), .inr (.inl ⟨rfl, trivial⟩), .inr (.inl ⟨rfl, trivial⟩), .inr (.inl ⟨rfl, trivial⟩), trivial⟩, ⟨⟨rfl, rfl, .inr (.inl ⟨rfl, okM_old (Nat.le_trans hlo pg) hU1⟩), .inr (.inl ⟨rfl, okM_old (Nat.le_trans hlo pg) hU1⟩), .inr (.inl ⟨rfl, okM_old (Nat.le_trans hlo pg) hU1⟩), .inr (.inl ⟨rfl, okM_old (Nat.le_trans hlo pg) hU1⟩), .inr (.inl ⟨rfl, trivial⟩), .inr (.inl ⟨rfl, trivial⟩), .inr (.inl ⟨rfl, trivial⟩), .inr (.inl ⟨rfl, trivial⟩), trivial⟩, ⟨rfl, rfl, .inr (.inl ⟨rfl, okM_old pg hU1⟩), .inr (.inl ⟨rfl, okM_old pg hU1⟩), .inr (.inl ⟨rfl, okM_old pg hU1⟩), .inr (.inl ⟨rfl, okM_old pg hU1⟩), .inr (.inl ⟨rfl, trivial⟩), .inr (.inl ⟨rfl, trivial⟩), .inr (.inl ⟨rfl, trivial⟩), .inr (.inl ⟨rfl, trivial⟩), trivial⟩, ⟨rfl, rfl, .inl rfl, .inl rfl, .inl rfl, .inl rfl, .inr (.inl ⟨rfl, trivial⟩), .inr (.inl ⟨rfl, trivial⟩), .inr (.inl ⟨rfl, trivial⟩), .inr (.inl ⟨rfl, trivial⟩), trivial⟩, ⟨rfl, rfl, .inr (.inr ⟨_, List.mem_cons_self .., rfl, rfl⟩), .inr (.inr ⟨_, List.mem_cons_of_mem _ (List.mem_cons_self ..), rfl, rfl⟩), .inr (.inr ⟨_, List.mem_cons_of_mem _ (List.mem_cons_of_mem _ (List.mem_cons_self ..)), rfl, rfl⟩), .inr (.inr ⟨_, List.mem_cons_of_mem _ (List.mem_cons_of_mem _ (List.mem_cons_of_mem _ (List.mem_cons_self ..))), rfl, rfl⟩), .inr (.inl ⟨rfl, trivial⟩), .inr (.inl ⟨rfl, trivial⟩), .inr (.inl ⟨rfl, trivial⟩), .inr (.inl ⟨rfl, trivial⟩), trivial⟩, trivial⟩, ?_⟩
    clear hU1 hUm hmg
    cbv
    have eM : g .q .lss M 0 = false := by rw [goLss hg]; exact decide_eq_false (by omega)
    have eN : g .q .neq M M = false := by rw [goNeq hg]; simp
    refine call0Dw hg hd2 ⟨⟨.inl rfl, .inl rfl, .inl rfl, .inl rfl, rfl, rfl, rfl, rfl, trivial⟩, rfl, trivial⟩ rfl ?_
    cbv
    rw [eM]
    cbv
    rw [eN]
    cbv
    repeat' (first | (refine call0DwP hg ck0 ⟨⟨rfl, rfl, rfl, rfl, rfl, rfl, rfl, rfl, trivial⟩, trivial⟩ rfl ?_; cbv) | (refine call0Dw hg ck0 ⟨⟨rfl, rfl, rfl, rfl, rfl, rfl, rfl, rfl, trivial⟩, trivial⟩ rfl ?_; cbv) | (refine call0DwP hg ch (dwA_same rfl) rfl ?_; cbv) | (refine call0Dw hg ch (dwA_same rfl) rfl ?_; cbv))
    refine call0Dw hg eg ⟨⟨rfl, rfl, rfl, rfl, rfl, rfl, rfl, rfl, trivial⟩, ⟨rfl, rfl, rfl, rfl, rfl, rfl, rfl, rfl, trivial⟩, trivial⟩ rfl ?_
    cbv
    rw [eX]
    cbv
    refine call0Dw hg hd2 ⟨⟨.inl rfl, .inl rfl, .inl rfl, .inl rfl, rfl, rfl, rfl, rfl, trivial⟩, rfl, trivial⟩ rfl ?_
    cbv
    rw [eM]
    cbv
    rw [eN]
    cbv
    rw [hF]
end Go.Proofs.YtenbloaopcfdlaaGreat
