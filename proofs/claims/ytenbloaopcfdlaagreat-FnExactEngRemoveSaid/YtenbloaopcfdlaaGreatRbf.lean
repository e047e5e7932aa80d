/- Marks that are found again: Node. -/
import Derived.Test.YtenbloaopcfdlaaGreatRbe
namespace Go.Proofs.YtenbloaopcfdlaaGreat
open Go.ChangeShapes Go.WideShapes Go.ChangeAt Go.RowKit Am
set_option linter.unusedVariables false
set_option linter.unusedSimpArgs false
set_option maxRecDepth 100000
set_option maxHeartbeats 8000000 in
theorem laws_heldNodeS_n (k0 : Int) (ls : List (Nat × Nat)) (hl : ls.length ≤ 1048576) (hs0 : ∀ l ∈ ls, l.1 ≤ 1048576) (hs1 : ∀ l ∈ ls, l.2 ≤ 1048576) (hk0 : 0 ≤ k0) (hk1 : endMkNode k0 ls ≤ 1152921504606846976) : PCon Tryz.prog 94 [.c (.view (mkRowsNode k0 ls)), ai k0] fun res rows => res = .t (ai (endMkNode k0 ls)) ∧ rows = [] := by
  obtain ⟨V, hV⟩ : ∃ V, V = mkRowsNode k0 ls := ⟨_, rfl⟩
  have hVl : V.length = ls.length := by rw [hV, mkRowsNode_len]
  have hV20 : lenI V ≤ 1048576 := by rw [lenI_eq]; omega
  obtain ⟨K, hKe⟩ : ∃ K, K = endMkNode k0 ls := ⟨_, rfl⟩
  rw [← hKe] at hk1
  rw [← hV, ← hKe]
  refine pcon_run (c := body Tryz.f94) fits Tryz.func94 (by kernel_rfl) (by kernel_rfl) (by rfl) (by kernel_rfl) fun g F hg hF => ?_
  cbv
  refine loop_run hg fits (by kernel_rfl) (fun s : Int × Int => [(0, .t (.c (.view V))), (1, .t (ai s.2)), (5, .t (ai s.1))]) (fun _ => []) (fun s => 0 ≤ s.1 ∧ (∃ R, V = R ++ mkRowsNode s.2 (ls.drop s.1.toNat) ∧ R.length = s.1.toNat) ∧ K = endMkNode s.2 (ls.drop s.1.toNat) ∧ 0 ≤ s.2) (fun s => (lenI V).toNat - s.1.toNat)
    (0, k0) [] ⟨Int.le_refl 0, ⟨[], hV, rfl⟩, hKe, hk0⟩ (wk0 ⟨rfl, rfl, rfl, trivial⟩) (fun s B hs hB => ?_)
  obtain ⟨z, kc⟩ := s
  obtain ⟨h0, ⟨R, hR, hRl⟩, hK, hkc⟩ := hs
  simp only at h0 hR hRl hK hkc
  cbv
  cases hc : g .q .lss z (g .ln V)
  · rw [goLss hg, goLn hg, decide_eq_false_iff_not] at hc
    cbv
    have hdr : ls.drop z.toNat = [] := by rw [lenI_eq] at hc; exact List.drop_eq_nil_of_le (by omega)
    rw [hdr] at hK
    exact fin0i hF hK.symm
  · rw [goLss hg, goLn hg, decide_eq_true_eq] at hc
    cbv
    obtain ⟨j, hj⟩ : ∃ j, j = z.toNat := ⟨_, rfl⟩
    have hjl : j < ls.length := by rw [lenI_eq] at hc; omega
    obtain ⟨l, hl0⟩ : ∃ l, ls[j]? = some l := ⟨_, List.getElem?_eq_getElem hjl⟩
    have hdr : ls.drop z.toNat = l :: ls.drop (z + 1).toNat := by
      rw [← hj, show (z + 1).toNat = j + 1 by omega]
      rw [List.drop_eq_getElem_cons hjl, ← Option.some.inj ((List.getElem?_eq_getElem hjl).symm.trans hl0)]
    rw [hdr] at hR hK
    have hl0s := hs0 l (List.mem_of_getElem? hl0)
    have hl1s := hs1 l (List.mem_of_getElem? hl0)
    obtain ⟨l0, l1⟩ := l
    simp only at hl0s hl1s
    have ez : g .w .add .i64 z 1 = z + 1 := by rw [goAdd hg, wrap_small _ (by omega)]
    have hmu : (lenI V).toNat - (z + 1).toNat < (lenI V).toNat - z.toNat := by omega
    have hzz : z.toNat + 1 = (z + 1).toNat := by omega
    have hz1 : 0 ≤ z + 1 := by omega
    have hy : V[z.toNat]? = some (mkRowNode kc l0 l1) := by
      rw [hR, List.getElem?_append_right (by omega), hRl, Nat.sub_self]
      rfl
    have hR2 : V = (R ++ [mkRowNode kc l0 l1]) ++ mkRowsNode (nxMkNode kc l0 l1) (ls.drop (z + 1).toNat) := by rw [hR, List.append_assoc]; rfl
    have hK2 : K = endMkNode (nxMkNode kc l0 l1) (ls.drop (z + 1).toNat) := hK
    have hend := endMkNode_le (ls.drop (z + 1).toNat) (nxMkNode kc l0 l1)
    rw [← hK2] at hend
    have hkn : 0 ≤ nxMkNode kc l0 l1 := Int.le_trans hkc (by have := endMkNode_le [⟨l0, l1⟩] kc; exact this)
    have hkb : kc + 62 + 1 * ((l0 : Nat) : Int) + 3 * ((l1 : Nat) : Int) ≤ 1152921504606846976 := by rw [← nxMkNode_eq]; exact Int.le_trans hend hk1
    clear hK hR hend hdr
    obtain ⟨q0, hq0⟩ : ∃ q, q = kc + 1 := ⟨_, rfl⟩
    obtain ⟨q1, hq1⟩ : ∃ q, q = q0 + 1 * ((l0 : Nat) : Int) := ⟨_, rfl⟩
    obtain ⟨q2, hq2⟩ : ∃ q, q = q1 + 1 := ⟨_, rfl⟩
    obtain ⟨q3, hq3⟩ : ∃ q, q = q1 + 2 := ⟨_, rfl⟩
    obtain ⟨q4, hq4⟩ : ∃ q, q = q1 + 3 := ⟨_, rfl⟩
    obtain ⟨q5, hq5⟩ : ∃ q, q = q1 + 4 := ⟨_, rfl⟩
    obtain ⟨q6, hq6⟩ : ∃ q, q = q1 + 5 := ⟨_, rfl⟩
    obtain ⟨q7, hq7⟩ : ∃ q, q = q1 + 6 := ⟨_, rfl⟩
    obtain ⟨q8, hq8⟩ : ∃ q, q = q1 + 7 := ⟨_, rfl⟩
    obtain ⟨q9, hq9⟩ : ∃ q, q = q1 + 8 := ⟨_, rfl⟩
    obtain ⟨q10, hq10⟩ : ∃ q, q = q1 + 9 := ⟨_, rfl⟩
    obtain ⟨q11, hq11⟩ : ∃ q, q = q1 + 10 := ⟨_, rfl⟩
    obtain ⟨q12, hq12⟩ : ∃ q, q = q1 + 11 := ⟨_, rfl⟩
    obtain ⟨q13, hq13⟩ : ∃ q, q = q1 + 12 := ⟨_, rfl⟩
    obtain ⟨q14, hq14⟩ : ∃ q, q = q1 + 13 := ⟨_, rfl⟩
    obtain ⟨q15, hq15⟩ : ∃ q, q = q1 + 14 := ⟨_, rfl⟩
    obtain ⟨q16, hq16⟩ : ∃ q, q = q1 + 15 := ⟨_, rfl⟩
    obtain ⟨q17, hq17⟩ : ∃ q, q = q1 + 16 := ⟨_, rfl⟩
    obtain ⟨q18, hq18⟩ : ∃ q, q = q1 + 17 := ⟨_, rfl⟩
    obtain ⟨q19, hq19⟩ : ∃ q, q = q1 + 18 := ⟨_, rfl⟩
    obtain ⟨q20, hq20⟩ : ∃ q, q = q1 + 19 := ⟨_, rfl⟩
    obtain ⟨q21, hq21⟩ : ∃ q, q = q1 + 20 := ⟨_, rfl⟩
    obtain ⟨q22, hq22⟩ : ∃ q, q = q1 + 21 := ⟨_, rfl⟩
    obtain ⟨q23, hq23⟩ : ∃ q, q = q1 + 22 := ⟨_, rfl⟩
    obtain ⟨q24, hq24⟩ : ∃ q, q = q1 + 23 := ⟨_, rfl⟩
    obtain ⟨q25, hq25⟩ : ∃ q, q = q1 + 24 := ⟨_, rfl⟩
    obtain ⟨q26, hq26⟩ : ∃ q, q = q1 + 25 := ⟨_, rfl⟩
    obtain ⟨q27, hq27⟩ : ∃ q, q = q1 + 26 := ⟨_, rfl⟩
    obtain ⟨q28, hq28⟩ : ∃ q, q = q1 + 27 := ⟨_, rfl⟩
    obtain ⟨q29, hq29⟩ : ∃ q, q = q1 + 28 := ⟨_, rfl⟩
    obtain ⟨q30, hq30⟩ : ∃ q, q = q1 + 29 := ⟨_, rfl⟩
    obtain ⟨q31, hq31⟩ : ∃ q, q = q1 + 30 := ⟨_, rfl⟩
    obtain ⟨q32, hq32⟩ : ∃ q, q = q1 + 31 := ⟨_, rfl⟩
    obtain ⟨q33, hq33⟩ : ∃ q, q = q1 + 32 := ⟨_, rfl⟩
    obtain ⟨q34, hq34⟩ : ∃ q, q = q1 + 33 := ⟨_, rfl⟩
    obtain ⟨q35, hq35⟩ : ∃ q, q = q1 + 34 := ⟨_, rfl⟩
    obtain ⟨q36, hq36⟩ : ∃ q, q = q1 + 35 := ⟨_, rfl⟩
    obtain ⟨q37, hq37⟩ : ∃ q, q = q1 + 36 := ⟨_, rfl⟩
    obtain ⟨q38, hq38⟩ : ∃ q, q = q1 + 37 := ⟨_, rfl⟩
    obtain ⟨q39, hq39⟩ : ∃ q, q = q1 + 38 := ⟨_, rfl⟩
    obtain ⟨q40, hq40⟩ : ∃ q, q = q1 + 39 := ⟨_, rfl⟩
    obtain ⟨q41, hq41⟩ : ∃ q, q = q1 + 40 := ⟨_, rfl⟩
    obtain ⟨q42, hq42⟩ : ∃ q, q = q1 + 41 := ⟨_, rfl⟩
    obtain ⟨q43, hq43⟩ : ∃ q, q = q1 + 42 := ⟨_, rfl⟩
    obtain ⟨q44, hq44⟩ : ∃ q, q = q1 + 43 := ⟨_, rfl⟩
    obtain ⟨q45, hq45⟩ : ∃ q, q = q1 + 44 := ⟨_, rfl⟩
    obtain ⟨q46, hq46⟩ : ∃ q, q = q1 + 45 := ⟨_, rfl⟩
    obtain ⟨q47, hq47⟩ : ∃ q, q = q1 + 46 := ⟨_, rfl⟩
    obtain ⟨q48, hq48⟩ : ∃ q, q = q1 + 47 := ⟨_, rfl⟩
    obtain ⟨q49, hq49⟩ : ∃ q, q = q1 + 48 := ⟨_, rfl⟩
    obtain ⟨q50, hq50⟩ : ∃ q, q = q1 + 49 := ⟨_, rfl⟩
    obtain ⟨q51, hq51⟩ : ∃ q, q = q1 + 50 := ⟨_, rfl⟩
    obtain ⟨q52, hq52⟩ : ∃ q, q = q1 + 51 := ⟨_, rfl⟩
    obtain ⟨q53, hq53⟩ : ∃ q, q = q1 + 52 := ⟨_, rfl⟩
    obtain ⟨q54, hq54⟩ : ∃ q, q = q1 + 53 := ⟨_, rfl⟩
    obtain ⟨q55, hq55⟩ : ∃ q, q = q1 + 54 := ⟨_, rfl⟩
    obtain ⟨q56, hq56⟩ : ∃ q, q = q1 + 55 := ⟨_, rfl⟩
    obtain ⟨q57, hq57⟩ : ∃ q, q = q1 + 56 := ⟨_, rfl⟩
    obtain ⟨q58, hq58⟩ : ∃ q, q = q1 + 57 := ⟨_, rfl⟩
    obtain ⟨q59, hq59⟩ : ∃ q, q = q1 + 58 := ⟨_, rfl⟩
    obtain ⟨q60, hq60⟩ : ∃ q, q = q1 + 59 := ⟨_, rfl⟩
    obtain ⟨q61, hq61⟩ : ∃ q, q = q1 + 60 := ⟨_, rfl⟩
    obtain ⟨q62, hq62⟩ : ∃ q, q = q1 + 61 := ⟨_, rfl⟩
    obtain ⟨q63, hq63⟩ : ∃ q, q = q62 + 3 * ((l1 : Nat) : Int) := ⟨_, rfl⟩
    obtain ⟨hnx, g_kc, g_q1, g_q63⟩ := numsNode hkc hkb hq0 hq1 hq62 hq63
    rw [← hnx] at hR2 hK2 hkn
    clear hkb hnx
    have e0 := q_add hg g_kc.1 g_kc.2 (Int.add_zero _).symm hq0 rfl (by decide) (by decide)
    have r1 := q_bnd g_kc.1 g_kc.2 hq0 (by decide) (by decide)
    have rn1 := q_bnd g_q1.1 g_q1.2 (Int.add_zero _).symm (by decide) (by decide)
    obtain ⟨M0, hM0⟩ : ∃ M, M = (vw intC (marksInt q0 l0)) := ⟨_, rfl⟩
    have ch0 := laws_heldIntS_a q0 l0 hl0s r1.1 r1.2
    rw [← hM0, ← hq1] at ch0
    have lt1 : g .q .lss q1 0 = false := by rw [goLss hg]; exact decide_eq_false (Int.not_lt.2 rn1.1)
    have e2 := q_add hg g_q1.1 g_q1.2 (Int.add_zero _).symm hq2 rfl (by decide) (by decide)
    have e3 := q_add hg g_q1.1 g_q1.2 hq2 hq3 rfl (by decide) (by decide)
    have e4 := q_add hg g_q1.1 g_q1.2 hq3 hq4 rfl (by decide) (by decide)
    have e5 := q_add hg g_q1.1 g_q1.2 hq4 hq5 rfl (by decide) (by decide)
    have e6 := q_add hg g_q1.1 g_q1.2 hq5 hq6 rfl (by decide) (by decide)
    have e7 := q_add hg g_q1.1 g_q1.2 hq6 hq7 rfl (by decide) (by decide)
    have e8 := q_add hg g_q1.1 g_q1.2 hq7 hq8 rfl (by decide) (by decide)
    obtain ⟨t8, ht8⟩ : ∃ t, t = m3 q7 := ⟨_, rfl⟩
    have m8 : g .q .eql (g .w .rem .i64 q7 3) 0 = t8 := by rw [ht8, goRem hg, goEql hg]; rfl
    have e9 := q_add hg g_q1.1 g_q1.2 hq8 hq9 rfl (by decide) (by decide)
    obtain ⟨t9, ht9⟩ : ∃ t, t = m3 q8 := ⟨_, rfl⟩
    have m9 : g .q .eql (g .w .rem .i64 q8 3) 0 = t9 := by rw [ht9, goRem hg, goEql hg]; rfl
    have e10 := q_add hg g_q1.1 g_q1.2 hq9 hq10 rfl (by decide) (by decide)
    have e11 := q_add hg g_q1.1 g_q1.2 hq10 hq11 rfl (by decide) (by decide)
    have e12 := q_add hg g_q1.1 g_q1.2 hq11 hq12 rfl (by decide) (by decide)
    have e13 := q_add hg g_q1.1 g_q1.2 hq12 hq13 rfl (by decide) (by decide)
    have e14 := q_add hg g_q1.1 g_q1.2 hq13 hq14 rfl (by decide) (by decide)
    have e15 := q_add hg g_q1.1 g_q1.2 hq14 hq15 rfl (by decide) (by decide)
    have e16 := q_add hg g_q1.1 g_q1.2 hq15 hq16 rfl (by decide) (by decide)
    have e17 := q_add hg g_q1.1 g_q1.2 hq16 hq17 rfl (by decide) (by decide)
    have e18 := q_add hg g_q1.1 g_q1.2 hq17 hq18 rfl (by decide) (by decide)
    have e19 := q_add hg g_q1.1 g_q1.2 hq18 hq19 rfl (by decide) (by decide)
    have e20 := q_add hg g_q1.1 g_q1.2 hq19 hq20 rfl (by decide) (by decide)
    have e21 := q_add hg g_q1.1 g_q1.2 hq20 hq21 rfl (by decide) (by decide)
    have e22 := q_add hg g_q1.1 g_q1.2 hq21 hq22 rfl (by decide) (by decide)
    have e23 := q_add hg g_q1.1 g_q1.2 hq22 hq23 rfl (by decide) (by decide)
    have e24 := q_add hg g_q1.1 g_q1.2 hq23 hq24 rfl (by decide) (by decide)
    have e25 := q_add hg g_q1.1 g_q1.2 hq24 hq25 rfl (by decide) (by decide)
    have e26 := q_add hg g_q1.1 g_q1.2 hq25 hq26 rfl (by decide) (by decide)
    have e27 := q_add hg g_q1.1 g_q1.2 hq26 hq27 rfl (by decide) (by decide)
    have e28 := q_add hg g_q1.1 g_q1.2 hq27 hq28 rfl (by decide) (by decide)
    have e29 := q_add hg g_q1.1 g_q1.2 hq28 hq29 rfl (by decide) (by decide)
    have e30 := q_add hg g_q1.1 g_q1.2 hq29 hq30 rfl (by decide) (by decide)
    have e31 := q_add hg g_q1.1 g_q1.2 hq30 hq31 rfl (by decide) (by decide)
    have e32 := q_add hg g_q1.1 g_q1.2 hq31 hq32 rfl (by decide) (by decide)
    have e33 := q_add hg g_q1.1 g_q1.2 hq32 hq33 rfl (by decide) (by decide)
    have e34 := q_add hg g_q1.1 g_q1.2 hq33 hq34 rfl (by decide) (by decide)
    have e35 := q_add hg g_q1.1 g_q1.2 hq34 hq35 rfl (by decide) (by decide)
    have e36 := q_add hg g_q1.1 g_q1.2 hq35 hq36 rfl (by decide) (by decide)
    have e37 := q_add hg g_q1.1 g_q1.2 hq36 hq37 rfl (by decide) (by decide)
    have e38 := q_add hg g_q1.1 g_q1.2 hq37 hq38 rfl (by decide) (by decide)
    have e39 := q_add hg g_q1.1 g_q1.2 hq38 hq39 rfl (by decide) (by decide)
    have e40 := q_add hg g_q1.1 g_q1.2 hq39 hq40 rfl (by decide) (by decide)
    have e41 := q_add hg g_q1.1 g_q1.2 hq40 hq41 rfl (by decide) (by decide)
    have e42 := q_add hg g_q1.1 g_q1.2 hq41 hq42 rfl (by decide) (by decide)
    have e43 := q_add hg g_q1.1 g_q1.2 hq42 hq43 rfl (by decide) (by decide)
    have e44 := q_add hg g_q1.1 g_q1.2 hq43 hq44 rfl (by decide) (by decide)
    have e45 := q_add hg g_q1.1 g_q1.2 hq44 hq45 rfl (by decide) (by decide)
    have e46 := q_add hg g_q1.1 g_q1.2 hq45 hq46 rfl (by decide) (by decide)
    have e47 := q_add hg g_q1.1 g_q1.2 hq46 hq47 rfl (by decide) (by decide)
    have e48 := q_add hg g_q1.1 g_q1.2 hq47 hq48 rfl (by decide) (by decide)
    have e49 := q_add hg g_q1.1 g_q1.2 hq48 hq49 rfl (by decide) (by decide)
    have e50 := q_add hg g_q1.1 g_q1.2 hq49 hq50 rfl (by decide) (by decide)
    have e51 := q_add hg g_q1.1 g_q1.2 hq50 hq51 rfl (by decide) (by decide)
    have e52 := q_add hg g_q1.1 g_q1.2 hq51 hq52 rfl (by decide) (by decide)
    have e53 := q_add hg g_q1.1 g_q1.2 hq52 hq53 rfl (by decide) (by decide)
    have e54 := q_add hg g_q1.1 g_q1.2 hq53 hq54 rfl (by decide) (by decide)
    have e55 := q_add hg g_q1.1 g_q1.2 hq54 hq55 rfl (by decide) (by decide)
    have e56 := q_add hg g_q1.1 g_q1.2 hq55 hq56 rfl (by decide) (by decide)
    have e57 := q_add hg g_q1.1 g_q1.2 hq56 hq57 rfl (by decide) (by decide)
    have e58 := q_add hg g_q1.1 g_q1.2 hq57 hq58 rfl (by decide) (by decide)
    have e59 := q_add hg g_q1.1 g_q1.2 hq58 hq59 rfl (by decide) (by decide)
    have e60 := q_add hg g_q1.1 g_q1.2 hq59 hq60 rfl (by decide) (by decide)
    have e61 := q_add hg g_q1.1 g_q1.2 hq60 hq61 rfl (by decide) (by decide)
    have e62 := q_add hg g_q1.1 g_q1.2 hq61 hq62 rfl (by decide) (by decide)
    obtain ⟨t62, ht62⟩ : ∃ t, t = m3 q61 := ⟨_, rfl⟩
    have m62 : g .q .eql (g .w .rem .i64 q61 3) 0 = t62 := by rw [ht62, goRem hg, goEql hg]; rfl
    have r63 := q_bnd g_q1.1 g_q1.2 hq62 (by decide) (by decide)
    have rn63 := q_bnd g_q63.1 g_q63.2 (Int.add_zero _).symm (by decide) (by decide)
    obtain ⟨M1, hM1⟩ : ∃ M, M = (vw GRule.c (marksRule q62 l1)) := ⟨_, rfl⟩
    have ch1 := laws_heldRuleS_a q62 l1 hl1s r63.1 r63.2
    rw [← hM1, ← hq63] at ch1
    have lt63 : g .q .lss q63 0 = false := by rw [goLss hg]; exact decide_eq_false (Int.not_lt.2 rn63.1)
    rw [← rowNode_eq (B0 := []) (B1 := []) hM0 hM1 ht8 ht9 ht62 hq0 hq1 hq2 hq3 hq4 hq5 hq6 hq7 hq8 hq9 hq10 hq11 hq12 hq13 hq14 hq15 hq16 hq17 hq18 hq19 hq20 hq21 hq22 hq23 hq24 hq25 hq26 hq27 hq28 hq29 hq30 hq31 hq32 hq33 hq34 hq35 hq36 hq37 hq38 hq39 hq40 hq41 hq42 hq43 hq44 hq45 hq46 hq47 hq48 hq49 hq50 hq51 hq52 hq53 hq54 hq55 hq56 hq57 hq58 hq59 hq60 hq61 hq62 hq63] at hy hR2
    replace hy : V[z.toNat]? = some (.imm (.int .i64 kc) :: .view M0 :: .imm (.int .i64 q1) :: .imm (.int .i64 q2) :: .imm (.int .i64 q3) :: .imm (.int .i64 q4) :: .imm (.int .i64 q5) :: .imm (.int .i64 q6) :: .imm (.bool t8) :: .imm (.bool t9) :: .imm (.int .i64 q9) :: .imm (.int .i64 q10) :: .imm (.int .i64 q11) :: .imm (.int .i64 q12) :: .imm (.int .i64 q13) :: .imm (.int .i64 q14) :: .imm (.int .i64 q15) :: .imm (.int .i64 q16) :: .imm (.int .i64 q17) :: .imm (.int .i64 q18) :: .imm (.int .i64 q19) :: .imm (.int .i64 q20) :: .imm (.int .i64 q21) :: .imm (.int .i64 q22) :: .imm (.int .i64 q23) :: .imm (.int .i64 q24) :: .imm (.int .i64 q25) :: .imm (.int .i64 q26) :: .imm (.int .i64 q27) :: .imm (.int .i64 q28) :: .imm (.int .i64 q29) :: .imm (.int .i64 q30) :: .imm (.int .i64 q31) :: .imm (.int .i64 q32) :: .imm (.int .i64 q33) :: .imm (.int .i64 q34) :: .imm (.int .i64 q35) :: .imm (.int .i64 q36) :: .imm (.int .i64 q37) :: .imm (.int .i64 q38) :: .imm (.int .i64 q39) :: .imm (.int .i64 q40) :: .imm (.int .i64 q41) :: .imm (.int .i64 q42) :: .imm (.int .i64 q43) :: .imm (.int .i64 q44) :: .imm (.int .i64 q45) :: .imm (.int .i64 q46) :: .imm (.int .i64 q47) :: .imm (.int .i64 q48) :: .imm (.int .i64 q49) :: .imm (.int .i64 q50) :: .imm (.int .i64 q51) :: .imm (.int .i64 q52) :: .imm (.int .i64 q53) :: .imm (.int .i64 q54) :: .imm (.int .i64 q55) :: .imm (.int .i64 q56) :: .imm (.int .i64 q57) :: .imm (.int .i64 q58) :: .imm (.int .i64 q59) :: .imm (.int .i64 q60) :: .imm (.bool t62) :: .view M1 :: []) := hy
    clear hM0 hM1 ht8 ht9 ht62 hq0 hq1 hq2 hq3 hq4 hq5 hq6 hq7 hq8 hq9 hq10 hq11 hq12 hq13 hq14 hq15 hq16 hq17 hq18 hq19 hq20 hq21 hq22 hq23 hq24 hq25 hq26 hq27 hq28 hq29 hq30 hq31 hq32 hq33 hq34 hq35 hq36 hq37 hq38 hq39 hq40 hq41 hq42 hq43 hq44 hq45 hq46 hq47 hq48 hq49 hq50 hq51 hq52 hq53 hq54 hq55 hq56 hq57 hq58 hq59 hq60 hq61 hq62 hq63 g_kc g_q1 g_q63
    refine goX hg _ h0 hy rfl ?_
    cbv
    rw [show g .q .neq kc kc = false by rw [goNeq hg]; simp]
    cbv
    rw [e0]
    cbv
    refine goX hg _ h0 hy rfl ?_
    cbv
    refine call0 hg ch0 rfl rfl ?_
    cbv
    rw [lt1]
    cbv
    refine goX hg _ h0 hy rfl ?_
    cbv
    rw [show g .q .neq q1 q1 = false by rw [goNeq hg]; simp]
    cbv
    rw [e2]
    cbv
    refine goX hg _ h0 hy rfl ?_
    cbv
    rw [show g .q .neq q2 q2 = false by rw [goNeq hg]; simp]
    cbv
    rw [e3]
    cbv
    refine goX hg _ h0 hy rfl ?_
    cbv
    rw [show g .q .neq q3 q3 = false by rw [goNeq hg]; simp]
    cbv
    rw [e4]
    cbv
    refine goX hg _ h0 hy rfl ?_
    cbv
    rw [show g .q .neq q4 q4 = false by rw [goNeq hg]; simp]
    cbv
    rw [e5]
    cbv
    refine goX hg _ h0 hy rfl ?_
    cbv
    rw [show g .q .neq q5 q5 = false by rw [goNeq hg]; simp]
    cbv
    rw [e6]
    cbv
    refine goX hg _ h0 hy rfl ?_
    cbv
    rw [show g .q .neq q6 q6 = false by rw [goNeq hg]; simp]
    cbv
    rw [e7]
    cbv
    refine goX hg _ h0 hy rfl ?_
    cbv
    refine goNZ hg (by decide) ?_
    cbv
    rw [m8]
    cbv
    rw [show g .qb .neq t8 t8 = false by rw [goNeqB hg]; simp]
    cbv
    rw [e8]
    cbv
    refine goX hg _ h0 hy rfl ?_
    cbv
    refine goNZ hg (by decide) ?_
    cbv
    rw [m9]
    cbv
    rw [show g .qb .neq t9 t9 = false by rw [goNeqB hg]; simp]
    cbv
    rw [e9]
    cbv
    refine goX hg _ h0 hy rfl ?_
    cbv
    rw [show g .q .neq q9 q9 = false by rw [goNeq hg]; simp]
    cbv
    rw [e10]
    cbv
    refine goX hg _ h0 hy rfl ?_
    cbv
    rw [show g .q .neq q10 q10 = false by rw [goNeq hg]; simp]
    cbv
    rw [e11]
    cbv
    refine goX hg _ h0 hy rfl ?_
    cbv
    rw [show g .q .neq q11 q11 = false by rw [goNeq hg]; simp]
    cbv
    rw [e12]
    cbv
    refine goX hg _ h0 hy rfl ?_
    cbv
    rw [show g .q .neq q12 q12 = false by rw [goNeq hg]; simp]
    cbv
    rw [e13]
    cbv
    refine goX hg _ h0 hy rfl ?_
    cbv
    rw [show g .q .neq q13 q13 = false by rw [goNeq hg]; simp]
    cbv
    rw [e14]
    cbv
    refine goX hg _ h0 hy rfl ?_
    cbv
    rw [show g .q .neq q14 q14 = false by rw [goNeq hg]; simp]
    cbv
    rw [e15]
    cbv
    refine goX hg _ h0 hy rfl ?_
    cbv
    rw [show g .q .neq q15 q15 = false by rw [goNeq hg]; simp]
    cbv
    rw [e16]
    cbv
    refine goX hg _ h0 hy rfl ?_
    cbv
    rw [show g .q .neq q16 q16 = false by rw [goNeq hg]; simp]
    cbv
    rw [e17]
    cbv
    refine goX hg _ h0 hy rfl ?_
    cbv
    rw [show g .q .neq q17 q17 = false by rw [goNeq hg]; simp]
    cbv
    rw [e18]
    cbv
    refine goX hg _ h0 hy rfl ?_
    cbv
    rw [show g .q .neq q18 q18 = false by rw [goNeq hg]; simp]
    cbv
    rw [e19]
    cbv
    refine goX hg _ h0 hy rfl ?_
    cbv
    rw [show g .q .neq q19 q19 = false by rw [goNeq hg]; simp]
    cbv
    rw [e20]
    cbv
    refine goX hg _ h0 hy rfl ?_
    cbv
    rw [show g .q .neq q20 q20 = false by rw [goNeq hg]; simp]
    cbv
    rw [e21]
    cbv
    refine goX hg _ h0 hy rfl ?_
    cbv
    rw [show g .q .neq q21 q21 = false by rw [goNeq hg]; simp]
    cbv
    rw [e22]
    cbv
    refine goX hg _ h0 hy rfl ?_
    cbv
    rw [show g .q .neq q22 q22 = false by rw [goNeq hg]; simp]
    cbv
    rw [e23]
    cbv
    refine goX hg _ h0 hy rfl ?_
    cbv
    rw [show g .q .neq q23 q23 = false by rw [goNeq hg]; simp]
    cbv
    rw [e24]
    cbv
    refine goX hg _ h0 hy rfl ?_
    cbv
    rw [show g .q .neq q24 q24 = false by rw [goNeq hg]; simp]
    cbv
    rw [e25]
    cbv
    refine goX hg _ h0 hy rfl ?_
    cbv
    rw [show g .q .neq q25 q25 = false by rw [goNeq hg]; simp]
    cbv
    rw [e26]
    cbv
    refine goX hg _ h0 hy rfl ?_
    cbv
    rw [show g .q .neq q26 q26 = false by rw [goNeq hg]; simp]
    cbv
    rw [e27]
    cbv
    refine goX hg _ h0 hy rfl ?_
    cbv
    rw [show g .q .neq q27 q27 = false by rw [goNeq hg]; simp]
    cbv
    rw [e28]
    cbv
    refine goX hg _ h0 hy rfl ?_
    cbv
    rw [show g .q .neq q28 q28 = false by rw [goNeq hg]; simp]
    cbv
    rw [e29]
    cbv
    refine goX hg _ h0 hy rfl ?_
    cbv
    rw [show g .q .neq q29 q29 = false by rw [goNeq hg]; simp]
    cbv
    rw [e30]
    cbv
    refine goX hg _ h0 hy rfl ?_
    cbv
    rw [show g .q .neq q30 q30 = false by rw [goNeq hg]; simp]
    cbv
    rw [e31]
    cbv
    refine goX hg _ h0 hy rfl ?_
    cbv
    rw [show g .q .neq q31 q31 = false by rw [goNeq hg]; simp]
    cbv
    rw [e32]
    cbv
    refine goX hg _ h0 hy rfl ?_
    cbv
    rw [show g .q .neq q32 q32 = false by rw [goNeq hg]; simp]
    cbv
    rw [e33]
    cbv
    refine goX hg _ h0 hy rfl ?_
    cbv
    rw [show g .q .neq q33 q33 = false by rw [goNeq hg]; simp]
    cbv
    rw [e34]
    cbv
    refine goX hg _ h0 hy rfl ?_
    cbv
    rw [show g .q .neq q34 q34 = false by rw [goNeq hg]; simp]
    cbv
    rw [e35]
    cbv
    refine goX hg _ h0 hy rfl ?_
    cbv
    rw [show g .q .neq q35 q35 = false by rw [goNeq hg]; simp]
    cbv
    rw [e36]
    cbv
    refine goX hg _ h0 hy rfl ?_
    cbv
    rw [show g .q .neq q36 q36 = false by rw [goNeq hg]; simp]
    cbv
    rw [e37]
    cbv
    refine goX hg _ h0 hy rfl ?_
    cbv
    rw [show g .q .neq q37 q37 = false by rw [goNeq hg]; simp]
    cbv
    rw [e38]
    cbv
    refine goX hg _ h0 hy rfl ?_
    cbv
    rw [show g .q .neq q38 q38 = false by rw [goNeq hg]; simp]
    cbv
    rw [e39]
    cbv
    refine goX hg _ h0 hy rfl ?_
    cbv
    rw [show g .q .neq q39 q39 = false by rw [goNeq hg]; simp]
    cbv
    rw [e40]
    cbv
    refine goX hg _ h0 hy rfl ?_
    cbv
    rw [show g .q .neq q40 q40 = false by rw [goNeq hg]; simp]
    cbv
    rw [e41]
    cbv
    refine goX hg _ h0 hy rfl ?_
    cbv
    rw [show g .q .neq q41 q41 = false by rw [goNeq hg]; simp]
    cbv
    rw [e42]
    cbv
    refine goX hg _ h0 hy rfl ?_
    cbv
    rw [show g .q .neq q42 q42 = false by rw [goNeq hg]; simp]
    cbv
    rw [e43]
    cbv
    refine goX hg _ h0 hy rfl ?_
    cbv
    rw [show g .q .neq q43 q43 = false by rw [goNeq hg]; simp]
    cbv
    rw [e44]
    cbv
    refine goX hg _ h0 hy rfl ?_
    cbv
    rw [show g .q .neq q44 q44 = false by rw [goNeq hg]; simp]
    cbv
    rw [e45]
    cbv
    refine goX hg _ h0 hy rfl ?_
    cbv
    rw [show g .q .neq q45 q45 = false by rw [goNeq hg]; simp]
    cbv
    rw [e46]
    cbv
    refine goX hg _ h0 hy rfl ?_
    cbv
    rw [show g .q .neq q46 q46 = false by rw [goNeq hg]; simp]
    cbv
    rw [e47]
    cbv
    refine goX hg _ h0 hy rfl ?_
    cbv
    rw [show g .q .neq q47 q47 = false by rw [goNeq hg]; simp]
    cbv
    rw [e48]
    cbv
    refine goX hg _ h0 hy rfl ?_
    cbv
    rw [show g .q .neq q48 q48 = false by rw [goNeq hg]; simp]
    cbv
    rw [e49]
    cbv
    refine goX hg _ h0 hy rfl ?_
    cbv
    rw [show g .q .neq q49 q49 = false by rw [goNeq hg]; simp]
    cbv
    rw [e50]
    cbv
    refine goX hg _ h0 hy rfl ?_
    cbv
    rw [show g .q .neq q50 q50 = false by rw [goNeq hg]; simp]
    cbv
    rw [e51]
    cbv
    refine goX hg _ h0 hy rfl ?_
    cbv
    rw [show g .q .neq q51 q51 = false by rw [goNeq hg]; simp]
    cbv
    rw [e52]
    cbv
    refine goX hg _ h0 hy rfl ?_
    cbv
    rw [show g .q .neq q52 q52 = false by rw [goNeq hg]; simp]
    cbv
    rw [e53]
    cbv
    refine goX hg _ h0 hy rfl ?_
    cbv
    rw [show g .q .neq q53 q53 = false by rw [goNeq hg]; simp]
    cbv
    rw [e54]
    cbv
    refine goX hg _ h0 hy rfl ?_
    cbv
    rw [show g .q .neq q54 q54 = false by rw [goNeq hg]; simp]
    cbv
    rw [e55]
    cbv
    refine goX hg _ h0 hy rfl ?_
    cbv
    rw [show g .q .neq q55 q55 = false by rw [goNeq hg]; simp]
    cbv
    rw [e56]
    cbv
    refine goX hg _ h0 hy rfl ?_
    cbv
    rw [show g .q .neq q56 q56 = false by rw [goNeq hg]; simp]
    cbv
    rw [e57]
    cbv
    refine goX hg _ h0 hy rfl ?_
    cbv
    rw [show g .q .neq q57 q57 = false by rw [goNeq hg]; simp]
    cbv
    rw [e58]
    cbv
    refine goX hg _ h0 hy rfl ?_
    cbv
    rw [show g .q .neq q58 q58 = false by rw [goNeq hg]; simp]
    cbv
    rw [e59]
    cbv
    refine goX hg _ h0 hy rfl ?_
    cbv
    rw [show g .q .neq q59 q59 = false by rw [goNeq hg]; simp]
    cbv
    rw [e60]
    cbv
    refine goX hg _ h0 hy rfl ?_
    cbv
    rw [show g .q .neq q60 q60 = false by rw [goNeq hg]; simp]
    cbv
    rw [e61]
    cbv
    refine goX hg _ h0 hy rfl ?_
    cbv
    refine goNZ hg (by decide) ?_
    cbv
    rw [m62]
    cbv
    rw [show g .qb .neq t62 t62 = false by rw [goNeqB hg]; simp]
    cbv
    rw [e62]
    cbv
    refine goX hg _ h0 hy rfl ?_
    cbv
    refine call0 hg ch1 rfl rfl ?_
    cbv
    rw [lt63]
    cbv
    rw [ez]
    exact back hB (z + 1, q63) [] (wk0 ⟨rfl, rfl, rfl, trivial⟩) ⟨hz1, ⟨_, hR2, by rw [List.length_append, hRl]; exact hzz⟩, hK2, hkn⟩ hmu
end Go.Proofs.YtenbloaopcfdlaaGreat
