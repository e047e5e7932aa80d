/- Marks that are found again: Memo. -/
import Derived.Test.YtenbloaopcfdlaaM3
namespace Go.Proofs.Ytenbloaopcfdlaa
open Go.ChangeShapes Go.WideShapes Go.ChangeAt Go.RowKit Am
set_option linter.unusedVariables false
set_option linter.unusedSimpArgs false
set_option maxRecDepth 100000

set_option maxHeartbeats 8000000 in
theorem laws_heldMemoS_n (k0 : Int) (ls : List (Nat)) (hl : ls.length ≤ 1048576) (hs0 : ∀ l ∈ ls, l ≤ 1048576) (hk0 : 0 ≤ k0) (hk1 : endMkMemo k0 ls ≤ 1152921504606846976) : PCon Try.prog 59 [.c (.view (mkRowsMemo k0 ls)), ai k0] fun res rows => res = .t (ai (endMkMemo k0 ls)) ∧ rows = [] := by
  obtain ⟨V, hV⟩ : ∃ V, V = mkRowsMemo k0 ls := ⟨_, rfl⟩
  have hVl : V.length = ls.length := by rw [hV, mkRowsMemo_len]
  have hV20 : lenI V ≤ 1048576 := by rw [lenI_eq]; omega
  obtain ⟨K, hKe⟩ : ∃ K, K = endMkMemo k0 ls := ⟨_, rfl⟩
  rw [← hKe] at hk1
  rw [← hV, ← hKe]
  refine pcon_run (c := body Try.f59) fits Try.func59 (by kernel_rfl) (by kernel_rfl) (by rfl) (by kernel_rfl) fun g F hg hF => ?_
  cbv
  refine loop_run hg fits (by kernel_rfl) (fun s : Int × Int => [(0, .t (.c (.view V))), (1, .t (ai s.2)), (5, .t (ai s.1))]) (fun _ => []) (fun s => 0 ≤ s.1 ∧ (∃ R, V = R ++ mkRowsMemo s.2 (ls.drop s.1.toNat) ∧ R.length = s.1.toNat) ∧ K = endMkMemo s.2 (ls.drop s.1.toNat) ∧ 0 ≤ s.2) (fun s => (lenI V).toNat - s.1.toNat)
    (0, k0) [] ⟨Int.le_refl 0, ⟨[], hV, rfl⟩, hKe, hk0⟩ (wk0 ⟨rfl, rfl, rfl, trivial⟩) (fun s B hs hB => ?_)
  obtain ⟨z, kc⟩ := s
  obtain ⟨h0, ⟨R, hR, hRl⟩, hK, hkc⟩ := hs
  simp only at h0 hR hRl hK hkc
  cbv
  cases hc : g .q .lss z (g .ln V)
  · rw [goLss hg, goLn hg, decide_eq_false_iff_not] at hc
    cbv
    have hdr : ls.drop z.toNat = [] := by rw [lenI_eq] at hc; exact List.drop_eq_nil_of_le (by omega)
    rw [hdr] at hK
    exact fin0i hF hK.symm
  · rw [goLss hg, goLn hg, decide_eq_true_eq] at hc
    cbv
    obtain ⟨j, hj⟩ : ∃ j, j = z.toNat := ⟨_, rfl⟩
    have hjl : j < ls.length := by rw [lenI_eq] at hc; omega
    obtain ⟨l, hl0⟩ : ∃ l, ls[j]? = some l := ⟨_, List.getElem?_eq_getElem hjl⟩
    have hdr : ls.drop z.toNat = l :: ls.drop (z + 1).toNat := by
      rw [← hj, show (z + 1).toNat = j + 1 by omega]
      rw [List.drop_eq_getElem_cons hjl, ← Option.some.inj ((List.getElem?_eq_getElem hjl).symm.trans hl0)]
    rw [hdr] at hR hK
    have hl0s := hs0 l (List.mem_of_getElem? hl0)
    obtain ⟨l0, hl0e⟩ : ∃ l0, l0 = l := ⟨_, rfl⟩
    subst hl0e
    have ez : g .w .add .i64 z 1 = z + 1 := by rw [goAdd hg, wrap_small _ (by omega)]
    have hmu : (lenI V).toNat - (z + 1).toNat < (lenI V).toNat - z.toNat := by omega
    have hzz : z.toNat + 1 = (z + 1).toNat := by omega
    have hz1 : 0 ≤ z + 1 := by omega
    have hy : V[z.toNat]? = some (mkRowMemo kc l0) := by
      rw [hR, List.getElem?_append_right (by omega), hRl, Nat.sub_self]
      rfl
    have hR2 : V = (R ++ [mkRowMemo kc l0]) ++ mkRowsMemo (nxMkMemo kc l0) (ls.drop (z + 1).toNat) := by rw [hR, List.append_assoc]; rfl
    have hK2 : K = endMkMemo (nxMkMemo kc l0) (ls.drop (z + 1).toNat) := hK
    have hend := endMkMemo_le (ls.drop (z + 1).toNat) (nxMkMemo kc l0)
    rw [← hK2] at hend
    have hkn : 0 ≤ nxMkMemo kc l0 := Int.le_trans hkc (by have := endMkMemo_le [l0] kc; exact this)
    have hkb : kc + 9 + 5 * ((l0 : Nat) : Int) ≤ 1152921504606846976 := by rw [← nxMkMemo_eq]; exact Int.le_trans hend hk1
    clear hK hR hend hdr
    obtain ⟨q0, hq0⟩ : ∃ q, q = kc + 1 := ⟨_, rfl⟩
    obtain ⟨q1, hq1⟩ : ∃ q, q = kc + 2 := ⟨_, rfl⟩
    obtain ⟨q2, hq2⟩ : ∃ q, q = kc + 3 := ⟨_, rfl⟩
    obtain ⟨q3, hq3⟩ : ∃ q, q = kc + 4 := ⟨_, rfl⟩
    obtain ⟨q4, hq4⟩ : ∃ q, q = kc + 5 := ⟨_, rfl⟩
    obtain ⟨q5, hq5⟩ : ∃ q, q = kc + 6 := ⟨_, rfl⟩
    obtain ⟨q6, hq6⟩ : ∃ q, q = kc + 7 := ⟨_, rfl⟩
    obtain ⟨q7, hq7⟩ : ∃ q, q = kc + 8 := ⟨_, rfl⟩
    obtain ⟨q8, hq8⟩ : ∃ q, q = kc + 9 := ⟨_, rfl⟩
    obtain ⟨q9, hq9⟩ : ∃ q, q = q8 + 5 * ((l0 : Nat) : Int) := ⟨_, rfl⟩
    obtain ⟨hnx, g_kc, g_q9⟩ := numsMemo hkc hkb hq8 hq9
    rw [← hnx] at hR2 hK2 hkn
    clear hkb hnx
    have e0 := q_add hg g_kc.1 g_kc.2 (Int.add_zero _).symm hq0 rfl (by decide) (by decide)
    have e1 := q_add hg g_kc.1 g_kc.2 hq0 hq1 rfl (by decide) (by decide)
    have e2 := q_add hg g_kc.1 g_kc.2 hq1 hq2 rfl (by decide) (by decide)
    have e3 := q_add hg g_kc.1 g_kc.2 hq2 hq3 rfl (by decide) (by decide)
    have e4 := q_add hg g_kc.1 g_kc.2 hq3 hq4 rfl (by decide) (by decide)
    have e5 := q_add hg g_kc.1 g_kc.2 hq4 hq5 rfl (by decide) (by decide)
    obtain ⟨t5, ht5⟩ : ∃ t, t = m3 q4 := ⟨_, rfl⟩
    have m5 : g .q .eql (g .w .rem .i64 q4 3) 0 = t5 := by rw [ht5, goRem hg, goEql hg]; rfl
    have e6 := q_add hg g_kc.1 g_kc.2 hq5 hq6 rfl (by decide) (by decide)
    have e7 := q_add hg g_kc.1 g_kc.2 hq6 hq7 rfl (by decide) (by decide)
    have e8 := q_add hg g_kc.1 g_kc.2 hq7 hq8 rfl (by decide) (by decide)
    have r9 := q_bnd g_kc.1 g_kc.2 hq8 (by decide) (by decide)
    have rn9 := q_bnd g_q9.1 g_q9.2 (Int.add_zero _).symm (by decide) (by decide)
    obtain ⟨M0, hM0⟩ : ∃ M, M = (vw GFrame.c (marksFrame q8 l0)) := ⟨_, rfl⟩
    have ch0 := laws_heldFrameS_a q8 l0 hl0s r9.1 r9.2
    rw [← hM0, ← hq9] at ch0
    have lt9 : g .q .lss q9 0 = false := by rw [goLss hg]; exact decide_eq_false (Int.not_lt.2 rn9.1)
    rw [← rowMemo_eq (B0 := []) hM0 ht5 hq0 hq1 hq2 hq3 hq4 hq5 hq6 hq7 hq8 hq9] at hy hR2
    replace hy : V[z.toNat]? = some [.imm (.int .i64 kc), .imm (.int .i64 q0), .imm (.int .i64 q1), .imm (.int .i64 q2), .imm (.int .i64 q3), .imm (.bool t5), .imm (.int .i64 q5), .imm (.int .i64 q6), .imm (.int .i64 q7), .view M0] := hy
    clear hM0 ht5 hq0 hq1 hq2 hq3 hq4 hq5 hq6 hq7 hq8 hq9 g_kc g_q9
    refine goX hg _ h0 hy rfl ?_
    cbv
    rw [show g .q .neq kc kc = false by rw [goNeq hg]; simp]
    cbv
    rw [e0]
    cbv
    refine goX hg _ h0 hy rfl ?_
    cbv
    rw [show g .q .neq q0 q0 = false by rw [goNeq hg]; simp]
    cbv
    rw [e1]
    cbv
    refine goX hg _ h0 hy rfl ?_
    cbv
    rw [show g .q .neq q1 q1 = false by rw [goNeq hg]; simp]
    cbv
    rw [e2]
    cbv
    refine goX hg _ h0 hy rfl ?_
    cbv
    rw [show g .q .neq q2 q2 = false by rw [goNeq hg]; simp]
    cbv
    rw [e3]
    cbv
    refine goX hg _ h0 hy rfl ?_
    cbv
    rw [show g .q .neq q3 q3 = false by rw [goNeq hg]; simp]
    cbv
    rw [e4]
    cbv
    refine goX hg _ h0 hy rfl ?_
    cbv
    refine goNZ hg (by decide) ?_
    cbv
    rw [m5]
    cbv
    rw [show g .qb .neq t5 t5 = false by rw [goNeqB hg]; simp]
    cbv
    rw [e5]
    cbv
    refine goX hg _ h0 hy rfl ?_
    cbv
    rw [show g .q .neq q5 q5 = false by rw [goNeq hg]; simp]
    cbv
    rw [e6]
    cbv
    refine goX hg _ h0 hy rfl ?_
    cbv
    rw [show g .q .neq q6 q6 = false by rw [goNeq hg]; simp]
    cbv
    rw [e7]
    cbv
    refine goX hg _ h0 hy rfl ?_
    cbv
    rw [show g .q .neq q7 q7 = false by rw [goNeq hg]; simp]
    cbv
    rw [e8]
    cbv
    refine goX hg _ h0 hy rfl ?_
    cbv
    refine call0 hg ch0 rfl rfl ?_
    cbv
    rw [lt9]
    cbv
    rw [ez]
    exact back hB (z + 1, q9) [] (wk0 ⟨rfl, rfl, rfl, trivial⟩) ⟨hz1, ⟨_, hR2, by rw [List.length_append, hRl]; exact hzz⟩, hK2, hkn⟩ hmu

end Go.Proofs.Ytenbloaopcfdlaa
