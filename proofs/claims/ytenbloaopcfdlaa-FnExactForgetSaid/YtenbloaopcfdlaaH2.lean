/- Marks that are found again: Asked. -/
import Derived.Test.YtenbloaopcfdlaaM2
namespace Go.Proofs.Ytenbloaopcfdlaa
open Go.ChangeShapes Go.WideShapes Go.ChangeAt Go.RowKit Am
set_option linter.unusedVariables false
set_option linter.unusedSimpArgs false
set_option maxRecDepth 100000

set_option maxHeartbeats 8000000 in
theorem laws_heldAskedS_n (k0 : Int) (ls : List (Unit)) (hl : ls.length ≤ 1048576) (hk0 : 0 ≤ k0) (hk1 : endMkAsked k0 ls ≤ 1152921504606846976) : PCon Try.prog 60 [.c (.view (mkRowsAsked k0 ls)), ai k0] fun res rows => res = .t (ai (endMkAsked k0 ls)) ∧ rows = [] := by
  obtain ⟨V, hV⟩ : ∃ V, V = mkRowsAsked k0 ls := ⟨_, rfl⟩
  have hVl : V.length = ls.length := by rw [hV, mkRowsAsked_len]
  have hV20 : lenI V ≤ 1048576 := by rw [lenI_eq]; omega
  obtain ⟨K, hKe⟩ : ∃ K, K = endMkAsked k0 ls := ⟨_, rfl⟩
  rw [← hKe] at hk1
  rw [← hV, ← hKe]
  refine pcon_run (c := body Try.f60) fits Try.func60 (by kernel_rfl) (by kernel_rfl) (by rfl) (by kernel_rfl) fun g F hg hF => ?_
  cbv
  refine loop_run hg fits (by kernel_rfl) (fun s : Int × Int => [(0, .t (.c (.view V))), (1, .t (ai s.2)), (5, .t (ai s.1))]) (fun _ => []) (fun s => 0 ≤ s.1 ∧ (∃ R, V = R ++ mkRowsAsked s.2 (ls.drop s.1.toNat) ∧ R.length = s.1.toNat) ∧ K = endMkAsked s.2 (ls.drop s.1.toNat) ∧ 0 ≤ s.2) (fun s => (lenI V).toNat - s.1.toNat)
    (0, k0) [] ⟨Int.le_refl 0, ⟨[], hV, rfl⟩, hKe, hk0⟩ (wk0 ⟨rfl, rfl, rfl, trivial⟩) (fun s B hs hB => ?_)
  obtain ⟨z, kc⟩ := s
  obtain ⟨h0, ⟨R, hR, hRl⟩, hK, hkc⟩ := hs
  simp only at h0 hR hRl hK hkc
  cbv
  cases hc : g .q .lss z (g .ln V)
  · rw [goLss hg, goLn hg, decide_eq_false_iff_not] at hc
    cbv
    have hdr : ls.drop z.toNat = [] := by rw [lenI_eq] at hc; exact List.drop_eq_nil_of_le (by omega)
    rw [hdr] at hK
    exact fin0i hF hK.symm
  · rw [goLss hg, goLn hg, decide_eq_true_eq] at hc
    cbv
    obtain ⟨j, hj⟩ : ∃ j, j = z.toNat := ⟨_, rfl⟩
    have hjl : j < ls.length := by rw [lenI_eq] at hc; omega
    obtain ⟨l, hl0⟩ : ∃ l, ls[j]? = some l := ⟨_, List.getElem?_eq_getElem hjl⟩
    have hdr : ls.drop z.toNat = l :: ls.drop (z + 1).toNat := by
      rw [← hj, show (z + 1).toNat = j + 1 by omega]
      rw [List.drop_eq_getElem_cons hjl, ← Option.some.inj ((List.getElem?_eq_getElem hjl).symm.trans hl0)]
    rw [hdr] at hR hK
    obtain rfl : l = () := rfl
    have ez : g .w .add .i64 z 1 = z + 1 := by rw [goAdd hg, wrap_small _ (by omega)]
    have hmu : (lenI V).toNat - (z + 1).toNat < (lenI V).toNat - z.toNat := by omega
    have hzz : z.toNat + 1 = (z + 1).toNat := by omega
    have hz1 : 0 ≤ z + 1 := by omega
    have hy : V[z.toNat]? = some (mkRowAsked kc ) := by
      rw [hR, List.getElem?_append_right (by omega), hRl, Nat.sub_self]
      rfl
    have hR2 : V = (R ++ [mkRowAsked kc ]) ++ mkRowsAsked (nxMkAsked kc ) (ls.drop (z + 1).toNat) := by rw [hR, List.append_assoc]; rfl
    have hK2 : K = endMkAsked (nxMkAsked kc ) (ls.drop (z + 1).toNat) := hK
    have hend := endMkAsked_le (ls.drop (z + 1).toNat) (nxMkAsked kc )
    rw [← hK2] at hend
    have hkn : 0 ≤ nxMkAsked kc  := Int.le_trans hkc (by have := endMkAsked_le [()] kc; exact this)
    have hkb : kc + 6 ≤ 1152921504606846976 := by rw [← nxMkAsked_eq]; exact Int.le_trans hend hk1
    clear hK hR hend hdr
    obtain ⟨q0, hq0⟩ : ∃ q, q = kc + 1 := ⟨_, rfl⟩
    obtain ⟨q1, hq1⟩ : ∃ q, q = kc + 2 := ⟨_, rfl⟩
    obtain ⟨q2, hq2⟩ : ∃ q, q = kc + 3 := ⟨_, rfl⟩
    obtain ⟨q3, hq3⟩ : ∃ q, q = kc + 4 := ⟨_, rfl⟩
    obtain ⟨q4, hq4⟩ : ∃ q, q = kc + 5 := ⟨_, rfl⟩
    obtain ⟨q5, hq5⟩ : ∃ q, q = kc + 6 := ⟨_, rfl⟩
    obtain ⟨hnx, g_kc⟩ := numsAsked hkc hkb hq5
    rw [← hnx] at hR2 hK2 hkn
    clear hkb hnx
    have e0 := q_add hg g_kc.1 g_kc.2 (Int.add_zero _).symm hq0 rfl (by decide) (by decide)
    have e1 := q_add hg g_kc.1 g_kc.2 hq0 hq1 rfl (by decide) (by decide)
    have e2 := q_add hg g_kc.1 g_kc.2 hq1 hq2 rfl (by decide) (by decide)
    have e3 := q_add hg g_kc.1 g_kc.2 hq2 hq3 rfl (by decide) (by decide)
    have e4 := q_add hg g_kc.1 g_kc.2 hq3 hq4 rfl (by decide) (by decide)
    have e5 := q_add hg g_kc.1 g_kc.2 hq4 hq5 rfl (by decide) (by decide)
    obtain ⟨t5, ht5⟩ : ∃ t, t = m3 q4 := ⟨_, rfl⟩
    have m5 : g .q .eql (g .w .rem .i64 q4 3) 0 = t5 := by rw [ht5, goRem hg, goEql hg]; rfl
    rw [← rowAsked_eq   ht5 hq0 hq1 hq2 hq3 hq4 hq5] at hy hR2
    replace hy : V[z.toNat]? = some [.imm (.int .i64 kc), .imm (.int .i64 q0), .imm (.int .i64 q1), .imm (.int .i64 q2), .imm (.int .i64 q3), .imm (.bool t5)] := hy
    clear  ht5 hq0 hq1 hq2 hq3 hq4 hq5 g_kc
    refine goX hg _ h0 hy rfl ?_
    cbv
    rw [show g .q .neq kc kc = false by rw [goNeq hg]; simp]
    cbv
    rw [e0]
    cbv
    refine goX hg _ h0 hy rfl ?_
    cbv
    rw [show g .q .neq q0 q0 = false by rw [goNeq hg]; simp]
    cbv
    rw [e1]
    cbv
    refine goX hg _ h0 hy rfl ?_
    cbv
    rw [show g .q .neq q1 q1 = false by rw [goNeq hg]; simp]
    cbv
    rw [e2]
    cbv
    refine goX hg _ h0 hy rfl ?_
    cbv
    rw [show g .q .neq q2 q2 = false by rw [goNeq hg]; simp]
    cbv
    rw [e3]
    cbv
    refine goX hg _ h0 hy rfl ?_
    cbv
    rw [show g .q .neq q3 q3 = false by rw [goNeq hg]; simp]
    cbv
    rw [e4]
    cbv
    refine goX hg _ h0 hy rfl ?_
    cbv
    refine goNZ hg (by decide) ?_
    cbv
    rw [m5]
    cbv
    rw [show g .qb .neq t5 t5 = false by rw [goNeqB hg]; simp]
    cbv
    rw [e5]
    cbv
    rw [ez]
    exact back hB (z + 1, q5) [] (wk0 ⟨rfl, rfl, rfl, trivial⟩) ⟨hz1, ⟨_, hR2, by rw [List.length_append, hRl]; exact hzz⟩, hK2, hkn⟩ hmu

end Go.Proofs.Ytenbloaopcfdlaa
