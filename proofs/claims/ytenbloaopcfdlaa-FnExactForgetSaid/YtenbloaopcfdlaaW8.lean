/- Whether a node lies under another. -/
import Derived.Test.YtenbloaopcfdlaaW5
namespace Go.Proofs.Ytenbloaopcfdlaa
open Go.ChangeShapes Go.WideShapes Go.ChangeAt Go.RowKit Am
set_option linter.unusedVariables false
set_option linter.unusedSimpArgs false
set_option maxRecDepth 100000

def undF (ns : List NNode) (a : Int) : Nat → Int → Bool
  | 0, _ => false
  | k + 1, n => isN ns n && (if upN ns n = a then isN ns a else undF ns a k (upN ns n))
theorem undF_no {ns : List NNode} {a : Int} (h : isN ns a = false) : ∀ (k : Nat) (n : Int), undF ns a k n = false
  | 0, n => rfl
  | k + 1, n => by unfold undF; rw [h, undF_no h k]; simp
theorem undF_out {ns : List NNode} {a n : Int} (h : isN ns n = false) (k : Nat) : undF ns a k n = false := by cases k <;> simp [undF, h]
theorem undF_hit {ns : List NNode} {a n u : Int} (h : isN ns n = true) (hu : upN ns n = u) (hs : u = a) (k : Nat) : undF ns a (k + 1) n = isN ns a := by rw [undF, h, hu, if_pos hs]; rfl
theorem undF_up {ns : List NNode} {a n u : Int} (h : isN ns n = true) (hu : upN ns n = u) (hs : u ≠ a) (k : Nat) : undF ns a (k + 1) n = undF ns a k u := by rw [undF, h, hu, if_neg hs]; rfl
theorem undF_stable {ns : List NNode} {a : Int} : ∀ (k : Nat) (n : Int), upD ns k n → undF ns a (k + 1) n = undF ns a k n
  | 0, n, h => undF_out h 1
  | k + 1, n, h => by
    rcases h with h | h
    · rw [undF_out h, undF_out h]
    · have := undF_stable (a := a) k _ h
      show (isN ns n && (if upN ns n = a then isN ns a else undF ns a (k + 1) (upN ns n))) = (isN ns n && (if upN ns n = a then isN ns a else undF ns a k (upN ns n)))
      rw [this]
set_option maxHeartbeats 8000000 in
theorem impl_IsUnder_a (ns : List NNode) (hl : ns.length ≤ 1048576) (n0 a : Int) : PCon Try.prog 58 [.agg [.view (vwA NNode.ac ns)], ai n0, ai a] fun res rows => res = .t (abl (undF ns a ns.length n0)) ∧ rows = [] := by
  obtain ⟨T, hT⟩ : ∃ T, T = vwA NNode.ac ns := ⟨_, rfl⟩
  have hTx : lenI T = (ns.length : Int) := by rw [lenI_eq, hT, vwA_length]
  have hisN : ∀ n, isN ns n = rng n 1 (lenI T) := fun n => by rw [hTx]; rfl
  have hT1 : lenI T ≤ 1048576 := by omega
  have hT0 : 0 ≤ lenI T := by omega
  have hfu : ∀ z : Int, 0 ≤ z → z < lenI T → ns.length - z.toNat = (ns.length - (z + 1).toNat) + 1 := fun d h0 h1 => dep_fuel hTx h0 h1
  have hfe : ∀ z : Int, ¬ z < lenI T → ns.length - z.toNat = 0 := fun z h => by omega
  obtain ⟨R, hR⟩ : ∃ R, R = undF ns a ns.length n0 := ⟨_, rfl⟩
  have hst : undF ns a (ns.length - (0 : Int).toNat) n0 = R := by rw [hR]; rfl
  rw [← hR, ← hT]
  have ca := impl_isNode_a T a
  rw [← hisN a] at ca
  refine pcon_run (c := body Try.f58) fits Try.func58 (by kernel_rfl) (by kernel_rfl) (by rfl) (by kernel_rfl) fun g F hg hF => ?_
  cbv
  cases hia : isN ns a
  case false =>
    rw [hia] at ca
    refine call0 hg ca rfl rfl ?_
    cbv
    exact fin0b hF (by rw [hR, undF_no hia])
  rw [hia] at ca
  refine call0 hg ca rfl rfl ?_
  cbv
  have cn := impl_isNode_a T n0
  rw [← hisN n0] at cn
  cases hin : isN ns n0
  case false =>
    rw [hin] at cn
    refine call0 hg cn rfl rfl ?_
    cbv
    exact fin0b hF (by rw [hR, undF_out hin])
  rw [hin] at cn
  refine call0 hg cn rfl rfl ?_
  cbv
  refine loop_run hg fits (by kernel_rfl) (fun s : Int × Int => [(1, .t (ai s.2)), (2, .t (ai a)), (3, .t (.c (.ptr 0 0 0))), (19, .t (ai (g .ln T))), (20, .t (ai s.1))]) (fun _ => [.bx 55 1 [.view T]]) (fun s => 0 ≤ s.1 ∧ isN ns s.2 = true ∧ undF ns a (ns.length - s.1.toNat) s.2 = R) (fun s => (lenI T).toNat - s.1.toNat)
    (0, n0) [some 0] ⟨Int.le_refl 0, hin, hst⟩ (wkS [0] (by decide) ⟨⟨_, rfl, rfl, rfl⟩, trivial⟩ ⟨rfl, rfl, rfl, rfl, rfl, trivial⟩) (fun s B hs hB => ?_)
  obtain ⟨z, n⟩ := s
  obtain ⟨h0, hi, hU⟩ := hs
  simp only at h0 hi hU
  cbv
  cases hc : g .q .lss z (g .ln T)
  · rw [goLss hg, goLn hg, decide_eq_false_iff_not] at hc
    cbv
    exact fin0b hF (by rw [← hU, hfe z hc]; rfl)
  rw [goLss hg, goLn hg, decide_eq_true_eq] at hc
  cbv
  obtain ⟨i1, i2, x, hx⟩ := isN_at hi
  have hi2 : n ≤ 1048576 := Int.le_trans (hTx ▸ i2) hT1
  have htt : T[(n - 1).toNat]? = some x.ac := by rw [hT]; exact vwA_at hx
  have hun := upN_at hx
  rw [hfu z h0 hc] at hU
  obtain ⟨b0, b1, ⟨b2, b3, b4, b5, b6, b7, b8, b9, b10, b11, b12, ⟨b13, b14⟩, ⟨b15, b16⟩, ⟨b17, b18⟩, ⟨b19, b20⟩, ⟨b21, b22⟩, ⟨b23, b24⟩, ⟨b25, b26⟩, b27, ⟨⟨b28, b29⟩, ⟨b30, b31⟩, ⟨b32, b33⟩, ⟨b34, b35⟩, ⟨b36, b37⟩, ⟨b38, b39⟩⟩, ⟨⟨b40, b41⟩, ⟨b42, b43⟩, ⟨b44, b45⟩, ⟨b46, b47⟩, ⟨b48, b49⟩, ⟨b50, b51⟩⟩, ⟨b52, b53, b54, b55⟩, ⟨b56, b57, b58, b59⟩, b60, b61⟩, b62, ⟨b63⟩⟩ := x
  replace htt : T[(n - 1).toNat]? = some [.imm (.int .i64 b0), .view (vw intC b1), .imm (.int .i64 b2), .imm (.int .i64 b3), .imm (.int .i64 b4), .imm (.int .i64 b5), .imm (.int .i64 b6), .imm (.int .i64 b7), .imm (.bool b8), .imm (.bool b9), .imm (.int .i64 b10), .imm (.int .i64 b11), .imm (.int .i64 b12), .imm (.int .i64 b13), .imm (.int .i64 b14), .imm (.int .i64 b15), .imm (.int .i64 b16), .imm (.int .i64 b17), .imm (.int .i64 b18), .imm (.int .i64 b19), .imm (.int .i64 b20), .imm (.int .i64 b21), .imm (.int .i64 b22), .imm (.int .i64 b23), .imm (.int .i64 b24), .imm (.int .i64 b25), .imm (.int .i64 b26), .imm (.int .i64 b27), .imm (.int .i64 b28), .imm (.int .i64 b29), .imm (.int .i64 b30), .imm (.int .i64 b31), .imm (.int .i64 b32), .imm (.int .i64 b33), .imm (.int .i64 b34), .imm (.int .i64 b35), .imm (.int .i64 b36), .imm (.int .i64 b37), .imm (.int .i64 b38), .imm (.int .i64 b39), .imm (.int .i64 b40), .imm (.int .i64 b41), .imm (.int .i64 b42), .imm (.int .i64 b43), .imm (.int .i64 b44), .imm (.int .i64 b45), .imm (.int .i64 b46), .imm (.int .i64 b47), .imm (.int .i64 b48), .imm (.int .i64 b49), .imm (.int .i64 b50), .imm (.int .i64 b51), .imm (.int .i64 b52), .imm (.int .i64 b53), .imm (.int .i64 b54), .imm (.int .i64 b55), .imm (.int .i64 b56), .imm (.int .i64 b57), .imm (.int .i64 b58), .imm (.int .i64 b59), .imm (.int .i64 b60), .imm (.int .i64 b61), .imm (.bool b62), .view (vw GRule.c b63)] := htt
  obtain ⟨Vb1, hVb1⟩ : ∃ V, V = vw intC b1 := ⟨_, rfl⟩
  obtain ⟨Vb63, hVb63⟩ : ∃ V, V = vw GRule.c b63 := ⟨_, rfl⟩
  rw [← hVb1, ← hVb63] at htt
  simp only at hun
  refine call0 hg (impl_node_a T n i1 hi2 htt) rfl rfl ?_
  cbv
  have cb := impl_isNode_a T b0
  rw [← hisN b0] at cb
  cases hib : isN ns b0
  case false =>
    rw [hib] at cb
    refine call0 hg cb rfl rfl ?_
    cbv
    refine fin0b hF ?_
    rw [← hU, undF_up hi hun (fun h => by rw [h, hia] at hib; cases hib), undF_out hib]
  rw [hib] at cb
  refine call0 hg cb rfl rfl ?_
  cbv
  cases he : g .q .eql b0 a
  case true =>
    rw [goEql hg, beq_iff_eq] at he
    cbv
    exact fin0b hF (by rw [← hU, undF_hit hi hun he, hia])
  rw [goEql hg, beq_eq_false_iff_ne] at he
  rw [undF_up hi hun he] at hU
  cbv
  have e1 : g .w .add .i64 z 1 = z + 1 := by rw [goAdd hg, wrap_small _ (by omega)]
  rw [e1]
  exact back hB (z + 1, b0) [some 0] (wkS [0] (by decide) ⟨⟨_, rfl, rfl, rfl⟩, trivial⟩ ⟨rfl, rfl, rfl, rfl, rfl, trivial⟩) ⟨by simp only; omega, hib, hU⟩ (by show (lenI T).toNat - (z + 1).toNat < (lenI T).toNat - z.toNat; omega)
set_option maxHeartbeats 8000000 in
theorem spec_IsUnder_a (ns : List NNode) (hl : ns.length ≤ 1048576) (n0 a : Int) (hud : upD ns ns.length n0) : PCon Try.prog 56 [.agg [.view (vwA NNode.ac ns)], ai n0, ai a] fun res rows => res = .t (abl (undF ns a ns.length n0)) ∧ rows = [] := by
  rw [← undF_stable ns.length n0 hud]
  clear hud
  obtain ⟨T, hT⟩ : ∃ T, T = vwA NNode.ac ns := ⟨_, rfl⟩
  have hTx : lenI T = (ns.length : Int) := by rw [lenI_eq, hT, vwA_length]
  have hisN : ∀ n, isN ns n = rng n 1 (lenI T) := fun n => by rw [hTx]; rfl
  have hT1 : lenI T ≤ 1048576 := by omega
  have hT0 : 0 ≤ lenI T := by omega
  have hfu : ∀ z : Int, 0 ≤ z → z ≤ lenI T → ns.length + 1 - z.toNat = (ns.length + 1 - (z + 1).toNat) + 1 := fun d h0 h1 => by omega
  have hfe : ∀ z : Int, ¬ z ≤ lenI T → ns.length + 1 - z.toNat = 0 := fun z h => by omega
  obtain ⟨R, hR⟩ : ∃ R, R = undF ns a (ns.length + 1) n0 := ⟨_, rfl⟩
  have hst : undF ns a (ns.length + 1 - (0 : Int).toNat) n0 = R := by rw [hR]; rfl
  rw [← hR, ← hT]
  have ca := spec_l10Is_a T a
  rw [← hisN a] at ca
  refine pcon_run (c := body Try.f56) fits Try.func56 (by kernel_rfl) (by kernel_rfl) (by rfl) (by kernel_rfl) fun g F hg hF => ?_
  cbv
  refine loop_run hg fits (by kernel_rfl) (fun s : Int × Int => [(1, .t (ai s.2)), (2, .t (ai a)), (3, .t (.c (.ptr 0 0 0))), (7, .t (ai s.1))]) (fun _ => [.bx 55 1 [.view T]]) (fun s => 0 ≤ s.1 ∧ undF ns a (ns.length + 1 - s.1.toNat) s.2 = R) (fun s => (lenI T + 1).toNat - s.1.toNat)
    (0, n0) [some 0] ⟨Int.le_refl 0, hst⟩ (wkS [0] (by decide) ⟨⟨_, rfl, rfl, rfl⟩, trivial⟩ ⟨rfl, rfl, rfl, rfl, trivial⟩) (fun s B hs hB => ?_)
  obtain ⟨z, n⟩ := s
  obtain ⟨h0, hU⟩ := hs
  simp only at h0 hU
  cbv
  cases hc : g .q .leq z (g .ln T)
  · rw [goLeq hg, goLn hg, decide_eq_false_iff_not] at hc
    cbv
    exact fin0b hF (by rw [← hU, hfe z hc]; rfl)
  rw [goLeq hg, goLn hg, decide_eq_true_eq] at hc
  cbv
  have cn := spec_l10Is_a T n
  rw [← hisN n] at cn
  cases hi : isN ns n
  case false =>
    rw [hi] at cn
    refine call0 hg cn rfl rfl ?_
    cbv
    exact fin0b hF (by rw [← hU, undF_out hi])
  rw [hi] at cn
  refine call0 hg cn rfl rfl ?_
  cbv
  obtain ⟨i1, i2, x, hx⟩ := isN_at hi
  have hi2 : n ≤ 1048576 := Int.le_trans (hTx ▸ i2) hT1
  have htt : T[(n - 1).toNat]? = some x.ac := by rw [hT]; exact vwA_at hx
  have hun := upN_at hx
  rw [hfu z h0 hc] at hU
  obtain ⟨b0, b1, ⟨b2, b3, b4, b5, b6, b7, b8, b9, b10, b11, b12, ⟨b13, b14⟩, ⟨b15, b16⟩, ⟨b17, b18⟩, ⟨b19, b20⟩, ⟨b21, b22⟩, ⟨b23, b24⟩, ⟨b25, b26⟩, b27, ⟨⟨b28, b29⟩, ⟨b30, b31⟩, ⟨b32, b33⟩, ⟨b34, b35⟩, ⟨b36, b37⟩, ⟨b38, b39⟩⟩, ⟨⟨b40, b41⟩, ⟨b42, b43⟩, ⟨b44, b45⟩, ⟨b46, b47⟩, ⟨b48, b49⟩, ⟨b50, b51⟩⟩, ⟨b52, b53, b54, b55⟩, ⟨b56, b57, b58, b59⟩, b60, b61⟩, b62, ⟨b63⟩⟩ := x
  replace htt : T[(n - 1).toNat]? = some [.imm (.int .i64 b0), .view (vw intC b1), .imm (.int .i64 b2), .imm (.int .i64 b3), .imm (.int .i64 b4), .imm (.int .i64 b5), .imm (.int .i64 b6), .imm (.int .i64 b7), .imm (.bool b8), .imm (.bool b9), .imm (.int .i64 b10), .imm (.int .i64 b11), .imm (.int .i64 b12), .imm (.int .i64 b13), .imm (.int .i64 b14), .imm (.int .i64 b15), .imm (.int .i64 b16), .imm (.int .i64 b17), .imm (.int .i64 b18), .imm (.int .i64 b19), .imm (.int .i64 b20), .imm (.int .i64 b21), .imm (.int .i64 b22), .imm (.int .i64 b23), .imm (.int .i64 b24), .imm (.int .i64 b25), .imm (.int .i64 b26), .imm (.int .i64 b27), .imm (.int .i64 b28), .imm (.int .i64 b29), .imm (.int .i64 b30), .imm (.int .i64 b31), .imm (.int .i64 b32), .imm (.int .i64 b33), .imm (.int .i64 b34), .imm (.int .i64 b35), .imm (.int .i64 b36), .imm (.int .i64 b37), .imm (.int .i64 b38), .imm (.int .i64 b39), .imm (.int .i64 b40), .imm (.int .i64 b41), .imm (.int .i64 b42), .imm (.int .i64 b43), .imm (.int .i64 b44), .imm (.int .i64 b45), .imm (.int .i64 b46), .imm (.int .i64 b47), .imm (.int .i64 b48), .imm (.int .i64 b49), .imm (.int .i64 b50), .imm (.int .i64 b51), .imm (.int .i64 b52), .imm (.int .i64 b53), .imm (.int .i64 b54), .imm (.int .i64 b55), .imm (.int .i64 b56), .imm (.int .i64 b57), .imm (.int .i64 b58), .imm (.int .i64 b59), .imm (.int .i64 b60), .imm (.int .i64 b61), .imm (.bool b62), .view (vw GRule.c b63)] := htt
  obtain ⟨Vb1, hVb1⟩ : ∃ V, V = vw intC b1 := ⟨_, rfl⟩
  obtain ⟨Vb63, hVb63⟩ : ∃ V, V = vw GRule.c b63 := ⟨_, rfl⟩
  rw [← hVb1, ← hVb63] at htt
  simp only at hun
  refine call0 hg (spec_l10Node_a T n i1 hi2 htt) rfl rfl ?_
  cbv
  cases he : g .q .eql b0 a
  case true =>
    rw [goEql hg, beq_iff_eq] at he
    cbv
    refine callB hg ca rfl (fun R1 hR1 => ?_)
    cbv
    exact fin0b hF (by rw [← hU, undF_hit hi hun he, hR1])
  rw [goEql hg, beq_eq_false_iff_ne] at he
  rw [undF_up hi hun he] at hU
  cbv
  have e1 : g .w .add .i64 z 1 = z + 1 := by rw [goAdd hg, wrap_small _ (by omega)]
  rw [e1]
  exact back hB (z + 1, b0) [some 0] (wkS [0] (by decide) ⟨⟨_, rfl, rfl, rfl⟩, trivial⟩ ⟨rfl, rfl, rfl, rfl, trivial⟩) ⟨by simp only; omega, hU⟩ (by show (lenI T + 1).toNat - (z + 1).toNat < (lenI T + 1).toNat - z.toNat; omega)

end Go.Proofs.Ytenbloaopcfdlaa
