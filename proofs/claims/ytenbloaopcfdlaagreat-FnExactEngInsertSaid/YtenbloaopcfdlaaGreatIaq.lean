/- Marks that are found again: Node. -/
import Derived.Test.YtenbloaopcfdlaaGreatIap
namespace Go.Proofs.YtenbloaopcfdlaaGreat
open Go.ChangeShapes Go.WideShapes Go.ChangeAt Go.RowKit Am
set_option linter.unusedVariables false
set_option linter.unusedSimpArgs false
set_option maxRecDepth 100000
theorem NewB.swap {lo : Nat} {as_ bs : List Nat} (h : NewB lo (as_ ++ bs)) : NewB lo (bs ++ as_) := by
  obtain ⟨h1, h2, h3⟩ := List.nodup_append.1 h.1
  exact ⟨List.nodup_append.2 ⟨h2, h1, fun a ha b hb he => h3 b hb a ha he.symm⟩, fun b hb => h.2 b (by rcases List.mem_append.1 hb with h | h; exact List.mem_append_right _ h; exact List.mem_append_left _ h)⟩
def NNode.acT (x : NNode) (b1 b63 : List Nat) : List AC :=
  match x with
  | ⟨a0, a1, ⟨a2, a3, a4, a5, a6, a7, a8, a9, a10, a11, a12, ⟨a13, a14⟩, ⟨a15, a16⟩, ⟨a17, a18⟩, ⟨a19, a20⟩, ⟨a21, a22⟩, ⟨a23, a24⟩, ⟨a25, a26⟩, a27, ⟨⟨a28, a29⟩, ⟨a30, a31⟩, ⟨a32, a33⟩, ⟨a34, a35⟩, ⟨a36, a37⟩, ⟨a38, a39⟩⟩, ⟨⟨a40, a41⟩, ⟨a42, a43⟩, ⟨a44, a45⟩, ⟨a46, a47⟩, ⟨a48, a49⟩, ⟨a50, a51⟩⟩, ⟨a52, a53, a54, a55⟩, ⟨a56, a57, a58, a59⟩, a60, a61⟩, a62, ⟨a63⟩⟩ => [.imm (.int .i64 a0), .fv b1 (vw intC a1), .imm (.int .i64 a2), .imm (.int .i64 a3), .imm (.int .i64 a4), .imm (.int .i64 a5), .imm (.int .i64 a6), .imm (.int .i64 a7), .imm (.bool a8), .imm (.bool a9), .imm (.int .i64 a10), .imm (.int .i64 a11), .imm (.int .i64 a12), .imm (.int .i64 a13), .imm (.int .i64 a14), .imm (.int .i64 a15), .imm (.int .i64 a16), .imm (.int .i64 a17), .imm (.int .i64 a18), .imm (.int .i64 a19), .imm (.int .i64 a20), .imm (.int .i64 a21), .imm (.int .i64 a22), .imm (.int .i64 a23), .imm (.int .i64 a24), .imm (.int .i64 a25), .imm (.int .i64 a26), .imm (.int .i64 a27), .imm (.int .i64 a28), .imm (.int .i64 a29), .imm (.int .i64 a30), .imm (.int .i64 a31), .imm (.int .i64 a32), .imm (.int .i64 a33), .imm (.int .i64 a34), .imm (.int .i64 a35), .imm (.int .i64 a36), .imm (.int .i64 a37), .imm (.int .i64 a38), .imm (.int .i64 a39), .imm (.int .i64 a40), .imm (.int .i64 a41), .imm (.int .i64 a42), .imm (.int .i64 a43), .imm (.int .i64 a44), .imm (.int .i64 a45), .imm (.int .i64 a46), .imm (.int .i64 a47), .imm (.int .i64 a48), .imm (.int .i64 a49), .imm (.int .i64 a50), .imm (.int .i64 a51), .imm (.int .i64 a52), .imm (.int .i64 a53), .imm (.int .i64 a54), .imm (.int .i64 a55), .imm (.int .i64 a56), .imm (.int .i64 a57), .imm (.int .i64 a58), .imm (.int .i64 a59), .imm (.int .i64 a60), .imm (.int .i64 a61), .imm (.bool a62), .fv b63 (vw GRule.c a63)]
set_option maxHeartbeats 8000000 in
theorem laws_toTable_t (x : NTable) (hs : x.small) : TCon Tryz.prog 23 [.agg x.ac] fun lo res rows => (∃ b, res = .t (.agg [.fv b (vw GRule.c x.rules)]) ∧ NewB lo b) ∧ plainV res = true ∧ rows = [] := by
  obtain ⟨a0⟩ := x
  obtain ⟨sa0, -⟩ := hs
  show TCon _ _ [.agg [.view (vw GRule.c a0)]] (fun lo res rows => (∃ b, res = .t (.agg [.fv b (vw GRule.c a0)]) ∧ NewB lo b) ∧ plainV res = true ∧ rows = [])
  have c0 := toRow (laws_toRuleS_a a0 sa0)
  obtain ⟨Va0, hVa0⟩ : ∃ Va0, Va0 = vw GRule.c a0 := ⟨_, rfl⟩
  have hVa0l : Va0.length = a0.length := by rw [hVa0, vw_length]
  have iVa0 : immE Va0 = true := by rw [hVa0]; exact vw_imm _ _
  have kVa0 : ∀ y ∈ Va0, y.length = 3 := by rw [hVa0]; exact vw_k (c := GRule.c) (k := 3) fun _ => rfl
  have dVa0 : ∀ y ∈ Va0, y.all dat = true := by rw [hVa0]; exact vw_dat
  rw [← hVa0] at c0
  rw [← hVa0]
  refine tcon_run ([]) ([]) (c := body Tryz.f23) fits Tryz.func23 (by kernel_rfl) (by kernel_rfl) (by rfl) (by kernel_rfl) fun β g eff hd F heff hhd hg hF => ?_
  cbv
  repeat' (first | (refine callRow hg c0 (dat_data rfl) iVa0 ?_; cbv) | (refine callRowP hg c0 (dat_data rfl) iVa0 ?_; cbv))
  refine finTS hF fun bl hbl => ⟨[.agg [.fv (hd1 (bl 3) Va0) Va0]], .agg (.cons (ress_immRow (r := 3) (ab := ⟨_, _, Va0⟩) rfl iVa0) .nil) .nil, ⟨_, rfl, blk_new hbl (r := 3) (ab := ⟨_, _, Va0⟩) rfl⟩, rfl, rfl⟩
set_option maxHeartbeats 8000000 in
theorem laws_toNode_t (x : NNode) (hs : x.small) : TCon Tryz.prog 119 [.agg x.ac] fun lo res rows => (∃ b1 b63, res = .t (.agg (x.acT b1 b63)) ∧ NewB lo (b1 ++ b63)) ∧ plainV res = true ∧ rows = [] := by
  obtain ⟨a0, a1, ⟨a2, a3, a4, a5, a6, a7, a8, a9, a10, a11, a12, ⟨a13, a14⟩, ⟨a15, a16⟩, ⟨a17, a18⟩, ⟨a19, a20⟩, ⟨a21, a22⟩, ⟨a23, a24⟩, ⟨a25, a26⟩, a27, ⟨⟨a28, a29⟩, ⟨a30, a31⟩, ⟨a32, a33⟩, ⟨a34, a35⟩, ⟨a36, a37⟩, ⟨a38, a39⟩⟩, ⟨⟨a40, a41⟩, ⟨a42, a43⟩, ⟨a44, a45⟩, ⟨a46, a47⟩, ⟨a48, a49⟩, ⟨a50, a51⟩⟩, ⟨a52, a53, a54, a55⟩, ⟨a56, a57, a58, a59⟩, a60, a61⟩, a62, ⟨a63⟩⟩ := x
  obtain ⟨sa1, sa63, -⟩ := hs
  show TCon _ _ [.agg [.imm (.int .i64 a0), .view (vw intC a1), .imm (.int .i64 a2), .imm (.int .i64 a3), .imm (.int .i64 a4), .imm (.int .i64 a5), .imm (.int .i64 a6), .imm (.int .i64 a7), .imm (.bool a8), .imm (.bool a9), .imm (.int .i64 a10), .imm (.int .i64 a11), .imm (.int .i64 a12), .imm (.int .i64 a13), .imm (.int .i64 a14), .imm (.int .i64 a15), .imm (.int .i64 a16), .imm (.int .i64 a17), .imm (.int .i64 a18), .imm (.int .i64 a19), .imm (.int .i64 a20), .imm (.int .i64 a21), .imm (.int .i64 a22), .imm (.int .i64 a23), .imm (.int .i64 a24), .imm (.int .i64 a25), .imm (.int .i64 a26), .imm (.int .i64 a27), .imm (.int .i64 a28), .imm (.int .i64 a29), .imm (.int .i64 a30), .imm (.int .i64 a31), .imm (.int .i64 a32), .imm (.int .i64 a33), .imm (.int .i64 a34), .imm (.int .i64 a35), .imm (.int .i64 a36), .imm (.int .i64 a37), .imm (.int .i64 a38), .imm (.int .i64 a39), .imm (.int .i64 a40), .imm (.int .i64 a41), .imm (.int .i64 a42), .imm (.int .i64 a43), .imm (.int .i64 a44), .imm (.int .i64 a45), .imm (.int .i64 a46), .imm (.int .i64 a47), .imm (.int .i64 a48), .imm (.int .i64 a49), .imm (.int .i64 a50), .imm (.int .i64 a51), .imm (.int .i64 a52), .imm (.int .i64 a53), .imm (.int .i64 a54), .imm (.int .i64 a55), .imm (.int .i64 a56), .imm (.int .i64 a57), .imm (.int .i64 a58), .imm (.int .i64 a59), .imm (.int .i64 a60), .imm (.int .i64 a61), .imm (.bool a62), .view (vw GRule.c a63)]] (fun lo res rows => (∃ b1 b63, res = .t (.agg [.imm (.int .i64 a0), .fv b1 (vw intC a1), .imm (.int .i64 a2), .imm (.int .i64 a3), .imm (.int .i64 a4), .imm (.int .i64 a5), .imm (.int .i64 a6), .imm (.int .i64 a7), .imm (.bool a8), .imm (.bool a9), .imm (.int .i64 a10), .imm (.int .i64 a11), .imm (.int .i64 a12), .imm (.int .i64 a13), .imm (.int .i64 a14), .imm (.int .i64 a15), .imm (.int .i64 a16), .imm (.int .i64 a17), .imm (.int .i64 a18), .imm (.int .i64 a19), .imm (.int .i64 a20), .imm (.int .i64 a21), .imm (.int .i64 a22), .imm (.int .i64 a23), .imm (.int .i64 a24), .imm (.int .i64 a25), .imm (.int .i64 a26), .imm (.int .i64 a27), .imm (.int .i64 a28), .imm (.int .i64 a29), .imm (.int .i64 a30), .imm (.int .i64 a31), .imm (.int .i64 a32), .imm (.int .i64 a33), .imm (.int .i64 a34), .imm (.int .i64 a35), .imm (.int .i64 a36), .imm (.int .i64 a37), .imm (.int .i64 a38), .imm (.int .i64 a39), .imm (.int .i64 a40), .imm (.int .i64 a41), .imm (.int .i64 a42), .imm (.int .i64 a43), .imm (.int .i64 a44), .imm (.int .i64 a45), .imm (.int .i64 a46), .imm (.int .i64 a47), .imm (.int .i64 a48), .imm (.int .i64 a49), .imm (.int .i64 a50), .imm (.int .i64 a51), .imm (.int .i64 a52), .imm (.int .i64 a53), .imm (.int .i64 a54), .imm (.int .i64 a55), .imm (.int .i64 a56), .imm (.int .i64 a57), .imm (.int .i64 a58), .imm (.int .i64 a59), .imm (.int .i64 a60), .imm (.int .i64 a61), .imm (.bool a62), .fv b63 (vw GRule.c a63)]) ∧ NewB lo (b1 ++ b63)) ∧ plainV res = true ∧ rows = [])
  have c1 := toRow (laws_toIntS_a a1 sa1)
  have c63 := laws_toTable_t ⟨a63⟩ ⟨sa63, trivial⟩
  replace c63 : TCon Tryz.prog 23 [.agg [.view (vw GRule.c a63)]] (fun lo res rows => (∃ b, res = .t (.agg [.fv b (vw GRule.c a63)]) ∧ NewB lo b) ∧ plainV res = true ∧ rows = []) := c63
  obtain ⟨Va1, hVa1⟩ : ∃ Va1, Va1 = vw intC a1 := ⟨_, rfl⟩
  have hVa1l : Va1.length = a1.length := by rw [hVa1, vw_length]
  have iVa1 : immE Va1 = true := by rw [hVa1]; exact vw_imm _ _
  have kVa1 : ∀ y ∈ Va1, y.length = 1 := by rw [hVa1]; exact vw_k (c := intC) (k := 1) fun _ => rfl
  have dVa1 : ∀ y ∈ Va1, y.all dat = true := by rw [hVa1]; exact vw_dat
  obtain ⟨Va63, hVa63⟩ : ∃ V, V = vw GRule.c a63 := ⟨_, rfl⟩
  rw [← hVa1] at c1
  rw [← hVa63] at c63
  rw [← hVa1, ← hVa63]
  refine tcon_run ([]) ([]) (c := body Tryz.f119) fits Tryz.func119 (by kernel_rfl) (by kernel_rfl) (by rfl) (by kernel_rfl) fun β g eff hd F heff hhd hg hF => ?_
  cbv
  repeat' (first | (refine callRow hg c1 (dat_data rfl) iVa1 ?_; cbv) | (refine call0 hg (laws_toStyle_a (⟨a2, a3, a4, a5, a6, a7, a8, a9, a10, a11, a12, ⟨a13, a14⟩, ⟨a15, a16⟩, ⟨a17, a18⟩, ⟨a19, a20⟩, ⟨a21, a22⟩, ⟨a23, a24⟩, ⟨a25, a26⟩, a27, ⟨⟨a28, a29⟩, ⟨a30, a31⟩, ⟨a32, a33⟩, ⟨a34, a35⟩, ⟨a36, a37⟩, ⟨a38, a39⟩⟩, ⟨⟨a40, a41⟩, ⟨a42, a43⟩, ⟨a44, a45⟩, ⟨a46, a47⟩, ⟨a48, a49⟩, ⟨a50, a51⟩⟩, ⟨a52, a53, a54, a55⟩, ⟨a56, a57, a58, a59⟩, a60, a61⟩ : GStyle)) rfl rfl ?_; cbv))
  refine callT0 hg c63 (dwA_same rfl) (fun lo res h1 h2 h3 ⟨b63, hres, hn⟩ => ?_)
  subst hres
  clear h2 h3
  cbv
  refine finTS hF fun bl hbl => ⟨[.agg [.imm (.int .i64 a0), .fv (hd1 (bl 3) Va1) Va1, .imm (.int .i64 a2), .imm (.int .i64 a3), .imm (.int .i64 a4), .imm (.int .i64 a5), .imm (.int .i64 a6), .imm (.int .i64 a7), .imm (.bool a8), .imm (.bool a9), .imm (.int .i64 a10), .imm (.int .i64 a11), .imm (.int .i64 a12), .imm (.int .i64 a13), .imm (.int .i64 a14), .imm (.int .i64 a15), .imm (.int .i64 a16), .imm (.int .i64 a17), .imm (.int .i64 a18), .imm (.int .i64 a19), .imm (.int .i64 a20), .imm (.int .i64 a21), .imm (.int .i64 a22), .imm (.int .i64 a23), .imm (.int .i64 a24), .imm (.int .i64 a25), .imm (.int .i64 a26), .imm (.int .i64 a27), .imm (.int .i64 a28), .imm (.int .i64 a29), .imm (.int .i64 a30), .imm (.int .i64 a31), .imm (.int .i64 a32), .imm (.int .i64 a33), .imm (.int .i64 a34), .imm (.int .i64 a35), .imm (.int .i64 a36), .imm (.int .i64 a37), .imm (.int .i64 a38), .imm (.int .i64 a39), .imm (.int .i64 a40), .imm (.int .i64 a41), .imm (.int .i64 a42), .imm (.int .i64 a43), .imm (.int .i64 a44), .imm (.int .i64 a45), .imm (.int .i64 a46), .imm (.int .i64 a47), .imm (.int .i64 a48), .imm (.int .i64 a49), .imm (.int .i64 a50), .imm (.int .i64 a51), .imm (.int .i64 a52), .imm (.int .i64 a53), .imm (.int .i64 a54), .imm (.int .i64 a55), .imm (.int .i64 a56), .imm (.int .i64 a57), .imm (.int .i64 a58), .imm (.int .i64 a59), .imm (.int .i64 a60), .imm (.int .i64 a61), .imm (.bool a62), .fv b63 Va63]], .agg (by repeat' (first | exact .nil | refine .cons ?_ ?_ | exact .imm _ | exact .fv _ _ | exact ress_immRow (r := 3) (ab := ⟨_, _, Va1⟩) rfl iVa1)) .nil, ⟨_, _, rfl, (blk_tail hbl (r := 3) (ab := ⟨_, _, Va1⟩) rfl (List.mem_singleton.2 rfl) (ps := b63) (ys := Va63) (by simp [AT.cells]) (hn.mono h1)).swap⟩, rfl, rfl⟩
set_option maxHeartbeats 8000000 in
theorem laws_toNodeS_t (xs : List NNode) (hl : xs.length ≤ 1048576) (hs : ∀ y ∈ xs, y.small) : TCon Tryz.prog 80 [.c (.view (vwA NNode.ac xs))] fun lo res rows => (∃ bs, res = .t (.c (.fv bs (vwA NNode.ac xs))) ∧ NewB lo bs) ∧ plainV res = true ∧ rows = [] := by
  obtain ⟨V, hV⟩ : ∃ V, V = vwA NNode.ac xs := ⟨_, rfl⟩
  have hVl : V.length = xs.length := by rw [hV, vwA_length]
  have hVx : lenI V = (xs.length : Int) := by rw [lenI_eq]; omega
  have hV1 : lenI V ≤ 1048576 := by omega
  rw [← hV]
  refine tcon_run ([]) ([]) (c := body Tryz.f80) fits Tryz.func80 (by kernel_rfl) (by kernel_rfl) (by rfl) (by kernel_rfl) fun β g eff hd F heff hhd hg hF => ?_
  cbv
  refine goMk hg (by decide) (by rw [hVl]; exact hl) ?_
  cbv
  have hst : FillT 64 V (List.replicate (g .ln V).toNat [.imm (.int .i64 0), .imm (.slice none 0 0), .imm (.int .i64 0), .imm (.int .i64 0), .imm (.int .i64 0), .imm (.int .i64 0), .imm (.int .i64 0), .imm (.int .i64 0), .imm (.bool false), .imm (.bool false), .imm (.int .i64 0), .imm (.int .i64 0), .imm (.int .i64 0), .imm (.int .i64 0), .imm (.int .i64 0), .imm (.int .i64 0), .imm (.int .i64 0), .imm (.int .i64 0), .imm (.int .i64 0), .imm (.int .i64 0), .imm (.int .i64 0), .imm (.int .i64 0), .imm (.int .i64 0), .imm (.int .i64 0), .imm (.int .i64 0), .imm (.int .i64 0), .imm (.int .i64 0), .imm (.int .i64 0), .imm (.int .i64 0), .imm (.int .i64 0), .imm (.int .i64 0), .imm (.int .i64 0), .imm (.int .i64 0), .imm (.int .i64 0), .imm (.int .i64 0), .imm (.int .i64 0), .imm (.int .i64 0), .imm (.int .i64 0), .imm (.int .i64 0), .imm (.int .i64 0), .imm (.int .i64 0), .imm (.int .i64 0), .imm (.int .i64 0), .imm (.int .i64 0), .imm (.int .i64 0), .imm (.int .i64 0), .imm (.int .i64 0), .imm (.int .i64 0), .imm (.int .i64 0), .imm (.int .i64 0), .imm (.int .i64 0), .imm (.int .i64 0), .imm (.int .i64 0), .imm (.int .i64 0), .imm (.int .i64 0), .imm (.int .i64 0), .imm (.int .i64 0), .imm (.int .i64 0), .imm (.int .i64 0), .imm (.int .i64 0), .imm (.int .i64 0), .imm (.int .i64 0), .imm (.bool false), .imm (.slice none 0 0)]) 0 β.lo := FillT.start rfl rfl (goLn hg V)
  refine loop_runW4 [] [] heff hhd hg fits (by kernel_rfl) (fun s : Int × List (List AC) => [(0, .t (.c (.view V))), (3, .t (.c (.own 0))), (4, .t (ai s.1))]) (fun s => [.rw ⟨106, 64, s.2⟩]) (fun s => FillT 64 V s.2 s.1 β.lo) (fun s => (lenI V).toNat - s.1.toNat)
    (0, g .rp (g .ln V) [.imm (.int .i64 0), .imm (.slice none 0 0), .imm (.int .i64 0), .imm (.int .i64 0), .imm (.int .i64 0), .imm (.int .i64 0), .imm (.int .i64 0), .imm (.int .i64 0), .imm (.bool false), .imm (.bool false), .imm (.int .i64 0), .imm (.int .i64 0), .imm (.int .i64 0), .imm (.int .i64 0), .imm (.int .i64 0), .imm (.int .i64 0), .imm (.int .i64 0), .imm (.int .i64 0), .imm (.int .i64 0), .imm (.int .i64 0), .imm (.int .i64 0), .imm (.int .i64 0), .imm (.int .i64 0), .imm (.int .i64 0), .imm (.int .i64 0), .imm (.int .i64 0), .imm (.int .i64 0), .imm (.int .i64 0), .imm (.int .i64 0), .imm (.int .i64 0), .imm (.int .i64 0), .imm (.int .i64 0), .imm (.int .i64 0), .imm (.int .i64 0), .imm (.int .i64 0), .imm (.int .i64 0), .imm (.int .i64 0), .imm (.int .i64 0), .imm (.int .i64 0), .imm (.int .i64 0), .imm (.int .i64 0), .imm (.int .i64 0), .imm (.int .i64 0), .imm (.int .i64 0), .imm (.int .i64 0), .imm (.int .i64 0), .imm (.int .i64 0), .imm (.int .i64 0), .imm (.int .i64 0), .imm (.int .i64 0), .imm (.int .i64 0), .imm (.int .i64 0), .imm (.int .i64 0), .imm (.int .i64 0), .imm (.int .i64 0), .imm (.int .i64 0), .imm (.int .i64 0), .imm (.int .i64 0), .imm (.int .i64 0), .imm (.int .i64 0), .imm (.int .i64 0), .imm (.int .i64 0), .imm (.bool false), .imm (.slice none 0 0)]) ?_ (Wk.weak (wkS [0] (by decide) ⟨⟨_, rfl, rfl, ?_⟩, trivial⟩ ⟨rfl, rfl, rfl, trivial⟩)) (fun s B hs' hB => ?_)
  · simp only [goRp hg]; exact hst
  · simp only [goRp hg]; exact bare_plainE hst.bare
  · obtain ⟨z, es⟩ := s
    simp only at hs'
    have h0 := hs'.z0
    have h1 := hs'.z1
    have hlen := hs'.len
    cbv
    cases hc : g .q .lss z (g .ln V)
    · cbv
      rw [goLss hg, goLn hg, decide_eq_false_iff_not] at hc
      have hall := hs'.all hc
      refine finTS hF fun bl hbl => ⟨[.c (.fv (hd1 (bl 0) es ++ fpE es) V)], .c (by have := ress_bareRow (bl := bl) (h := toH [.rw ⟨106, 64, es⟩]) (r := 0) (ab := ⟨106, 64, es⟩) rfl hs'.bare; rw [hall] at this; exact this) .nil, ⟨_, rfl, blk_row hbl (r := 0) (ab := ⟨_, _, es⟩) rfl hs'.new⟩, rfl, rfl⟩
    · cbv
      rw [goLss hg, goLn hg, decide_eq_true_eq] at hc
      obtain ⟨x, hx⟩ := at_z (xs := xs) h0 (lt_viaN hVx hc)
      have hsx := hs x (List.mem_of_getElem? hx)
      have hyy : V[z.toNat]? = some x.ac := by rw [hV]; exact vwA_at hx
      have cx := laws_toNode_t x hsx
      obtain ⟨a0, a1, ⟨a2, a3, a4, a5, a6, a7, a8, a9, a10, a11, a12, ⟨a13, a14⟩, ⟨a15, a16⟩, ⟨a17, a18⟩, ⟨a19, a20⟩, ⟨a21, a22⟩, ⟨a23, a24⟩, ⟨a25, a26⟩, a27, ⟨⟨a28, a29⟩, ⟨a30, a31⟩, ⟨a32, a33⟩, ⟨a34, a35⟩, ⟨a36, a37⟩, ⟨a38, a39⟩⟩, ⟨⟨a40, a41⟩, ⟨a42, a43⟩, ⟨a44, a45⟩, ⟨a46, a47⟩, ⟨a48, a49⟩, ⟨a50, a51⟩⟩, ⟨a52, a53, a54, a55⟩, ⟨a56, a57, a58, a59⟩, a60, a61⟩, a62, ⟨a63⟩⟩ := x
      replace hyy : V[z.toNat]? = some [.imm (.int .i64 a0), .view (vw intC a1), .imm (.int .i64 a2), .imm (.int .i64 a3), .imm (.int .i64 a4), .imm (.int .i64 a5), .imm (.int .i64 a6), .imm (.int .i64 a7), .imm (.bool a8), .imm (.bool a9), .imm (.int .i64 a10), .imm (.int .i64 a11), .imm (.int .i64 a12), .imm (.int .i64 a13), .imm (.int .i64 a14), .imm (.int .i64 a15), .imm (.int .i64 a16), .imm (.int .i64 a17), .imm (.int .i64 a18), .imm (.int .i64 a19), .imm (.int .i64 a20), .imm (.int .i64 a21), .imm (.int .i64 a22), .imm (.int .i64 a23), .imm (.int .i64 a24), .imm (.int .i64 a25), .imm (.int .i64 a26), .imm (.int .i64 a27), .imm (.int .i64 a28), .imm (.int .i64 a29), .imm (.int .i64 a30), .imm (.int .i64 a31), .imm (.int .i64 a32), .imm (.int .i64 a33), .imm (.int .i64 a34), .imm (.int .i64 a35), .imm (.int .i64 a36), .imm (.int .i64 a37), .imm (.int .i64 a38), .imm (.int .i64 a39), .imm (.int .i64 a40), .imm (.int .i64 a41), .imm (.int .i64 a42), .imm (.int .i64 a43), .imm (.int .i64 a44), .imm (.int .i64 a45), .imm (.int .i64 a46), .imm (.int .i64 a47), .imm (.int .i64 a48), .imm (.int .i64 a49), .imm (.int .i64 a50), .imm (.int .i64 a51), .imm (.int .i64 a52), .imm (.int .i64 a53), .imm (.int .i64 a54), .imm (.int .i64 a55), .imm (.int .i64 a56), .imm (.int .i64 a57), .imm (.int .i64 a58), .imm (.int .i64 a59), .imm (.int .i64 a60), .imm (.int .i64 a61), .imm (.bool a62), .view (vw GRule.c a63)] := hyy
      replace cx : TCon _ _ [.agg [.imm (.int .i64 a0), .view (vw intC a1), .imm (.int .i64 a2), .imm (.int .i64 a3), .imm (.int .i64 a4), .imm (.int .i64 a5), .imm (.int .i64 a6), .imm (.int .i64 a7), .imm (.bool a8), .imm (.bool a9), .imm (.int .i64 a10), .imm (.int .i64 a11), .imm (.int .i64 a12), .imm (.int .i64 a13), .imm (.int .i64 a14), .imm (.int .i64 a15), .imm (.int .i64 a16), .imm (.int .i64 a17), .imm (.int .i64 a18), .imm (.int .i64 a19), .imm (.int .i64 a20), .imm (.int .i64 a21), .imm (.int .i64 a22), .imm (.int .i64 a23), .imm (.int .i64 a24), .imm (.int .i64 a25), .imm (.int .i64 a26), .imm (.int .i64 a27), .imm (.int .i64 a28), .imm (.int .i64 a29), .imm (.int .i64 a30), .imm (.int .i64 a31), .imm (.int .i64 a32), .imm (.int .i64 a33), .imm (.int .i64 a34), .imm (.int .i64 a35), .imm (.int .i64 a36), .imm (.int .i64 a37), .imm (.int .i64 a38), .imm (.int .i64 a39), .imm (.int .i64 a40), .imm (.int .i64 a41), .imm (.int .i64 a42), .imm (.int .i64 a43), .imm (.int .i64 a44), .imm (.int .i64 a45), .imm (.int .i64 a46), .imm (.int .i64 a47), .imm (.int .i64 a48), .imm (.int .i64 a49), .imm (.int .i64 a50), .imm (.int .i64 a51), .imm (.int .i64 a52), .imm (.int .i64 a53), .imm (.int .i64 a54), .imm (.int .i64 a55), .imm (.int .i64 a56), .imm (.int .i64 a57), .imm (.int .i64 a58), .imm (.int .i64 a59), .imm (.int .i64 a60), .imm (.int .i64 a61), .imm (.bool a62), .view (vw GRule.c a63)]] (fun lo res rows => (∃ b1 b63, res = .t (.agg [.imm (.int .i64 a0), .fv b1 (vw intC a1), .imm (.int .i64 a2), .imm (.int .i64 a3), .imm (.int .i64 a4), .imm (.int .i64 a5), .imm (.int .i64 a6), .imm (.int .i64 a7), .imm (.bool a8), .imm (.bool a9), .imm (.int .i64 a10), .imm (.int .i64 a11), .imm (.int .i64 a12), .imm (.int .i64 a13), .imm (.int .i64 a14), .imm (.int .i64 a15), .imm (.int .i64 a16), .imm (.int .i64 a17), .imm (.int .i64 a18), .imm (.int .i64 a19), .imm (.int .i64 a20), .imm (.int .i64 a21), .imm (.int .i64 a22), .imm (.int .i64 a23), .imm (.int .i64 a24), .imm (.int .i64 a25), .imm (.int .i64 a26), .imm (.int .i64 a27), .imm (.int .i64 a28), .imm (.int .i64 a29), .imm (.int .i64 a30), .imm (.int .i64 a31), .imm (.int .i64 a32), .imm (.int .i64 a33), .imm (.int .i64 a34), .imm (.int .i64 a35), .imm (.int .i64 a36), .imm (.int .i64 a37), .imm (.int .i64 a38), .imm (.int .i64 a39), .imm (.int .i64 a40), .imm (.int .i64 a41), .imm (.int .i64 a42), .imm (.int .i64 a43), .imm (.int .i64 a44), .imm (.int .i64 a45), .imm (.int .i64 a46), .imm (.int .i64 a47), .imm (.int .i64 a48), .imm (.int .i64 a49), .imm (.int .i64 a50), .imm (.int .i64 a51), .imm (.int .i64 a52), .imm (.int .i64 a53), .imm (.int .i64 a54), .imm (.int .i64 a55), .imm (.int .i64 a56), .imm (.int .i64 a57), .imm (.int .i64 a58), .imm (.int .i64 a59), .imm (.int .i64 a60), .imm (.int .i64 a61), .imm (.bool a62), .fv b63 (vw GRule.c a63)]) ∧ NewB lo (b1 ++ b63)) ∧ plainV res = true ∧ rows = []) := cx
      obtain ⟨Va1, hVa1⟩ : ∃ V, V = vw intC a1 := ⟨_, rfl⟩
      obtain ⟨Va63, hVa63⟩ : ∃ V, V = vw GRule.c a63 := ⟨_, rfl⟩
      rw [← hVa1, ← hVa63] at hyy cx
      refine goX hg _ h0 hyy rfl ?_
      cbv
      refine callT0 hg cx (dwA_same rfl) (fun lo res q1 q2 q3 ⟨b1, b63, hres, hn⟩ => ?_)
      subst hres
      have hlt : ∀ b ∈ fpE es, b < lo := fun b hb => q2 b (List.mem_append_left _ hb)
      clear q2 q3
      cbv
      obtain ⟨j, hj⟩ : ∃ j, j = z.toNat := ⟨_, rfl⟩
      refine goYt hg h0 hj (lt_lenJ h0 (lt_eqI hlen hc) hj) ?_
      cbv
      refine goN hg (hs'.mem (lt_lenJ h0 (lt_eqI hlen hc) hj)) ?_
      cbv
      have h2 : g .w .add .i64 z 1 = z + 1 := by rw [goAdd hg, wrap_small _ (by omega)]
      rw [h2, goSt hg]
      have hs2 := hs'.step (y := [.imm (.int .i64 a0), .fv b1 Va1, .imm (.int .i64 a2), .imm (.int .i64 a3), .imm (.int .i64 a4), .imm (.int .i64 a5), .imm (.int .i64 a6), .imm (.int .i64 a7), .imm (.bool a8), .imm (.bool a9), .imm (.int .i64 a10), .imm (.int .i64 a11), .imm (.int .i64 a12), .imm (.int .i64 a13), .imm (.int .i64 a14), .imm (.int .i64 a15), .imm (.int .i64 a16), .imm (.int .i64 a17), .imm (.int .i64 a18), .imm (.int .i64 a19), .imm (.int .i64 a20), .imm (.int .i64 a21), .imm (.int .i64 a22), .imm (.int .i64 a23), .imm (.int .i64 a24), .imm (.int .i64 a25), .imm (.int .i64 a26), .imm (.int .i64 a27), .imm (.int .i64 a28), .imm (.int .i64 a29), .imm (.int .i64 a30), .imm (.int .i64 a31), .imm (.int .i64 a32), .imm (.int .i64 a33), .imm (.int .i64 a34), .imm (.int .i64 a35), .imm (.int .i64 a36), .imm (.int .i64 a37), .imm (.int .i64 a38), .imm (.int .i64 a39), .imm (.int .i64 a40), .imm (.int .i64 a41), .imm (.int .i64 a42), .imm (.int .i64 a43), .imm (.int .i64 a44), .imm (.int .i64 a45), .imm (.int .i64 a46), .imm (.int .i64 a47), .imm (.int .i64 a48), .imm (.int .i64 a49), .imm (.int .i64 a50), .imm (.int .i64 a51), .imm (.int .i64 a52), .imm (.int .i64 a53), .imm (.int .i64 a54), .imm (.int .i64 a55), .imm (.int .i64 a56), .imm (.int .i64 a57), .imm (.int .i64 a58), .imm (.int .i64 a59), .imm (.int .i64 a60), .imm (.int .i64 a61), .imm (.bool a62), .fv b63 Va63]) hc hj hyy rfl rfl rfl q1 (by simpa [fpL, fpC] using hn) hlt
      rw [hB]
      exact ⟨(z + 1, _), hs2, by show (lenI V).toNat - (z + 1).toNat < (lenI V).toNat - z.toNat; omega, Wk.weak (wkS [0] (by decide) ⟨⟨_, rfl, rfl, bare_plainE hs2.bare⟩, trivial⟩ ⟨rfl, rfl, rfl, trivial⟩)⟩
set_option maxHeartbeats 8000000 in
theorem laws_toTree_t (x : NTree) (hs : x.small) : TCon Tryz.prog 36 [.agg x.ac] fun lo res rows => (∃ b, res = .t (.agg [.fv b (vwA NNode.ac x.nodes)]) ∧ NewB lo b) ∧ plainV res = true ∧ rows = [] := by
  obtain ⟨a0⟩ := x
  obtain ⟨sa0, ua0, -⟩ := hs
  show TCon _ _ [.agg [.view (vwA NNode.ac a0)]] (fun lo res rows => (∃ b, res = .t (.agg [.fv b (vwA NNode.ac a0)]) ∧ NewB lo b) ∧ plainV res = true ∧ rows = [])
  have c0 := laws_toNodeS_t a0 sa0 ua0
  obtain ⟨Va0, hVa0⟩ : ∃ V, V = vwA NNode.ac a0 := ⟨_, rfl⟩
  rw [← hVa0] at c0
  rw [← hVa0]
  refine tcon_run ([]) ([]) (c := body Tryz.f36) fits Tryz.func36 (by kernel_rfl) (by kernel_rfl) (by rfl) (by kernel_rfl) fun β g eff hd F heff hhd hg hF => ?_
  cbv
  refine callT0 hg c0 (dwA_same rfl) (fun lo res h1 h2 h3 ⟨b, hres, hn⟩ => ?_)
  subst hres
  clear h2 h3
  cbv
  exact finT0 hF rfl ⟨⟨b, rfl, hn.mono h1⟩, rfl, rfl⟩
def upD (ns : List NNode) : Nat → Int → Prop
  | 0, n => isN ns n = false
  | k + 1, n => isN ns n = false ∨ upD ns k (upN ns n)
theorem upD_out {ns : List NNode} {n : Int} (h : isN ns n = false) : ∀ k, upD ns k n
  | 0 => h
  | _ + 1 => .inl h
theorem isN_zero (ns : List NNode) : isN ns 0 = false := by simp [isN, rng]
theorem upD_dep {ns : List NNode} : ∀ (f : Nat) (k n : Int), depF ns f k n ≠ 0 → upD ns f n
  | 0, k, n, h => by
    by_cases h0 : n = 0
    · subst h0; exact isN_zero ns
    · exact absurd (dep_end ns h0) h
  | f + 1, k, n, h => by
    by_cases h0 : n = 0
    · subst h0; exact .inl (isN_zero ns)
    · cases hi : isN ns n
      · exact .inl hi
      · rw [dep_step ns h0 hi] at h
        exact .inr (upD_dep f _ _ h)
theorem upD_all {ns : List NNode} (h : treeB ns = true) (n : Int) : upD ns ns.length n := by
  cases hi : isN ns n
  · exact upD_out hi _
  · obtain ⟨i1, i2, x, hx⟩ := isN_at hi
    simp only [treeB, Bool.and_eq_true] at h
    have h3 := (goT_iff ns ns 0).1 h.2 (n - 1).toNat x hx
    rw [show (0 : Int) + (((n - 1).toNat : Nat) : Int) + 1 = n by omega] at h3
    simp only [nodeOk, Bool.and_eq_true, rng, decide_eq_true_eq] at h3
    exact upD_dep _ 0 n (by show depN ns n ≠ 0; omega)
def undF (ns : List NNode) (a : Int) : Nat → Int → Bool
  | 0, _ => false
  | k + 1, n => isN ns n && (if upN ns n = a then isN ns a else undF ns a k (upN ns n))
theorem undF_no {ns : List NNode} {a : Int} (h : isN ns a = false) : ∀ (k : Nat) (n : Int), undF ns a k n = false
  | 0, n => rfl
  | k + 1, n => by unfold undF; rw [h, undF_no h k]; simp
theorem undF_out {ns : List NNode} {a n : Int} (h : isN ns n = false) (k : Nat) : undF ns a k n = false := by cases k <;> simp [undF, h]
theorem undF_hit {ns : List NNode} {a n u : Int} (h : isN ns n = true) (hu : upN ns n = u) (hs : u = a) (k : Nat) : undF ns a (k + 1) n = isN ns a := by rw [undF, h, hu, if_pos hs]; rfl
theorem undF_up {ns : List NNode} {a n u : Int} (h : isN ns n = true) (hu : upN ns n = u) (hs : u ≠ a) (k : Nat) : undF ns a (k + 1) n = undF ns a k u := by rw [undF, h, hu, if_neg hs]; rfl
theorem undF_stable {ns : List NNode} {a : Int} : ∀ (k : Nat) (n : Int), upD ns k n → undF ns a (k + 1) n = undF ns a k n
  | 0, n, h => undF_out h 1
  | k + 1, n, h => by
    rcases h with h | h
    · rw [undF_out h, undF_out h]
    · have := undF_stable (a := a) k _ h
      show (isN ns n && (if upN ns n = a then isN ns a else undF ns a (k + 1) (upN ns n))) = (isN ns n && (if upN ns n = a then isN ns a else undF ns a k (upN ns n)))
      rw [this]
set_option maxHeartbeats 8000000 in
theorem impl_IsUnder_a (ns : List NNode) (hl : ns.length ≤ 1048576) (n0 a : Int) : PCon Tryz.prog 111 [.agg [.view (vwA NNode.ac ns)], ai n0, ai a] fun res rows => res = .t (abl (undF ns a ns.length n0)) ∧ rows = [] := by
  obtain ⟨T, hT⟩ : ∃ T, T = vwA NNode.ac ns := ⟨_, rfl⟩
  have hTx : lenI T = (ns.length : Int) := by rw [lenI_eq, hT, vwA_length]
  have hisN : ∀ n, isN ns n = rng n 1 (lenI T) := fun n => by rw [hTx]; rfl
  have hT1 : lenI T ≤ 1048576 := by omega
  have hT0 : 0 ≤ lenI T := by omega
  have hfu : ∀ z : Int, 0 ≤ z → z < lenI T → ns.length - z.toNat = (ns.length - (z + 1).toNat) + 1 := fun d h0 h1 => dep_fuel hTx h0 h1
  have hfe : ∀ z : Int, ¬ z < lenI T → ns.length - z.toNat = 0 := fun z h => by omega
  obtain ⟨R, hR⟩ : ∃ R, R = undF ns a ns.length n0 := ⟨_, rfl⟩
  have hst : undF ns a (ns.length - (0 : Int).toNat) n0 = R := by rw [hR]; rfl
  rw [← hR, ← hT]
  have ca := impl_isNode_a T a
  rw [← hisN a] at ca
  refine pcon_run (c := body Tryz.f111) fits Tryz.func111 (by kernel_rfl) (by kernel_rfl) (by rfl) (by kernel_rfl) fun g F hg hF => ?_
  cbv
  cases hia : isN ns a
  case false =>
    rw [hia] at ca
    refine call0 hg ca rfl rfl ?_
    cbv
    exact fin0b hF (by rw [hR, undF_no hia])
  rw [hia] at ca
  refine call0 hg ca rfl rfl ?_
  cbv
  have cn := impl_isNode_a T n0
  rw [← hisN n0] at cn
  cases hin : isN ns n0
  case false =>
    rw [hin] at cn
    refine call0 hg cn rfl rfl ?_
    cbv
    exact fin0b hF (by rw [hR, undF_out hin])
  rw [hin] at cn
  refine call0 hg cn rfl rfl ?_
  cbv
  refine loop_run hg fits (by kernel_rfl) (fun s : Int × Int => [(1, .t (ai s.2)), (2, .t (ai a)), (3, .t (.c (.ptr 0 0 0))), (19, .t (ai (g .ln T))), (20, .t (ai s.1))]) (fun _ => [.bx 43 1 [.view T]]) (fun s => 0 ≤ s.1 ∧ isN ns s.2 = true ∧ undF ns a (ns.length - s.1.toNat) s.2 = R) (fun s => (lenI T).toNat - s.1.toNat)
    (0, n0) [some 0] ⟨Int.le_refl 0, hin, hst⟩ (wkS [0] (by decide) ⟨⟨_, rfl, rfl, rfl⟩, trivial⟩ ⟨rfl, rfl, rfl, rfl, rfl, trivial⟩) (fun s B hs hB => ?_)
  obtain ⟨z, n⟩ := s
  obtain ⟨h0, hi, hU⟩ := hs
  simp only at h0 hi hU
  cbv
  cases hc : g .q .lss z (g .ln T)
  · rw [goLss hg, goLn hg, decide_eq_false_iff_not] at hc
    cbv
    exact fin0b hF (by rw [← hU, hfe z hc]; rfl)
  rw [goLss hg, goLn hg, decide_eq_true_eq] at hc
  cbv
  obtain ⟨i1, i2, x, hx⟩ := isN_at hi
  have hi2 : n ≤ 1048576 := Int.le_trans (hTx ▸ i2) hT1
  have htt : T[(n - 1).toNat]? = some x.ac := by rw [hT]; exact vwA_at hx
  have hun := upN_at hx
  rw [hfu z h0 hc] at hU
  obtain ⟨b0, b1, ⟨b2, b3, b4, b5, b6, b7, b8, b9, b10, b11, b12, ⟨b13, b14⟩, ⟨b15, b16⟩, ⟨b17, b18⟩, ⟨b19, b20⟩, ⟨b21, b22⟩, ⟨b23, b24⟩, ⟨b25, b26⟩, b27, ⟨⟨b28, b29⟩, ⟨b30, b31⟩, ⟨b32, b33⟩, ⟨b34, b35⟩, ⟨b36, b37⟩, ⟨b38, b39⟩⟩, ⟨⟨b40, b41⟩, ⟨b42, b43⟩, ⟨b44, b45⟩, ⟨b46, b47⟩, ⟨b48, b49⟩, ⟨b50, b51⟩⟩, ⟨b52, b53, b54, b55⟩, ⟨b56, b57, b58, b59⟩, b60, b61⟩, b62, ⟨b63⟩⟩ := x
  replace htt : T[(n - 1).toNat]? = some [.imm (.int .i64 b0), .view (vw intC b1), .imm (.int .i64 b2), .imm (.int .i64 b3), .imm (.int .i64 b4), .imm (.int .i64 b5), .imm (.int .i64 b6), .imm (.int .i64 b7), .imm (.bool b8), .imm (.bool b9), .imm (.int .i64 b10), .imm (.int .i64 b11), .imm (.int .i64 b12), .imm (.int .i64 b13), .imm (.int .i64 b14), .imm (.int .i64 b15), .imm (.int .i64 b16), .imm (.int .i64 b17), .imm (.int .i64 b18), .imm (.int .i64 b19), .imm (.int .i64 b20), .imm (.int .i64 b21), .imm (.int .i64 b22), .imm (.int .i64 b23), .imm (.int .i64 b24), .imm (.int .i64 b25), .imm (.int .i64 b26), .imm (.int .i64 b27), .imm (.int .i64 b28), .imm (.int .i64 b29), .imm (.int .i64 b30), .imm (.int .i64 b31), .imm (.int .i64 b32), .imm (.int .i64 b33), .imm (.int .i64 b34), .imm (.int .i64 b35), .imm (.int .i64 b36), .imm (.int .i64 b37), .imm (.int .i64 b38), .imm (.int .i64 b39), .imm (.int .i64 b40), .imm (.int .i64 b41), .imm (.int .i64 b42), .imm (.int .i64 b43), .imm (.int .i64 b44), .imm (.int .i64 b45), .imm (.int .i64 b46), .imm (.int .i64 b47), .imm (.int .i64 b48), .imm (.int .i64 b49), .imm (.int .i64 b50), .imm (.int .i64 b51), .imm (.int .i64 b52), .imm (.int .i64 b53), .imm (.int .i64 b54), .imm (.int .i64 b55), .imm (.int .i64 b56), .imm (.int .i64 b57), .imm (.int .i64 b58), .imm (.int .i64 b59), .imm (.int .i64 b60), .imm (.int .i64 b61), .imm (.bool b62), .view (vw GRule.c b63)] := htt
  obtain ⟨Vb1, hVb1⟩ : ∃ V, V = vw intC b1 := ⟨_, rfl⟩
  obtain ⟨Vb63, hVb63⟩ : ∃ V, V = vw GRule.c b63 := ⟨_, rfl⟩
  rw [← hVb1, ← hVb63] at htt
  simp only at hun
  refine call0 hg (impl_node_a T n i1 hi2 htt) rfl rfl ?_
  cbv
  have cb := impl_isNode_a T b0
  rw [← hisN b0] at cb
  cases hib : isN ns b0
  case false =>
    rw [hib] at cb
    refine call0 hg cb rfl rfl ?_
    cbv
    refine fin0b hF ?_
    rw [← hU, undF_up hi hun (fun h => by rw [h, hia] at hib; cases hib), undF_out hib]
  rw [hib] at cb
  refine call0 hg cb rfl rfl ?_
  cbv
  cases he : g .q .eql b0 a
  case true =>
    rw [goEql hg, beq_iff_eq] at he
    cbv
    exact fin0b hF (by rw [← hU, undF_hit hi hun he, hia])
  rw [goEql hg, beq_eq_false_iff_ne] at he
  rw [undF_up hi hun he] at hU
  cbv
  have e1 : g .w .add .i64 z 1 = z + 1 := by rw [goAdd hg, wrap_small _ (by omega)]
  rw [e1]
  exact back hB (z + 1, b0) [some 0] (wkS [0] (by decide) ⟨⟨_, rfl, rfl, rfl⟩, trivial⟩ ⟨rfl, rfl, rfl, rfl, rfl, trivial⟩) ⟨by simp only; omega, hib, hU⟩ (by show (lenI T).toNat - (z + 1).toNat < (lenI T).toNat - z.toNat; omega)
set_option maxHeartbeats 8000000 in
theorem spec_IsUnder_a (ns : List NNode) (hl : ns.length ≤ 1048576) (n0 a : Int) (hud : upD ns ns.length n0) : PCon Tryz.prog 110 [.agg [.view (vwA NNode.ac ns)], ai n0, ai a] fun res rows => res = .t (abl (undF ns a ns.length n0)) ∧ rows = [] := by
  rw [← undF_stable ns.length n0 hud]
  clear hud
  obtain ⟨T, hT⟩ : ∃ T, T = vwA NNode.ac ns := ⟨_, rfl⟩
  have hTx : lenI T = (ns.length : Int) := by rw [lenI_eq, hT, vwA_length]
  have hisN : ∀ n, isN ns n = rng n 1 (lenI T) := fun n => by rw [hTx]; rfl
  have hT1 : lenI T ≤ 1048576 := by omega
  have hT0 : 0 ≤ lenI T := by omega
  have hfu : ∀ z : Int, 0 ≤ z → z ≤ lenI T → ns.length + 1 - z.toNat = (ns.length + 1 - (z + 1).toNat) + 1 := fun d h0 h1 => by omega
  have hfe : ∀ z : Int, ¬ z ≤ lenI T → ns.length + 1 - z.toNat = 0 := fun z h => by omega
  obtain ⟨R, hR⟩ : ∃ R, R = undF ns a (ns.length + 1) n0 := ⟨_, rfl⟩
  have hst : undF ns a (ns.length + 1 - (0 : Int).toNat) n0 = R := by rw [hR]; rfl
  rw [← hR, ← hT]
  have ca := spec_l10Is_a T a
  rw [← hisN a] at ca
  refine pcon_run (c := body Tryz.f110) fits Tryz.func110 (by kernel_rfl) (by kernel_rfl) (by rfl) (by kernel_rfl) fun g F hg hF => ?_
  cbv
  refine loop_run hg fits (by kernel_rfl) (fun s : Int × Int => [(1, .t (ai s.2)), (2, .t (ai a)), (3, .t (.c (.ptr 0 0 0))), (7, .t (ai s.1))]) (fun _ => [.bx 43 1 [.view T]]) (fun s => 0 ≤ s.1 ∧ undF ns a (ns.length + 1 - s.1.toNat) s.2 = R) (fun s => (lenI T + 1).toNat - s.1.toNat)
    (0, n0) [some 0] ⟨Int.le_refl 0, hst⟩ (wkS [0] (by decide) ⟨⟨_, rfl, rfl, rfl⟩, trivial⟩ ⟨rfl, rfl, rfl, rfl, trivial⟩) (fun s B hs hB => ?_)
  obtain ⟨z, n⟩ := s
  obtain ⟨h0, hU⟩ := hs
  simp only at h0 hU
  cbv
  cases hc : g .q .leq z (g .ln T)
  · rw [goLeq hg, goLn hg, decide_eq_false_iff_not] at hc
    cbv
    exact fin0b hF (by rw [← hU, hfe z hc]; rfl)
  rw [goLeq hg, goLn hg, decide_eq_true_eq] at hc
  cbv
  have cn := spec_l10Is_a T n
  rw [← hisN n] at cn
  cases hi : isN ns n
  case false =>
    rw [hi] at cn
    refine call0 hg cn rfl rfl ?_
    cbv
    exact fin0b hF (by rw [← hU, undF_out hi])
  rw [hi] at cn
  refine call0 hg cn rfl rfl ?_
  cbv
  obtain ⟨i1, i2, x, hx⟩ := isN_at hi
  have hi2 : n ≤ 1048576 := Int.le_trans (hTx ▸ i2) hT1
  have htt : T[(n - 1).toNat]? = some x.ac := by rw [hT]; exact vwA_at hx
  have hun := upN_at hx
  rw [hfu z h0 hc] at hU
  obtain ⟨b0, b1, ⟨b2, b3, b4, b5, b6, b7, b8, b9, b10, b11, b12, ⟨b13, b14⟩, ⟨b15, b16⟩, ⟨b17, b18⟩, ⟨b19, b20⟩, ⟨b21, b22⟩, ⟨b23, b24⟩, ⟨b25, b26⟩, b27, ⟨⟨b28, b29⟩, ⟨b30, b31⟩, ⟨b32, b33⟩, ⟨b34, b35⟩, ⟨b36, b37⟩, ⟨b38, b39⟩⟩, ⟨⟨b40, b41⟩, ⟨b42, b43⟩, ⟨b44, b45⟩, ⟨b46, b47⟩, ⟨b48, b49⟩, ⟨b50, b51⟩⟩, ⟨b52, b53, b54, b55⟩, ⟨b56, b57, b58, b59⟩, b60, b61⟩, b62, ⟨b63⟩⟩ := x
  replace htt : T[(n - 1).toNat]? = some [.imm (.int .i64 b0), .view (vw intC b1), .imm (.int .i64 b2), .imm (.int .i64 b3), .imm (.int .i64 b4), .imm (.int .i64 b5), .imm (.int .i64 b6), .imm (.int .i64 b7), .imm (.bool b8), .imm (.bool b9), .imm (.int .i64 b10), .imm (.int .i64 b11), .imm (.int .i64 b12), .imm (.int .i64 b13), .imm (.int .i64 b14), .imm (.int .i64 b15), .imm (.int .i64 b16), .imm (.int .i64 b17), .imm (.int .i64 b18), .imm (.int .i64 b19), .imm (.int .i64 b20), .imm (.int .i64 b21), .imm (.int .i64 b22), .imm (.int .i64 b23), .imm (.int .i64 b24), .imm (.int .i64 b25), .imm (.int .i64 b26), .imm (.int .i64 b27), .imm (.int .i64 b28), .imm (.int .i64 b29), .imm (.int .i64 b30), .imm (.int .i64 b31), .imm (.int .i64 b32), .imm (.int .i64 b33), .imm (.int .i64 b34), .imm (.int .i64 b35), .imm (.int .i64 b36), .imm (.int .i64 b37), .imm (.int .i64 b38), .imm (.int .i64 b39), .imm (.int .i64 b40), .imm (.int .i64 b41), .imm (.int .i64 b42), .imm (.int .i64 b43), .imm (.int .i64 b44), .imm (.int .i64 b45), .imm (.int .i64 b46), .imm (.int .i64 b47), .imm (.int .i64 b48), .imm (.int .i64 b49), .imm (.int .i64 b50), .imm (.int .i64 b51), .imm (.int .i64 b52), .imm (.int .i64 b53), .imm (.int .i64 b54), .imm (.int .i64 b55), .imm (.int .i64 b56), .imm (.int .i64 b57), .imm (.int .i64 b58), .imm (.int .i64 b59), .imm (.int .i64 b60), .imm (.int .i64 b61), .imm (.bool b62), .view (vw GRule.c b63)] := htt
  obtain ⟨Vb1, hVb1⟩ : ∃ V, V = vw intC b1 := ⟨_, rfl⟩
  obtain ⟨Vb63, hVb63⟩ : ∃ V, V = vw GRule.c b63 := ⟨_, rfl⟩
  rw [← hVb1, ← hVb63] at htt
  simp only at hun
  refine call0 hg (spec_l10Node_a T n i1 hi2 htt) rfl rfl ?_
  cbv
  cases he : g .q .eql b0 a
  case true =>
    rw [goEql hg, beq_iff_eq] at he
    cbv
    refine callB hg ca rfl (fun R1 hR1 => ?_)
    cbv
    exact fin0b hF (by rw [← hU, undF_hit hi hun he, hR1])
  rw [goEql hg, beq_eq_false_iff_ne] at he
  rw [undF_up hi hun he] at hU
  cbv
  have e1 : g .w .add .i64 z 1 = z + 1 := by rw [goAdd hg, wrap_small _ (by omega)]
  rw [e1]
  exact back hB (z + 1, b0) [some 0] (wkS [0] (by decide) ⟨⟨_, rfl, rfl, rfl⟩, trivial⟩ ⟨rfl, rfl, rfl, rfl, trivial⟩) ⟨by simp only; omega, hU⟩ (by show (lenI T + 1).toNat - (z + 1).toNat < (lenI T + 1).toNat - z.toNat; omega)
structure CopyE (k : Nat) (E V : List (List AC)) (lo : Nat) : Prop where
  kk : ∀ e ∈ E, e.length = k
  bare : ∀ e ∈ E, e.all bareF = true
  eq : E.map (·.map vwC) = V
  new : NewB lo (fpE E)
theorem fpE_app (a b : List (List AC)) : fpE (a ++ b) = fpE a ++ fpE b := List.flatMap_append ..
theorem CopyE.nil (k lo : Nat) : CopyE k [] [] lo := ⟨fun e h => by simp at h, fun e h => by simp at h, rfl, NewB.nil lo⟩
theorem CopyE.len {k lo : Nat} {E V : List (List AC)} (h : CopyE k E V lo) : E.length = V.length := by rw [← h.eq, List.length_map]
structure GrowT (k : Nat) (V es : List (List AC)) (z : Int) (lo : Nat) : Prop where
  z0 : 0 ≤ z
  z1 : z ≤ lenI V
  cp : CopyE k es (V.take z.toNat) lo
theorem GrowT.start (k : Nat) (V : List (List AC)) (lo : Nat) : GrowT k V [] 0 lo := ⟨Int.le_refl 0, by rw [lenI_eq]; omega, CopyE.nil k lo⟩
theorem GrowT.len {k : Nat} {V es : List (List AC)} {z : Int} {lo : Nat} (h : GrowT k V es z lo) : es.length ≤ V.length := by rw [h.cp.len, List.length_take]; omega
theorem GrowT.step {k : Nat} {V es : List (List AC)} {z : Int} {lo lo' : Nat} {y v : List AC} (h : GrowT k V es z lo) (hv : V[z.toNat]? = some v) (hy : y.map vwC = v) (hk : y.length = k) (hb : y.all bareF = true) (hlo : lo ≤ lo') (hn : NewB lo' (fpL y)) (hlt : ∀ b ∈ fpE es, b < lo') : GrowT k V (es ++ [y]) (z + 1) lo := by
  have h0 := h.z0
  have hl := (List.getElem?_eq_some_iff.1 hv).1
  refine ⟨by omega, by rw [lenI_eq]; omega, ⟨fun e he => ?_, fun e he => ?_, ?_, ?_⟩⟩
  · rcases List.mem_append.1 he with h1 | h1
    · exact h.cp.kk e h1
    · rw [List.mem_singleton.1 h1]; exact hk
  · rcases List.mem_append.1 he with h1 | h1
    · exact h.cp.bare e h1
    · rw [List.mem_singleton.1 h1]; exact hb
  · rw [show (z + 1).toNat = z.toNat + 1 by omega, List.take_add_one, hv, List.map_append, h.cp.eq, ← hy]; rfl
  · rw [fpE_app, show fpE [y] = fpL y from List.append_nil _]
    exact NewB.app hlo h.cp.new hn hlt
theorem GrowT.done {k : Nat} {V es : List (List AC)} {z : Int} {lo : Nat} (h : GrowT k V es z lo) (hz : ¬ z < lenI V) : CopyE k es V lo := by
  have := h.cp
  rwa [List.take_of_length_le (by rw [lenI_eq] at hz; omega)] at this
theorem fpH_row {ab : AB} : ∀ (h : EH) (r : Nat), h[r]? = some (.rw ab) → ∀ b ∈ fpE ab.es, b ∈ fpH h
  | [], r, hr, b, hb => by simp at hr
  | e :: h, 0, hr, b, hb => by simp at hr; subst hr; exact List.mem_append_left _ hb
  | e :: h, r + 1, hr, b, hb => by have := fpH_row h r (by simpa using hr) b hb; cases e <;> first | exact List.mem_append_right _ this | exact this
theorem goNAt {P : Program} {n0 N : Nat} {β : BP} {g : Gd} (hg : g = G0 P n0 N) {t k by_ : Nat} {es : List (List AC)} {y : List AC} {q : Prop} (hk : y.length = k) (hb : by_ ≤ 65536) (hl : es.length ≤ 1048576) (hq : q) :
    g .N ((∀ x, x ∈ [y] → x.length = k) ∧ ((AB.mk t k es).es.length + [y].length) * by_ ≤ 140737488355328 ∧ (AB.mk t k es).es.length + [y].length ≤ 4611686018427387904) q :=
  goN hg ⟨fun x hx => by rw [List.mem_singleton.1 hx]; exact hk, Nat.le_trans (Nat.mul_le_mul (show es.length + 1 ≤ 1048577 by omega) hb) (by decide), by show es.length + 1 ≤ _; omega⟩ hq
theorem finTR {β : BP} {F : List AT → EH → Prop} {Post : AV → List AB → Prop} {r q : Nat} {eh : EH} {ab ab' : AB} (hF : F = fun xs eh => FinT Post xs (toH eh)) (hr : nth eh r = some (.rw ab)) (hq : nth eh q = some (.rw ab')) (hne : r ≠ q) (hp : plainE ab.es = true) (hp' : plainE ab'.es = true)
    (hpost : Post (.t (.agg [.own 0, .own 1])) [ab, ab']) : F [.agg [.own r, .own q]] eh := by
  subst hF
  refine .inl ⟨.t (.agg [.own 0, .own 1]), [.live ab, .live ab'], [some r, some q], ⟨Nat.zero_le _, fun i hi => absurd hi (Nat.not_lt_zero _), by simp [hne], ?_, ?_⟩, [ab, ab'], rfl, hpost⟩
  · simp only [rnH, List.getElem?_cons_zero, List.getElem?_cons_succ, nth_rw hr, nth_rw hq]
    exact ⟨fun h => absurd h (Nat.not_lt_zero _), ⟨by first | trivial | rfl, by first | trivial | rfl, .inl ⟨by first | trivial | rfl, hp⟩⟩, fun h => absurd h (Nat.not_lt_zero _), ⟨by first | trivial | rfl, by first | trivial | rfl, .inl ⟨by first | trivial | rfl, hp'⟩⟩, trivial⟩
  · exact ⟨.inr ⟨rfl, rfl, trivial⟩, trivial⟩
set_option maxHeartbeats 8000000 in
theorem impl_copyBox_t (x : NBox) (hs : x.small) : TCon Tryz.prog 122 [.agg x.ac] fun lo res rows => (∃ b3, res = .t (.agg [.imm (.int .i64 x.wide), .imm (.int .i64 x.high), .imm (.int .i64 x.base), .fv b3 (vw GFrame.c x.frames)]) ∧ NewB lo b3) ∧ plainV res = true ∧ rows = [] := by
  obtain ⟨a0, a1, a2, a3⟩ := x
  obtain ⟨sa3, -⟩ := hs
  show TCon _ _ [.agg [.imm (.int .i64 a0), .imm (.int .i64 a1), .imm (.int .i64 a2), .view (vw GFrame.c a3)]] (fun lo res rows => (∃ b3, res = .t (.agg [.imm (.int .i64 a0), .imm (.int .i64 a1), .imm (.int .i64 a2), .fv b3 (vw GFrame.c a3)]) ∧ NewB lo b3) ∧ plainV res = true ∧ rows = [])
  have c3 := impl_copyFrames_a a3 sa3
  obtain ⟨Va3, hVa3⟩ : ∃ Va3, Va3 = vw GFrame.c a3 := ⟨_, rfl⟩
  have hVa3l : Va3.length = a3.length := by rw [hVa3, vw_length]
  have iVa3 : immE Va3 = true := by rw [hVa3]; exact vw_imm _ _
  have kVa3 : ∀ y ∈ Va3, y.length = 5 := by rw [hVa3]; exact vw_k (c := GFrame.c) (k := 5) fun _ => rfl
  have dVa3 : ∀ y ∈ Va3, y.all dat = true := by rw [hVa3]; exact vw_dat
  rw [← hVa3] at c3
  rw [← hVa3]
  refine tcon_run ([]) ([]) (c := body Tryz.f122) fits Tryz.func122 (by kernel_rfl) (by kernel_rfl) (by rfl) (by kernel_rfl) fun β g eff hd F heff hhd hg hF => ?_
  cbv
  repeat' (first | (refine callRow hg c3 (dat_data rfl) iVa3 ?_; cbv) | (refine callRowP hg c3 (dat_data rfl) iVa3 ?_; cbv))
  refine finTS hF fun bl hbl => ⟨[.agg [.imm (.int .i64 a0), .imm (.int .i64 a1), .imm (.int .i64 a2), .fv (hd1 (bl 2) Va3) Va3]], .agg (.cons (.imm _) (.cons (.imm _) (.cons (.imm _) (.cons (ress_immRow (r := 2) (ab := ⟨_, _, Va3⟩) rfl iVa3) .nil)))) .nil, ⟨_, rfl, blk_new hbl (r := 2) (ab := ⟨_, _, Va3⟩) rfl⟩, rfl, rfl⟩
set_option maxHeartbeats 8000000 in
theorem spec_l21CopyBox_t (x : NBox) (hs : x.small) : TCon Tryz.prog 115 [.agg x.ac] fun lo res rows => (∃ b3, res = .t (.agg [.imm (.int .i64 x.wide), .imm (.int .i64 x.high), .imm (.int .i64 x.base), .fv b3 (vw GFrame.c x.frames)]) ∧ NewB lo b3) ∧ plainV res = true ∧ rows = [] := by
  obtain ⟨a0, a1, a2, a3⟩ := x
  obtain ⟨sa3, -⟩ := hs
  show TCon _ _ [.agg [.imm (.int .i64 a0), .imm (.int .i64 a1), .imm (.int .i64 a2), .view (vw GFrame.c a3)]] (fun lo res rows => (∃ b3, res = .t (.agg [.imm (.int .i64 a0), .imm (.int .i64 a1), .imm (.int .i64 a2), .fv b3 (vw GFrame.c a3)]) ∧ NewB lo b3) ∧ plainV res = true ∧ rows = [])
  obtain ⟨Va3, hVa3⟩ : ∃ Va3, Va3 = vw GFrame.c a3 := ⟨_, rfl⟩
  have hVa3l : Va3.length = a3.length := by rw [hVa3, vw_length]
  have iVa3 : immE Va3 = true := by rw [hVa3]; exact vw_imm _ _
  have kVa3 : ∀ y ∈ Va3, y.length = 5 := by rw [hVa3]; exact vw_k (c := GFrame.c) (k := 5) fun _ => rfl
  have dVa3 : ∀ y ∈ Va3, y.all dat = true := by rw [hVa3]; exact vw_dat
  rw [← hVa3]
  refine tcon_run ([]) ([]) (c := body Tryz.f115) fits Tryz.func115 (by kernel_rfl) (by kernel_rfl) (by rfl) (by kernel_rfl) fun β g eff hd F heff hhd hg hF => ?_
  cbv
  refine goNV0 hg kVa3 (by decide) (by rw [hVa3l]; exact sa3) ?_
  cbv
  rw [goAp hg, List.nil_append]
  refine finTS hF fun bl hbl => ⟨[.agg [.imm (.int .i64 a0), .imm (.int .i64 a1), .imm (.int .i64 a2), .fv (hd1 (bl 3) Va3) Va3]], .agg (.cons (.imm _) (.cons (.imm _) (.cons (.imm _) (.cons (ress_immRow (r := 3) (ab := ⟨_, _, Va3⟩) rfl iVa3) .nil)))) .nil, ⟨_, rfl, blk_new hbl (r := 3) (ab := ⟨_, _, Va3⟩) rfl⟩, rfl, rfl⟩
set_option maxHeartbeats 8000000 in
theorem impl_copyKept_t (x : NKept) (hs : x.small) : TCon Tryz.prog 84 [.agg x.ac] fun lo res rows => ∃ E, res = .t (.agg [.own 0, .own 1]) ∧ rows = [⟨166, 10, E⟩, ⟨174, 6, vw GAsked.c x.asked⟩] ∧ CopyE 10 E (vwA NMemo.ac x.memos) lo := by
  obtain ⟨ms, qs⟩ := x
  obtain ⟨sm, um, sq, -⟩ := hs
  show TCon _ _ [.agg [.view (vwA NMemo.ac ms), .view (vw GAsked.c qs)]] (fun lo res rows => ∃ E, res = .t (.agg [.own 0, .own 1]) ∧ rows = [⟨166, 10, E⟩, ⟨174, 6, vw GAsked.c qs⟩] ∧ CopyE 10 E (vwA NMemo.ac ms) lo)
  obtain ⟨M, hM⟩ : ∃ M, M = vwA NMemo.ac ms := ⟨_, rfl⟩
  have hMl : M.length = ms.length := by rw [hM, vwA_length]
  have hMx : lenI M = (ms.length : Int) := by rw [lenI_eq, hMl]
  have hM2 : lenI M ≤ 1048576 := by omega
  obtain ⟨Q, hQ⟩ : ∃ Q, Q = vw GAsked.c qs := ⟨_, rfl⟩
  have hQl : Q.length = qs.length := by rw [hQ, vw_length]
  have iQ : immE Q = true := by rw [hQ]; exact vw_imm _ _
  have kQ : ∀ y ∈ Q, y.length = 6 := by rw [hQ]; exact vw_k (c := GAsked.c) (k := 6) fun _ => rfl
  have dQ : ∀ y ∈ Q, y.all dat = true := by rw [hQ]; exact vw_dat
  have pQ := imm_plainE iQ
  rw [← hM, ← hQ]
  refine tcon_run ([]) ([]) (c := body Tryz.f84) fits Tryz.func84 (by kernel_rfl) (by kernel_rfl) (by rfl) (by kernel_rfl) fun β g eff hd F heff hhd hg hF => ?_
  cbv
  refine goNV hg kQ (by decide) (by rw [hQl]; exact sq) ?_
  cbv
  rw [goAp hg, List.nil_append]
  refine loop_runW4 [] [] heff hhd hg fits (by kernel_rfl) (fun s : Int × List (List AC) => [(2, .t (.c (.ptr 0 0 0))), (3, .t (.c (.ptr 2 0 0))), (11, .t (.c (.view M))), (12, .t (ai (g .ln M))), (13, .t (ai (s.1)))]) (fun s => [.bx 47 2 [.imm (.slice none 0 0), .imm (.slice none 0 0)], .rw ⟨174, 6, Q⟩, .bx 47 2 [.own 3, .own 1], .rw ⟨166, 10, s.2⟩]) (fun s => GrowT 10 M s.2 s.1 β.lo) (fun s => (lenI M).toNat - s.1.toNat)
    (0, []) (GrowT.start 10 M β.lo) (Wk.weak (wkG [some 1, some 2, some 3, none] ⟨rfl, rfl, rfl, rfl, rfl, trivial⟩ ⟨⟨_, _, rfl, rfl, rfl, rfl, .inl ⟨rfl, rfl⟩⟩, ⟨_, _, rfl, rfl, rfl, rfl, .inl ⟨rfl, pQ⟩⟩, ⟨_, _, rfl, rfl, rfl, rfl, .inr ⟨⟨rfl, rfl, trivial⟩, trivial⟩⟩, ⟨_, rfl, rfl⟩, trivial⟩ (by decide) no_lt)) (fun s B hs hB => ?_)
  obtain ⟨z, es⟩ := s
  simp only at hs
  have h0 := hs.z0
  have hlen := hs.len
  cbv
  cases hc : g .q .lss z (g .ln M)
  · rw [goLss hg, goLn hg, decide_eq_false_iff_not] at hc
    cbv
    have hd := hs.done hc
    exact finTR hF rfl rfl (by decide) (bare_plainE hd.bare) pQ ⟨es, rfl, rfl, hd⟩
  rw [goLss hg, goLn hg, decide_eq_true_eq] at hc
  cbv
  obtain ⟨x, hx⟩ := at_z (xs := ms) h0 (lt_viaN hMx hc)
  have hsx := um x (List.mem_of_getElem? hx)
  have hyy : M[z.toNat]? = some x.ac := by rw [hM]; exact vwA_at hx
  obtain ⟨a0, ⟨a1, a2⟩, ⟨a3, a4⟩, a5, ⟨a6, a7, a8, a9⟩⟩ := x
  have cx := impl_copyBox_t ⟨a6, a7, a8, a9⟩ ⟨hsx.1, trivial⟩
  replace hyy : M[z.toNat]? = some [.imm (.int .i64 a0), .imm (.int .i64 a1), .imm (.int .i64 a2), .imm (.int .i64 a3), .imm (.int .i64 a4), .imm (.bool a5), .imm (.int .i64 a6), .imm (.int .i64 a7), .imm (.int .i64 a8), .view (vw GFrame.c a9)] := hyy
  replace cx : TCon Tryz.prog 122 [.agg [.imm (.int .i64 a6), .imm (.int .i64 a7), .imm (.int .i64 a8), .view (vw GFrame.c a9)]] (fun lo res rows => (∃ b3, res = .t (.agg [.imm (.int .i64 a6), .imm (.int .i64 a7), .imm (.int .i64 a8), .fv b3 (vw GFrame.c a9)]) ∧ NewB lo b3) ∧ plainV res = true ∧ rows = []) := cx
  obtain ⟨Va9, hVa9⟩ : ∃ V, V = vw GFrame.c a9 := ⟨_, rfl⟩
  rw [← hVa9] at hyy cx
  refine goX hg _ h0 hyy rfl ?_
  cbv
  refine callT0 hg cx (dwA_same rfl) (fun lo res q1 q2 q3 ⟨b9, hres, hn⟩ => ?_)
  subst hres
  have hlt : ∀ b ∈ fpE es, b < lo := fun b hb => q2 b (fpH_row _ 3 rfl b hb)
  clear q2 q3
  cbv
  refine goNAt hg rfl (by decide) (by omega) ?_
  cbv
  have e1 : g .w .add .i64 z 1 = z + 1 := by rw [goAdd hg, wrap_small _ (by omega)]
  rw [e1, goAp hg]
  have hs2 := hs.step (y := [.imm (.int .i64 a0), .imm (.int .i64 a1), .imm (.int .i64 a2), .imm (.int .i64 a3), .imm (.int .i64 a4), .imm (.bool a5), .imm (.int .i64 a6), .imm (.int .i64 a7), .imm (.int .i64 a8), .fv b9 Va9]) hyy rfl rfl rfl q1 (by simpa [fpL, fpC] using hn) hlt
  rw [hB]
  exact ⟨(z + 1, _), hs2, by show (lenI M).toNat - (z + 1).toNat < (lenI M).toNat - z.toNat; omega, Wk.weak (wkG [some 0, some 1, some 2, some 6] ⟨rfl, rfl, rfl, rfl, rfl, trivial⟩ ⟨⟨_, _, rfl, rfl, rfl, rfl, .inl ⟨rfl, rfl⟩⟩, ⟨_, _, rfl, rfl, rfl, rfl, .inl ⟨rfl, pQ⟩⟩, ⟨_, _, rfl, rfl, rfl, rfl, .inr ⟨⟨rfl, rfl, trivial⟩, trivial⟩⟩, ⟨_, _, rfl, rfl, rfl, rfl, .inl ⟨rfl, bare_plainE hs2.cp.bare⟩⟩, trivial⟩ (by decide) no_lt)⟩
set_option maxHeartbeats 8000000 in
theorem spec_l21Copy_t (x : NKept) (hs : x.small) : TCon Tryz.prog 78 [.agg x.ac] fun lo res rows => ∃ E, res = .t (.agg [.own 0, .own 1]) ∧ rows = [⟨166, 10, E⟩, ⟨174, 6, vw GAsked.c x.asked⟩] ∧ CopyE 10 E (vwA NMemo.ac x.memos) lo := by
  obtain ⟨ms, qs⟩ := x
  obtain ⟨sm, um, sq, -⟩ := hs
  show TCon _ _ [.agg [.view (vwA NMemo.ac ms), .view (vw GAsked.c qs)]] (fun lo res rows => ∃ E, res = .t (.agg [.own 0, .own 1]) ∧ rows = [⟨166, 10, E⟩, ⟨174, 6, vw GAsked.c qs⟩] ∧ CopyE 10 E (vwA NMemo.ac ms) lo)
  obtain ⟨M, hM⟩ : ∃ M, M = vwA NMemo.ac ms := ⟨_, rfl⟩
  have hMl : M.length = ms.length := by rw [hM, vwA_length]
  have hMx : lenI M = (ms.length : Int) := by rw [lenI_eq, hMl]
  have hM2 : lenI M ≤ 1048576 := by omega
  obtain ⟨Q, hQ⟩ : ∃ Q, Q = vw GAsked.c qs := ⟨_, rfl⟩
  have hQl : Q.length = qs.length := by rw [hQ, vw_length]
  have iQ : immE Q = true := by rw [hQ]; exact vw_imm _ _
  have kQ : ∀ y ∈ Q, y.length = 6 := by rw [hQ]; exact vw_k (c := GAsked.c) (k := 6) fun _ => rfl
  have dQ : ∀ y ∈ Q, y.all dat = true := by rw [hQ]; exact vw_dat
  have pQ := imm_plainE iQ
  rw [← hM, ← hQ]
  refine tcon_run ([]) ([]) (c := body Tryz.f78) fits Tryz.func78 (by kernel_rfl) (by kernel_rfl) (by rfl) (by kernel_rfl) fun β g eff hd F heff hhd hg hF => ?_
  cbv
  refine goNV0 hg kQ (by decide) (by rw [hQl]; exact sq) ?_
  cbv
  rw [goAp hg, List.nil_append]
  refine loop_runW4 [] [] heff hhd hg fits (by kernel_rfl) (fun s : Int × List (List AC) => [(1, .t (.c (.ptr 4 0 0))), (2, .t (.c (.ptr 0 0 0))), (3, .t (.c (.ptr 2 0 0))), (4, .t (ai (s.1)))]) (fun s => [.bx 47 2 [.imm (.slice none 0 0), .imm (.slice none 0 0)], .rw ⟨174, 6, Q⟩, .bx 47 2 [.own 3, .own 1], .rw ⟨166, 10, s.2⟩, .bx 47 2 [.view M, .view Q]]) (fun s => GrowT 10 M s.2 s.1 β.lo) (fun s => (lenI M).toNat - s.1.toNat)
    (0, []) (GrowT.start 10 M β.lo) (Wk.weak (wkG [some 1, some 3, some 4, none, some 0] ⟨rfl, rfl, rfl, rfl, trivial⟩ ⟨⟨_, _, rfl, rfl, rfl, rfl, .inl ⟨rfl, rfl⟩⟩, ⟨_, _, rfl, rfl, rfl, rfl, .inl ⟨rfl, pQ⟩⟩, ⟨_, _, rfl, rfl, rfl, rfl, .inr ⟨⟨rfl, rfl, trivial⟩, trivial⟩⟩, ⟨_, rfl, rfl⟩, ⟨_, _, rfl, rfl, rfl, rfl, .inl ⟨rfl, rfl⟩⟩, trivial⟩ (by decide) no_lt)) (fun s B hs hB => ?_)
  obtain ⟨z, es⟩ := s
  simp only at hs
  have h0 := hs.z0
  have hlen := hs.len
  cbv
  cases hc : g .q .lss z (g .ln M)
  · rw [goLss hg, goLn hg, decide_eq_false_iff_not] at hc
    cbv
    have hd := hs.done hc
    exact finTR hF rfl rfl (by decide) (bare_plainE hd.bare) pQ ⟨es, rfl, rfl, hd⟩
  rw [goLss hg, goLn hg, decide_eq_true_eq] at hc
  cbv
  obtain ⟨x, hx⟩ := at_z (xs := ms) h0 (lt_viaN hMx hc)
  have hsx := um x (List.mem_of_getElem? hx)
  have hyy : M[z.toNat]? = some x.ac := by rw [hM]; exact vwA_at hx
  obtain ⟨a0, ⟨a1, a2⟩, ⟨a3, a4⟩, a5, ⟨a6, a7, a8, a9⟩⟩ := x
  have cx := spec_l21CopyBox_t ⟨a6, a7, a8, a9⟩ ⟨hsx.1, trivial⟩
  replace hyy : M[z.toNat]? = some [.imm (.int .i64 a0), .imm (.int .i64 a1), .imm (.int .i64 a2), .imm (.int .i64 a3), .imm (.int .i64 a4), .imm (.bool a5), .imm (.int .i64 a6), .imm (.int .i64 a7), .imm (.int .i64 a8), .view (vw GFrame.c a9)] := hyy
  replace cx : TCon Tryz.prog 115 [.agg [.imm (.int .i64 a6), .imm (.int .i64 a7), .imm (.int .i64 a8), .view (vw GFrame.c a9)]] (fun lo res rows => (∃ b3, res = .t (.agg [.imm (.int .i64 a6), .imm (.int .i64 a7), .imm (.int .i64 a8), .fv b3 (vw GFrame.c a9)]) ∧ NewB lo b3) ∧ plainV res = true ∧ rows = []) := cx
  obtain ⟨Va9, hVa9⟩ : ∃ V, V = vw GFrame.c a9 := ⟨_, rfl⟩
  rw [← hVa9] at hyy cx
  refine goX hg _ h0 hyy rfl ?_
  cbv
  refine callT0 hg cx (dwA_same rfl) (fun lo res q1 q2 q3 ⟨b9, hres, hn⟩ => ?_)
  subst hres
  have hlt : ∀ b ∈ fpE es, b < lo := fun b hb => q2 b (fpH_row _ 3 rfl b hb)
  clear q2 q3
  cbv
  refine goNAt hg rfl (by decide) (by omega) ?_
  cbv
  have e1 : g .w .add .i64 z 1 = z + 1 := by rw [goAdd hg, wrap_small _ (by omega)]
  rw [e1, goAp hg]
  have hs2 := hs.step (y := [.imm (.int .i64 a0), .imm (.int .i64 a1), .imm (.int .i64 a2), .imm (.int .i64 a3), .imm (.int .i64 a4), .imm (.bool a5), .imm (.int .i64 a6), .imm (.int .i64 a7), .imm (.int .i64 a8), .fv b9 Va9]) hyy rfl rfl rfl q1 (by simpa [fpL, fpC] using hn) hlt
  rw [hB]
  exact ⟨(z + 1, _), hs2, by show (lenI M).toNat - (z + 1).toNat < (lenI M).toNat - z.toNat; omega, Wk.weak (wkG [some 0, some 1, some 2, some 7, some 4] ⟨rfl, rfl, rfl, rfl, trivial⟩ ⟨⟨_, _, rfl, rfl, rfl, rfl, .inl ⟨rfl, rfl⟩⟩, ⟨_, _, rfl, rfl, rfl, rfl, .inl ⟨rfl, pQ⟩⟩, ⟨_, _, rfl, rfl, rfl, rfl, .inr ⟨⟨rfl, rfl, trivial⟩, trivial⟩⟩, ⟨_, _, rfl, rfl, rfl, rfl, .inl ⟨rfl, bare_plainE hs2.cp.bare⟩⟩, ⟨_, _, rfl, rfl, rfl, rfl, .inl ⟨rfl, rfl⟩⟩, trivial⟩ (by decide) no_lt)⟩
def filt {α β : Type} (p : α → Bool) : List α → List β → List β
  | m :: ms, e :: es => if p m = true then e :: filt p ms es else filt p ms es
  | _, _ => []
theorem filt_app {α β : Type} (p : α → Bool) (m : α) (e : β) : ∀ (ms : List α) (es : List β), ms.length = es.length → filt p (ms ++ [m]) (es ++ [e]) = filt p ms es ++ (if p m = true then [e] else [])
  | [], [], _ => rfl
  | [], _ :: _, h => by simp at h
  | _ :: _, [], h => by simp at h
  | m0 :: ms, e0 :: es, h => by
    have := filt_app p m e ms es (by simpa using h)
    show (if p m0 = true then e0 :: filt p (ms ++ [m]) (es ++ [e]) else filt p (ms ++ [m]) (es ++ [e])) = (if p m0 = true then e0 :: filt p ms es else filt p ms es) ++ _
    rw [this]
    split <;> simp
theorem filt_sub {α β : Type} (p : α → Bool) : ∀ (ms : List α) (es : List β), (filt p ms es).Sublist es
  | [], es => by unfold filt; exact List.nil_sublist _
  | _ :: _, [] => by unfold filt; exact List.nil_sublist _
  | m :: ms, e :: es => by
    unfold filt
    split
    · exact (filt_sub p ms es).cons_cons e
    · exact (filt_sub p ms es).cons e
theorem filt_map {α β γ : Type} (p : α → Bool) (f : β → γ) (c : α → γ) : ∀ (ms : List α) (es : List β), es.map f = ms.map c → (filt p ms es).map f = (ms.filter p).map c
  | [], es, h => by simp [filt]
  | _ :: _, [], h => by simp at h
  | m :: ms, e :: es, h => by
    simp only [List.map_cons, List.cons.injEq] at h
    have := filt_map p f c ms es h.2
    unfold filt
    split
    · rename_i hp
      rw [List.filter_cons_of_pos hp, List.map_cons, List.map_cons, this, h.1]
    · rename_i hp
      rw [List.filter_cons_of_neg hp, this]
theorem filt_take {α β : Type} (p : α → Bool) {ms : List α} {es : List β} {z : Int} {m : α} {e : β} (h0 : 0 ≤ z) (hl : ms.length = es.length) (hm : ms[z.toNat]? = some m) (he : es[z.toNat]? = some e) :
    filt p (ms.take (z + 1).toNat) (es.take (z + 1).toNat) = filt p (ms.take z.toNat) (es.take z.toNat) ++ (if p m = true then [e] else []) := by
  rw [show (z + 1).toNat = z.toNat + 1 by omega, List.take_add_one, List.take_add_one, hm, he]
  exact filt_app p m e _ _ (by simp [List.length_take, hl])
theorem fpE_sub {a b : List (List AC)} (h : a.Sublist b) : (fpE a).Sublist (fpE b) := by
  induction h with
  | slnil => exact List.Sublist.refl _
  | cons x _ ih => exact ih.trans (List.sublist_append_right _ _)
  | cons_cons x _ ih => exact List.Sublist.append (List.Sublist.refl _) ih
theorem CopyE.filt {k lo : Nat} {E : List (List AC)} (p : NMemo → Bool) {ms : List NMemo} (h : CopyE k E (vwA NMemo.ac ms) lo) : CopyE k (Go.Proofs.YtenbloaopcfdlaaGreat.filt p ms E) (vwA NMemo.ac (ms.filter p)) lo :=
  ⟨fun e he => h.kk e ((filt_sub p ms E).mem he), fun e he => h.bare e ((filt_sub p ms E).mem he), filt_map p _ _ ms E h.eq, ⟨(fpE_sub (filt_sub p ms E)).nodup h.new.1, fun b hb => h.new.2 b ((fpE_sub (filt_sub p ms E)).mem hb)⟩⟩
theorem blk_two {lo : Nat} {bl : Nat → Nat} {h : AH} {xs : List AT} (hb : BlkOk lo bl h xs) {r q : Nat} {ab ab' : AB} (hr : h[r]? = some (.live ab)) (hq : h[q]? = some (.live ab')) (hne : r ≠ q) (hn : NewB lo (fpE ab.es)) : NewB lo ((hd1 (bl r) ab.es ++ fpE ab.es) ++ hd1 (bl q) ab'.es) := by
  have h1 := blk_row hb hr hn
  have h2 := blk_new hb hq
  refine ⟨List.nodup_append.2 ⟨h1.1, h2.1, fun a ha b hb' he => ?_⟩, fun b hb' => (List.mem_append.1 hb').elim (h1.2 b) (h2.2 b)⟩
  subst he
  cases hes : ab'.es with
  | nil => rw [hes] at hb'; simp [hd1] at hb'
  | cons e es =>
    rw [hes] at hb'
    simp only [hd1, List.mem_singleton] at hb'
    subst hb'
    have hne' : ab'.es ≠ [] := by rw [hes]; simp
    rcases List.mem_append.1 ha with ha | ha
    · cases hes2 : ab.es with
      | nil => rw [hes2] at ha; simp [hd1] at ha
      | cons e2 es2 =>
        rw [hes2] at ha
        simp only [hd1, List.mem_singleton] at ha
        exact hne ((hb q ab' hq hne').2.1 r ab hr (by rw [hes2]; simp) ha).symm
    · obtain ⟨x, hx, ha⟩ := List.mem_flatMap.1 ha
      obtain ⟨c, hc, ha⟩ := List.mem_flatMap.1 ha
      exact (hb q ab' hq hne').2.2.1 r ab hr x hx c hc ha
theorem ress_copy {bl : Nat → Nat} {h : AH} {r t k k' lo : Nat} {E V : List (List AC)} (hr : h[r]? = some (.live ⟨t, k, E⟩)) (hc : CopyE k' E V lo) : ResS bl h (.own r) (.fv (hd1 (bl r) E ++ fpE E) V) := by
  have := ress_bareRow (bl := bl) hr hc.bare
  rw [hc.eq] at this
  exact this
section
variable {P : Program} {n0 N : Nat} {g : Gd}
theorem callTR {β : BP} (hg : g = G0 P n0 N) {h : EH} {f : FuncId} {args args' : List AT} {K : AV → EH → Prop} {t k : Nat} {ab' : AB} {Q : Nat → List (List AC) → Prop} (hc : TCon P f args' fun lo res rows => ∃ E, res = .t (.agg [.own 0, .own 1]) ∧ rows = [⟨t, k, E⟩, ab'] ∧ Q lo E) (ha : dwA args args')
    (hp : ∀ lo E, Q lo E → plainE E = true) (hp' : plainE ab'.es = true)
    (hK : ∀ lo E, BP.lo ≤ lo → (∀ b ∈ fpH h, b < lo) → (∀ b ∈ fpA args, b < lo) → Q lo E → K (.t (.agg [.own (lenL h), .own (lenL h + 1)])) (h ++ [.rw ⟨t, k, E⟩, .rw ab'])) : g .C f h args K :=
  callT hg hc ha fun lo res rows h1 h2 h3 ⟨E, hres, hrows, hQ⟩ => by
    subst hres hrows
    refine ⟨[.rw ⟨t, k, E⟩, .rw ab'], ?_, ?_⟩
    · simp only [List.map_cons, List.map_nil, shift_row (ab := ⟨t, k, E⟩) (hp lo E hQ), shift_row hp']; rfl
    · have := hK lo E h1 h2 h3 hQ
      rw [lenL_eq] at this
      rw [toH_len]; exact this
end
def keepB (ns : List NNode) (n : Int) (m : NMemo) : Bool := (m.node != n) && !(undF ns m.node ns.length n)
def fgM (ns : List NNode) (ms : List NMemo) (n : Int) : List NMemo := if (treeB ns && isN ns n) = true then ms.filter (keepB ns n) else ms
set_option maxHeartbeats 16000000 in
theorem impl_Forget_t (ns : List NNode) (hl : ns.length ≤ 1048576) (hs : ∀ y ∈ ns, y.small) (x : NKept) (hx : x.small) (n : Int) : TCon Tryz.prog 105 [.agg [.view (vwA NNode.ac ns)], .agg x.ac, ai n] fun lo res rows => (∃ b0 b1, res = .t (.agg [.fv b0 (vwA NMemo.ac (fgM ns x.memos n)), .fv b1 (vw GAsked.c x.asked)]) ∧ NewB lo (b0 ++ b1)) ∧ plainV res = true ∧ rows = [] := by
  have ck := impl_copyKept_t x hx
  have cT := impl_TreeOk_a ns hl hs
  have cU := fun n a => impl_IsUnder_a ns hl n a
  obtain ⟨ms, qs⟩ := x
  obtain ⟨sm, um, sq, -⟩ := hx
  obtain ⟨T, hT⟩ : ∃ T, T = vwA NNode.ac ns := ⟨_, rfl⟩
  have hTx : lenI T = (ns.length : Int) := by rw [lenI_eq, hT, vwA_length]
  have hisN : ∀ n, isN ns n = rng n 1 (lenI T) := fun n => by rw [hTx]; rfl
  obtain ⟨M, hM⟩ : ∃ M, M = vwA NMemo.ac ms := ⟨_, rfl⟩
  have hMl : M.length = ms.length := by rw [hM, vwA_length]
  have hMx : lenI M = (ms.length : Int) := by rw [lenI_eq, hMl]
  have hM2 : lenI M ≤ 1048576 := by omega
  obtain ⟨Q, hQ⟩ : ∃ Q, Q = vw GAsked.c qs := ⟨_, rfl⟩
  have hQl : Q.length = qs.length := by rw [hQ, vw_length]
  have iQ : immE Q = true := by rw [hQ]; exact vw_imm _ _
  have kQ : ∀ y ∈ Q, y.length = 6 := by rw [hQ]; exact vw_k (c := GAsked.c) (k := 6) fun _ => rfl
  have dQ : ∀ y ∈ Q, y.all dat = true := by rw [hQ]; exact vw_dat
  have pQ := imm_plainE iQ
  replace ck : TCon Tryz.prog 84 [.agg [.view M, .view Q]] (fun lo res rows => ∃ E, res = .t (.agg [.own 0, .own 1]) ∧ rows = [⟨166, 10, E⟩, ⟨174, 6, Q⟩] ∧ CopyE 10 E M lo) := by rw [hM, hQ]; exact ck
  show TCon _ _ [_, .agg [.view (vwA NMemo.ac ms), .view (vw GAsked.c qs)], _] (fun lo res rows => (∃ b0 b1, res = .t (.agg [.fv b0 (vwA NMemo.ac (fgM ns ms n)), .fv b1 (vw GAsked.c qs)]) ∧ NewB lo (b0 ++ b1)) ∧ plainV res = true ∧ rows = [])
  obtain ⟨W, hW⟩ : ∃ W, W = vwA NMemo.ac (fgM ns ms n) := ⟨_, rfl⟩
  rw [← hT] at cT cU
  rw [← hT, ← hM, ← hQ, ← hW]
  refine tcon_run ([]) ([]) (c := body Tryz.f105) fits Tryz.func105 (by kernel_rfl) (by kernel_rfl) (by rfl) (by kernel_rfl) fun β g eff hd F heff hhd hg hF => ?_
  cbv
  refine callTR hg ck (dwA_same rfl) (fun lo E h => bare_plainE h.bare) pQ (fun lo E q1 q2 q3 hE => ?_)
  clear q2 q3
  replace hE : CopyE 10 E M β.lo := ⟨hE.kk, hE.bare, hE.eq, hE.new.mono q1⟩
  clear q1
  cbv
  have hEl : E.length = ms.length := by rw [hE.len, hMl]
  have hEx : lenI E = lenI M := by rw [lenI_eq, lenI_eq, hE.len]
  have pE := bare_plainE hE.bare
  cases hTB : treeB ns
  case false =>
    rw [hTB] at cT
    refine call0 hg cT rfl rfl ?_
    cbv
    have hWM : W = M := by rw [hW, fgM, hTB, hM]; rfl
    rw [hWM] at hF
    refine finTS hF fun bl hbl => ⟨[.agg [.fv (hd1 (bl 3) E ++ fpE E) M, .fv (hd1 (bl 4) Q) Q]], .agg (.cons (ress_copy rfl hE) (.cons (ress_immRow (r := 4) (ab := ⟨_, _, Q⟩) rfl iQ) .nil)) .nil, ⟨_, _, rfl, blk_two hbl (r := 3) (q := 4) (ab := ⟨_, _, E⟩) (ab' := ⟨_, _, Q⟩) rfl rfl (by decide) hE.new⟩, rfl, rfl⟩
  rw [hTB] at cT
  refine call0 hg cT rfl rfl ?_
  cbv
  have cn := impl_isNode_a T n
  rw [← hisN n] at cn
  cases hin : isN ns n
  case false =>
    rw [hin] at cn
    refine call0 hg cn rfl rfl ?_
    cbv
    have hWM : W = M := by rw [hW, fgM, hin, Bool.and_false, hM]; rfl
    rw [hWM] at hF
    refine finTS hF fun bl hbl => ⟨[.agg [.fv (hd1 (bl 3) E ++ fpE E) M, .fv (hd1 (bl 4) Q) Q]], .agg (.cons (ress_copy rfl hE) (.cons (ress_immRow (r := 4) (ab := ⟨_, _, Q⟩) rfl iQ) .nil)) .nil, ⟨_, _, rfl, blk_two hbl (r := 3) (q := 4) (ab := ⟨_, _, E⟩) (ab' := ⟨_, _, Q⟩) rfl rfl (by decide) hE.new⟩, rfl, rfl⟩
  rw [hin] at cn
  refine call0 hg cn rfl rfl ?_
  cbv
  obtain ⟨p, hp⟩ : ∃ p, p = keepB ns n := ⟨_, rfl⟩
  have hWp : W = vwA NMemo.ac (ms.filter p) := by rw [hW, fgM, hTB, hin, hp]; rfl
  rw [hM] at hE
  have hall := hE.filt p
  rw [← hWp] at hall
  refine loop_runW4 [] [] heff hhd hg fits (by kernel_rfl) (fun s : Int × List (List AC) => [(2, .t (ai (n))), (3, .t (.c (.ptr 0 0 0))), (6, .t (.c (.ptr 1 0 0))), (7, .t (.c (.ptr 4 0 0))), (8, .t (.c (.own 5))), (24, .t (.c (.own 2))), (25, .t (ai (g .ln E))), (26, .t (ai (s.1)))]) (fun s => [.bx 43 1 [.view T], .bx 47 2 [.imm (.slice none 0 0), .imm (.slice none 0 0)], .rw ⟨166, 10, E⟩, .rw ⟨174, 6, Q⟩, .bx 47 2 [.own 2, .own 3], .rw ⟨166, 10, s.2⟩]) (fun s => 0 ≤ s.1 ∧ s.2 = filt p (ms.take s.1.toNat) (E.take s.1.toNat)) (fun s => (lenI E).toNat - s.1.toNat)
    (0, []) ⟨Int.le_refl 0, rfl⟩ (Wk.weak (wkG [some 0, some 2, some 3, some 4, some 5, none] ⟨rfl, rfl, rfl, rfl, rfl, rfl, rfl, rfl, trivial⟩ ⟨⟨_, _, rfl, rfl, rfl, rfl, .inl ⟨rfl, rfl⟩⟩, ⟨_, _, rfl, rfl, rfl, rfl, .inl ⟨rfl, rfl⟩⟩, ⟨_, _, rfl, rfl, rfl, rfl, .inl ⟨rfl, pE⟩⟩, ⟨_, _, rfl, rfl, rfl, rfl, .inl ⟨rfl, pQ⟩⟩, ⟨_, _, rfl, rfl, rfl, rfl, .inr ⟨⟨rfl, rfl, trivial⟩, trivial⟩⟩, ⟨_, rfl, rfl⟩, trivial⟩ (by decide) no_lt)) (fun s B hst hB => ?_)
  obtain ⟨z, es⟩ := s
  obtain ⟨h0, hes⟩ := hst
  simp only at h0 hes
  have hesl : es.length ≤ E.length := by rw [hes]; exact Nat.le_trans (filt_sub p _ _).length_le (by rw [List.length_take]; omega)
  have hesb : ∀ e ∈ es, e.all bareF = true := fun e he => hE.bare e (List.mem_of_mem_take ((filt_sub p _ _).mem (by rw [← hes]; exact he)))
  cbv
  cases hc : g .q .lss z (g .ln E)
  · rw [goLss hg, goLn hg, decide_eq_false_iff_not] at hc
    cbv
    have he2 : es = filt p ms E := by rw [hes, List.take_of_length_le (by rw [lenI_eq] at hc; omega), List.take_of_length_le (by rw [lenI_eq] at hc; omega)]
    rw [← he2] at hall
    refine finTS hF fun bl hbl => ⟨[.agg [.fv (hd1 (bl 5) es ++ fpE es) W, .fv (hd1 (bl 3) Q) Q]], .agg (.cons (ress_copy rfl hall) (.cons (ress_immRow (r := 3) (ab := ⟨_, _, Q⟩) rfl iQ) .nil)) .nil, ⟨_, _, rfl, blk_two hbl (r := 5) (q := 3) (ab := ⟨_, _, es⟩) (ab' := ⟨_, _, Q⟩) rfl rfl (by decide) hall.new⟩, rfl, rfl⟩
  rw [goLss hg, goLn hg, decide_eq_true_eq] at hc
  cbv
  obtain ⟨j, hj⟩ : ∃ j, j = z.toNat := ⟨_, rfl⟩
  have hjl : j < E.length := by rw [lenI_eq] at hc; omega
  obtain ⟨e, he⟩ : ∃ e, E[j]? = some e := ⟨_, List.getElem?_eq_getElem hjl⟩
  obtain ⟨m, hm⟩ : ∃ m, ms[j]? = some m := ⟨_, List.getElem?_eq_getElem (by omega)⟩
  have hstep := filt_take p (ms := ms) (es := E) (m := m) (e := e) h0 hEl.symm (by rw [← hj]; exact hm) (by rw [← hj]; exact he)
  rw [← hes] at hstep
  have hev : e.map vwC = m.ac := by
    have h1 : (E.map (·.map vwC))[j]? = some (e.map vwC) := by rw [List.getElem?_map, he]; rfl
    rw [hE.eq, vwA_at hm] at h1
    exact (Option.some.inj h1).symm
  have heb := hE.bare e (List.mem_of_getElem? he)
  have hel := hE.kk e (List.mem_of_getElem? he)
  have hpm : p m = ((m.node != n) && !(undF ns m.node ns.length n)) := by rw [hp]; rfl
  obtain ⟨a0, ⟨a1, a2⟩, ⟨a3, a4⟩, a5, ⟨a6, a7, a8, a9⟩⟩ := m
  simp only at hpm
  obtain ⟨b0, b1, b2, b3, b4, b5, b6, b7, b8, b9, rfl⟩ : ∃ b0 b1 b2 b3 b4 b5 b6 b7 b8 b9, e = [b0, b1, b2, b3, b4, b5, b6, b7, b8, b9] := by
    match e, hel with
    | [b0, b1, b2, b3, b4, b5, b6, b7, b8, b9], _ => exact ⟨b0, b1, b2, b3, b4, b5, b6, b7, b8, b9, rfl⟩
  replace hev : [b0, b1, b2, b3, b4, b5, b6, b7, b8, b9].map vwC = [.imm (.int .i64 a0), .imm (.int .i64 a1), .imm (.int .i64 a2), .imm (.int .i64 a3), .imm (.int .i64 a4), .imm (.bool a5), .imm (.int .i64 a6), .imm (.int .i64 a7), .imm (.int .i64 a8), .view (vw GFrame.c a9)] := hev
  simp only [List.map_cons, List.map_nil, List.cons.injEq, and_true] at hev
  simp only [List.all_cons, List.all_nil, Bool.and_true, Bool.and_eq_true] at heb
  obtain ⟨v0, v1, v2, v3, v4, v5, v6, v7, v8, v9⟩ := hev
  obtain ⟨w0, w1, w2, w3, w4, w5, w6, w7, w8, w9⟩ := heb
  obtain rfl := bare_imm w0 v0
  obtain rfl := bare_imm w1 v1
  obtain rfl := bare_imm w2 v2
  obtain rfl := bare_imm w3 v3
  obtain rfl := bare_imm w4 v4
  obtain rfl := bare_imm w5 v5
  obtain rfl := bare_imm w6 v6
  obtain rfl := bare_imm w7 v7
  obtain rfl := bare_imm w8 v8
  obtain ⟨bb, rfl⟩ := bare_fv w9 v9
  clear v0 v1 v2 v3 v4 v5 v6 v7 v8 v9 w0 w1 w2 w3 w4 w5 w6 w7 w8 w9 hel
  obtain ⟨Va9, hVa9⟩ : ∃ V, V = vw GFrame.c a9 := ⟨_, rfl⟩
  rw [← hVa9] at he hstep
  have e1 : g .w .add .i64 z 1 = z + 1 := by rw [goAdd hg, wrap_small _ (by omega)]
  refine goYt hg h0 hj hjl ?_
  cbv
  refine ⟨_, he, ?_⟩
  cbv
  cases ht : g .q .neq a0 n
  case false =>
    rw [goNeq hg] at ht
    have hpf : p ⟨a0, ⟨a1, a2⟩, ⟨a3, a4⟩, a5, ⟨a6, a7, a8, a9⟩⟩ = false := by rw [hpm, ht]; rfl
    rw [hpf, if_neg (by decide), List.append_nil] at hstep
    cbv
    rw [e1, hB]
    exact ⟨(z + 1, es), ⟨by simp only; omega, hstep.symm⟩, by show (lenI E).toNat - (z + 1).toNat < (lenI E).toNat - z.toNat; omega, Wk.weak (wkG [some 0, some 1, some 2, some 3, some 4, some 5] ⟨rfl, rfl, rfl, rfl, rfl, rfl, rfl, rfl, trivial⟩ ⟨⟨_, _, rfl, rfl, rfl, rfl, .inl ⟨rfl, rfl⟩⟩, ⟨_, _, rfl, rfl, rfl, rfl, .inl ⟨rfl, rfl⟩⟩, ⟨_, _, rfl, rfl, rfl, rfl, .inl ⟨rfl, pE⟩⟩, ⟨_, _, rfl, rfl, rfl, rfl, .inl ⟨rfl, pQ⟩⟩, ⟨_, _, rfl, rfl, rfl, rfl, .inr ⟨⟨rfl, rfl, trivial⟩, trivial⟩⟩, ⟨_, _, rfl, rfl, rfl, rfl, .inl ⟨rfl, bare_plainE hesb⟩⟩, trivial⟩ (by decide) no_lt)⟩
  rw [goNeq hg] at ht
  have cu := cU n a0
  cbv
  cases hu : undF ns a0 ns.length n
  case true =>
    rw [hu] at cu
    have hpf : p ⟨a0, ⟨a1, a2⟩, ⟨a3, a4⟩, a5, ⟨a6, a7, a8, a9⟩⟩ = false := by rw [hpm, hu, Bool.not_true, Bool.and_false]
    rw [hpf, if_neg (by decide), List.append_nil] at hstep
    refine call0 hg cu rfl rfl ?_
    cbv
    rw [e1, hB]
    exact ⟨(z + 1, es), ⟨by simp only; omega, hstep.symm⟩, by show (lenI E).toNat - (z + 1).toNat < (lenI E).toNat - z.toNat; omega, Wk.weak (wkG [some 0, some 1, some 2, some 3, some 4, some 5] ⟨rfl, rfl, rfl, rfl, rfl, rfl, rfl, rfl, trivial⟩ ⟨⟨_, _, rfl, rfl, rfl, rfl, .inl ⟨rfl, rfl⟩⟩, ⟨_, _, rfl, rfl, rfl, rfl, .inl ⟨rfl, rfl⟩⟩, ⟨_, _, rfl, rfl, rfl, rfl, .inl ⟨rfl, pE⟩⟩, ⟨_, _, rfl, rfl, rfl, rfl, .inl ⟨rfl, pQ⟩⟩, ⟨_, _, rfl, rfl, rfl, rfl, .inr ⟨⟨rfl, rfl, trivial⟩, trivial⟩⟩, ⟨_, _, rfl, rfl, rfl, rfl, .inl ⟨rfl, bare_plainE hesb⟩⟩, trivial⟩ (by decide) no_lt)⟩
  rw [hu] at cu
  have hpf : p ⟨a0, ⟨a1, a2⟩, ⟨a3, a4⟩, a5, ⟨a6, a7, a8, a9⟩⟩ = true := by rw [hpm, hu, ht]; rfl
  rw [hpf, if_pos rfl] at hstep
  refine call0 hg cu rfl rfl ?_
  cbv
  refine goNAt hg rfl (by decide) (by rw [lenI_eq] at hEx; omega) ?_
  cbv
  rw [e1, goAp hg, hB]
  have hpl : plainE (es ++ [[.imm (.int .i64 a0), .imm (.int .i64 a1), .imm (.int .i64 a2), .imm (.int .i64 a3), .imm (.int .i64 a4), .imm (.bool a5), .imm (.int .i64 a6), .imm (.int .i64 a7), .imm (.int .i64 a8), .fv bb Va9]]) = true := by
    refine bare_plainE fun x hx => ?_
    rcases List.mem_append.1 hx with h | h
    · exact hesb x h
    · rw [List.mem_singleton.1 h]; rfl
  exact ⟨(z + 1, _), ⟨by simp only; omega, hstep.symm⟩, by show (lenI E).toNat - (z + 1).toNat < (lenI E).toNat - z.toNat; omega, Wk.weak (wkG [some 0, some 1, some 2, some 3, some 4, some 8] ⟨rfl, rfl, rfl, rfl, rfl, rfl, rfl, rfl, trivial⟩ ⟨⟨_, _, rfl, rfl, rfl, rfl, .inl ⟨rfl, rfl⟩⟩, ⟨_, _, rfl, rfl, rfl, rfl, .inl ⟨rfl, rfl⟩⟩, ⟨_, _, rfl, rfl, rfl, rfl, .inl ⟨rfl, pE⟩⟩, ⟨_, _, rfl, rfl, rfl, rfl, .inl ⟨rfl, pQ⟩⟩, ⟨_, _, rfl, rfl, rfl, rfl, .inr ⟨⟨rfl, rfl, trivial⟩, trivial⟩⟩, ⟨_, _, rfl, rfl, rfl, rfl, .inl ⟨rfl, hpl⟩⟩, trivial⟩ (by decide) no_lt)⟩
set_option maxHeartbeats 16000000 in
theorem spec_Forget_t (ns : List NNode) (hl : ns.length ≤ 1048576) (hs : ∀ y ∈ ns, y.small) (x : NKept) (hx : x.small) (n : Int) : TCon Tryz.prog 101 [.agg [.view (vwA NNode.ac ns)], .agg x.ac, ai n] fun lo res rows => (∃ b0 b1, res = .t (.agg [.fv b0 (vwA NMemo.ac (fgM ns x.memos n)), .fv b1 (vw GAsked.c x.asked)]) ∧ NewB lo (b0 ++ b1)) ∧ plainV res = true ∧ rows = [] := by
  have ck := spec_l21Copy_t x hx
  have cT := spec_TreeOk_a ns hl hs
  have cU := fun n a (hud : upD ns ns.length n) => spec_IsUnder_a ns hl n a hud
  obtain ⟨ms, qs⟩ := x
  obtain ⟨sm, um, sq, -⟩ := hx
  obtain ⟨T, hT⟩ : ∃ T, T = vwA NNode.ac ns := ⟨_, rfl⟩
  have hTx : lenI T = (ns.length : Int) := by rw [lenI_eq, hT, vwA_length]
  have hisN : ∀ n, isN ns n = rng n 1 (lenI T) := fun n => by rw [hTx]; rfl
  obtain ⟨M, hM⟩ : ∃ M, M = vwA NMemo.ac ms := ⟨_, rfl⟩
  have hMl : M.length = ms.length := by rw [hM, vwA_length]
  have hMx : lenI M = (ms.length : Int) := by rw [lenI_eq, hMl]
  have hM2 : lenI M ≤ 1048576 := by omega
  obtain ⟨Q, hQ⟩ : ∃ Q, Q = vw GAsked.c qs := ⟨_, rfl⟩
  have hQl : Q.length = qs.length := by rw [hQ, vw_length]
  have iQ : immE Q = true := by rw [hQ]; exact vw_imm _ _
  have kQ : ∀ y ∈ Q, y.length = 6 := by rw [hQ]; exact vw_k (c := GAsked.c) (k := 6) fun _ => rfl
  have dQ : ∀ y ∈ Q, y.all dat = true := by rw [hQ]; exact vw_dat
  have pQ := imm_plainE iQ
  replace ck : TCon Tryz.prog 78 [.agg [.view M, .view Q]] (fun lo res rows => ∃ E, res = .t (.agg [.own 0, .own 1]) ∧ rows = [⟨166, 10, E⟩, ⟨174, 6, Q⟩] ∧ CopyE 10 E M lo) := by rw [hM, hQ]; exact ck
  show TCon _ _ [_, .agg [.view (vwA NMemo.ac ms), .view (vw GAsked.c qs)], _] (fun lo res rows => (∃ b0 b1, res = .t (.agg [.fv b0 (vwA NMemo.ac (fgM ns ms n)), .fv b1 (vw GAsked.c qs)]) ∧ NewB lo (b0 ++ b1)) ∧ plainV res = true ∧ rows = [])
  obtain ⟨W, hW⟩ : ∃ W, W = vwA NMemo.ac (fgM ns ms n) := ⟨_, rfl⟩
  rw [← hT] at cT cU
  rw [← hT, ← hM, ← hQ, ← hW]
  refine tcon_run ([(10, .hand)]) ([]) (c := body Tryz.f101) fits Tryz.func101 (by kernel_rfl) (by kernel_rfl) (by rfl) (by kernel_rfl) fun β g eff hd F heff hhd hg hF => ?_
  cbv
  refine callTR hg ck (dwA_same rfl) (fun lo E h => bare_plainE h.bare) pQ (fun lo E q1 q2 q3 hE => ?_)
  clear q2 q3
  replace hE : CopyE 10 E M β.lo := ⟨hE.kk, hE.bare, hE.eq, hE.new.mono q1⟩
  clear q1
  cbv
  have hEl : E.length = ms.length := by rw [hE.len, hMl]
  have hEx : lenI E = lenI M := by rw [lenI_eq, lenI_eq, hE.len]
  have pE := bare_plainE hE.bare
  cases hTB : treeB ns
  case false =>
    rw [hTB] at cT
    refine call0 hg cT rfl rfl ?_
    cbv
    have hWM : W = M := by rw [hW, fgM, hTB, hM]; rfl
    rw [hWM] at hF
    refine finTS hF fun bl hbl => ⟨[.agg [.fv (hd1 (bl 3) E ++ fpE E) M, .fv (hd1 (bl 4) Q) Q]], .agg (.cons (ress_copy rfl hE) (.cons (ress_immRow (r := 4) (ab := ⟨_, _, Q⟩) rfl iQ) .nil)) .nil, ⟨_, _, rfl, blk_two hbl (r := 3) (q := 4) (ab := ⟨_, _, E⟩) (ab' := ⟨_, _, Q⟩) rfl rfl (by decide) hE.new⟩, rfl, rfl⟩
  rw [hTB] at cT
  refine call0 hg cT rfl rfl ?_
  cbv
  have cn := spec_l10Is_a T n
  rw [← hisN n] at cn
  cases hin : isN ns n
  case false =>
    rw [hin] at cn
    refine call0 hg cn rfl rfl ?_
    cbv
    have hWM : W = M := by rw [hW, fgM, hin, Bool.and_false, hM]; rfl
    rw [hWM] at hF
    refine finTS hF fun bl hbl => ⟨[.agg [.fv (hd1 (bl 3) E ++ fpE E) M, .fv (hd1 (bl 4) Q) Q]], .agg (.cons (ress_copy rfl hE) (.cons (ress_immRow (r := 4) (ab := ⟨_, _, Q⟩) rfl iQ) .nil)) .nil, ⟨_, _, rfl, blk_two hbl (r := 3) (q := 4) (ab := ⟨_, _, E⟩) (ab' := ⟨_, _, Q⟩) rfl rfl (by decide) hE.new⟩, rfl, rfl⟩
  rw [hin] at cn
  refine call0 hg cn rfl rfl ?_
  cbv
  obtain ⟨p, hp⟩ : ∃ p, p = keepB ns n := ⟨_, rfl⟩
  have hWp : W = vwA NMemo.ac (ms.filter p) := by rw [hW, fgM, hTB, hin, hp]; rfl
  rw [hM] at hE
  have hall := hE.filt p
  rw [← hWp] at hall
  refine loop_runW4 [(10, .hand)] [] heff hhd hg fits (by kernel_rfl) (fun s : Int × List (List AC) => [(2, .t (ai (n))), (3, .t (.c (.ptr 0 0 0))), (4, .t (.c (.ptr 1 0 0))), (6, .t (.c (.ptr 2 0 0))), (7, .t (.c (.ptr 5 0 0))), (8, .t (ai (s.1)))]) (fun s => [.bx 43 1 [.view T], .bx 47 2 [.own 3, .own 4], .bx 47 2 [.imm (.slice none 0 0), .imm (.slice none 0 0)], .rw ⟨166, 10, E⟩, .rw ⟨174, 6, Q⟩, .bx 47 2 [.own 6, .own 4], .rw ⟨166, 10, s.2⟩]) (fun s => 0 ≤ s.1 ∧ s.2 = filt p (ms.take s.1.toNat) (E.take s.1.toNat)) (fun s => (lenI E).toNat - s.1.toNat)
    (0, []) ⟨Int.le_refl 0, rfl⟩ (Wk.weak (wkG [some 0, some 1, some 2, some 3, some 4, some 5, none] ⟨rfl, rfl, rfl, rfl, rfl, rfl, trivial⟩ ⟨⟨_, _, rfl, rfl, rfl, rfl, .inl ⟨rfl, rfl⟩⟩, ⟨_, _, rfl, rfl, rfl, rfl, .inr ⟨⟨rfl, rfl, trivial⟩, trivial⟩⟩, ⟨_, _, rfl, rfl, rfl, rfl, .inl ⟨rfl, rfl⟩⟩, ⟨_, _, rfl, rfl, rfl, rfl, .inl ⟨rfl, pE⟩⟩, ⟨_, _, rfl, rfl, rfl, rfl, .inl ⟨rfl, pQ⟩⟩, ⟨_, _, rfl, rfl, rfl, rfl, .inr ⟨⟨rfl, rfl, trivial⟩, trivial⟩⟩, ⟨_, rfl, rfl⟩, trivial⟩ (by decide) no_lt)) (fun s B hst hB => ?_)
  obtain ⟨z, es⟩ := s
  obtain ⟨h0, hes⟩ := hst
  simp only at h0 hes
  have hesl : es.length ≤ E.length := by rw [hes]; exact Nat.le_trans (filt_sub p _ _).length_le (by rw [List.length_take]; omega)
  have hesb : ∀ e ∈ es, e.all bareF = true := fun e he => hE.bare e (List.mem_of_mem_take ((filt_sub p _ _).mem (by rw [← hes]; exact he)))
  cbv
  cases hc : g .q .lss z (g .ln E)
  · rw [goLss hg, goLn hg, decide_eq_false_iff_not] at hc
    cbv
    have he2 : es = filt p ms E := by rw [hes, List.take_of_length_le (by rw [lenI_eq] at hc; omega), List.take_of_length_le (by rw [lenI_eq] at hc; omega)]
    rw [← he2] at hall
    refine finTS hF fun bl hbl => ⟨[.agg [.fv (hd1 (bl 6) es ++ fpE es) W, .fv (hd1 (bl 4) Q) Q]], .agg (.cons (ress_copy rfl hall) (.cons (ress_immRow (r := 4) (ab := ⟨_, _, Q⟩) rfl iQ) .nil)) .nil, ⟨_, _, rfl, blk_two hbl (r := 6) (q := 4) (ab := ⟨_, _, es⟩) (ab' := ⟨_, _, Q⟩) rfl rfl (by decide) hall.new⟩, rfl, rfl⟩
  rw [goLss hg, goLn hg, decide_eq_true_eq] at hc
  cbv
  obtain ⟨j, hj⟩ : ∃ j, j = z.toNat := ⟨_, rfl⟩
  have hjl : j < E.length := by rw [lenI_eq] at hc; omega
  obtain ⟨e, he⟩ : ∃ e, E[j]? = some e := ⟨_, List.getElem?_eq_getElem hjl⟩
  obtain ⟨m, hm⟩ : ∃ m, ms[j]? = some m := ⟨_, List.getElem?_eq_getElem (by omega)⟩
  have hstep := filt_take p (ms := ms) (es := E) (m := m) (e := e) h0 hEl.symm (by rw [← hj]; exact hm) (by rw [← hj]; exact he)
  rw [← hes] at hstep
  have hev : e.map vwC = m.ac := by
    have h1 : (E.map (·.map vwC))[j]? = some (e.map vwC) := by rw [List.getElem?_map, he]; rfl
    rw [hE.eq, vwA_at hm] at h1
    exact (Option.some.inj h1).symm
  have heb := hE.bare e (List.mem_of_getElem? he)
  have hel := hE.kk e (List.mem_of_getElem? he)
  have hpm : p m = ((m.node != n) && !(undF ns m.node ns.length n)) := by rw [hp]; rfl
  obtain ⟨a0, ⟨a1, a2⟩, ⟨a3, a4⟩, a5, ⟨a6, a7, a8, a9⟩⟩ := m
  simp only at hpm
  obtain ⟨b0, b1, b2, b3, b4, b5, b6, b7, b8, b9, rfl⟩ : ∃ b0 b1 b2 b3 b4 b5 b6 b7 b8 b9, e = [b0, b1, b2, b3, b4, b5, b6, b7, b8, b9] := by
    match e, hel with
    | [b0, b1, b2, b3, b4, b5, b6, b7, b8, b9], _ => exact ⟨b0, b1, b2, b3, b4, b5, b6, b7, b8, b9, rfl⟩
  replace hev : [b0, b1, b2, b3, b4, b5, b6, b7, b8, b9].map vwC = [.imm (.int .i64 a0), .imm (.int .i64 a1), .imm (.int .i64 a2), .imm (.int .i64 a3), .imm (.int .i64 a4), .imm (.bool a5), .imm (.int .i64 a6), .imm (.int .i64 a7), .imm (.int .i64 a8), .view (vw GFrame.c a9)] := hev
  simp only [List.map_cons, List.map_nil, List.cons.injEq, and_true] at hev
  simp only [List.all_cons, List.all_nil, Bool.and_true, Bool.and_eq_true] at heb
  obtain ⟨v0, v1, v2, v3, v4, v5, v6, v7, v8, v9⟩ := hev
  obtain ⟨w0, w1, w2, w3, w4, w5, w6, w7, w8, w9⟩ := heb
  obtain rfl := bare_imm w0 v0
  obtain rfl := bare_imm w1 v1
  obtain rfl := bare_imm w2 v2
  obtain rfl := bare_imm w3 v3
  obtain rfl := bare_imm w4 v4
  obtain rfl := bare_imm w5 v5
  obtain rfl := bare_imm w6 v6
  obtain rfl := bare_imm w7 v7
  obtain rfl := bare_imm w8 v8
  obtain ⟨bb, rfl⟩ := bare_fv w9 v9
  clear v0 v1 v2 v3 v4 v5 v6 v7 v8 v9 w0 w1 w2 w3 w4 w5 w6 w7 w8 w9 hel
  obtain ⟨Va9, hVa9⟩ : ∃ V, V = vw GFrame.c a9 := ⟨_, rfl⟩
  rw [← hVa9] at he hstep
  have e1 : g .w .add .i64 z 1 = z + 1 := by rw [goAdd hg, wrap_small _ (by omega)]
  refine goYt hg h0 hj hjl ?_
  cbv
  refine ⟨_, he, ?_⟩
  cbv
  cases ht : g .q .neq a0 n
  case false =>
    rw [goNeq hg] at ht
    have hpf : p ⟨a0, ⟨a1, a2⟩, ⟨a3, a4⟩, a5, ⟨a6, a7, a8, a9⟩⟩ = false := by rw [hpm, ht]; rfl
    rw [hpf, if_neg (by decide), List.append_nil] at hstep
    cbv
    rw [e1, hB]
    exact ⟨(z + 1, es), ⟨by simp only; omega, hstep.symm⟩, by show (lenI E).toNat - (z + 1).toNat < (lenI E).toNat - z.toNat; omega, Wk.weak (wkG [some 0, some 1, some 2, some 3, some 4, some 5, some 6] ⟨rfl, rfl, rfl, rfl, rfl, rfl, trivial⟩ ⟨⟨_, _, rfl, rfl, rfl, rfl, .inl ⟨rfl, rfl⟩⟩, ⟨_, _, rfl, rfl, rfl, rfl, .inr ⟨⟨rfl, rfl, trivial⟩, trivial⟩⟩, ⟨_, _, rfl, rfl, rfl, rfl, .inl ⟨rfl, rfl⟩⟩, ⟨_, _, rfl, rfl, rfl, rfl, .inl ⟨rfl, pE⟩⟩, ⟨_, _, rfl, rfl, rfl, rfl, .inl ⟨rfl, pQ⟩⟩, ⟨_, _, rfl, rfl, rfl, rfl, .inr ⟨⟨rfl, rfl, trivial⟩, trivial⟩⟩, ⟨_, _, rfl, rfl, rfl, rfl, .inl ⟨rfl, bare_plainE hesb⟩⟩, trivial⟩ (by decide) no_lt)⟩
  rw [goNeq hg] at ht
  have cu := cU n a0 (upD_all hTB n)
  cbv
  cases hu : undF ns a0 ns.length n
  case true =>
    rw [hu] at cu
    have hpf : p ⟨a0, ⟨a1, a2⟩, ⟨a3, a4⟩, a5, ⟨a6, a7, a8, a9⟩⟩ = false := by rw [hpm, hu, Bool.not_true, Bool.and_false]
    rw [hpf, if_neg (by decide), List.append_nil] at hstep
    refine call0 hg cu rfl rfl ?_
    cbv
    rw [e1, hB]
    exact ⟨(z + 1, es), ⟨by simp only; omega, hstep.symm⟩, by show (lenI E).toNat - (z + 1).toNat < (lenI E).toNat - z.toNat; omega, Wk.weak (wkG [some 0, some 1, some 2, some 3, some 4, some 5, some 6] ⟨rfl, rfl, rfl, rfl, rfl, rfl, trivial⟩ ⟨⟨_, _, rfl, rfl, rfl, rfl, .inl ⟨rfl, rfl⟩⟩, ⟨_, _, rfl, rfl, rfl, rfl, .inr ⟨⟨rfl, rfl, trivial⟩, trivial⟩⟩, ⟨_, _, rfl, rfl, rfl, rfl, .inl ⟨rfl, rfl⟩⟩, ⟨_, _, rfl, rfl, rfl, rfl, .inl ⟨rfl, pE⟩⟩, ⟨_, _, rfl, rfl, rfl, rfl, .inl ⟨rfl, pQ⟩⟩, ⟨_, _, rfl, rfl, rfl, rfl, .inr ⟨⟨rfl, rfl, trivial⟩, trivial⟩⟩, ⟨_, _, rfl, rfl, rfl, rfl, .inl ⟨rfl, bare_plainE hesb⟩⟩, trivial⟩ (by decide) no_lt)⟩
  rw [hu] at cu
  have hpf : p ⟨a0, ⟨a1, a2⟩, ⟨a3, a4⟩, a5, ⟨a6, a7, a8, a9⟩⟩ = true := by rw [hpm, hu, ht]; rfl
  rw [hpf, if_pos rfl] at hstep
  refine call0 hg cu rfl rfl ?_
  cbv
  have hpl : plainE (es ++ [[.imm (.int .i64 a0), .imm (.int .i64 a1), .imm (.int .i64 a2), .imm (.int .i64 a3), .imm (.int .i64 a4), .imm (.bool a5), .imm (.int .i64 a6), .imm (.int .i64 a7), .imm (.int .i64 a8), .fv bb Va9]]) = true := by
    refine bare_plainE fun x hx => ?_
    rcases List.mem_append.1 hx with h | h
    · exact hesb x h
    · rw [List.mem_singleton.1 h]; rfl
  refine hand_app hg hhd fits 10 8 1 6 rfl rfl (by kernel_rfl) (by kernel_rfl) ?_
  cbv
  refine goYt hg h0 hj hjl ?_
  cbv
  refine ⟨_, he, ?_⟩
  cbv
  refine goNAt hg rfl (by decide) (by omega) ?_
  cbv
  refine goN hg (by rw [goAp hg]; exact hpl) ?_
  cbv
  rw [e1, goAp hg, hB]
  exact ⟨(z + 1, _), ⟨by simp only; omega, hstep.symm⟩, by show (lenI E).toNat - (z + 1).toNat < (lenI E).toNat - z.toNat; omega, Wk.weak (wkG [some 0, some 1, some 2, some 3, some 4, some 5, some 8] ⟨rfl, rfl, rfl, rfl, rfl, rfl, trivial⟩ ⟨⟨_, _, rfl, rfl, rfl, rfl, .inl ⟨rfl, rfl⟩⟩, ⟨_, _, rfl, rfl, rfl, rfl, .inr ⟨⟨rfl, rfl, trivial⟩, trivial⟩⟩, ⟨_, _, rfl, rfl, rfl, rfl, .inl ⟨rfl, rfl⟩⟩, ⟨_, _, rfl, rfl, rfl, rfl, .inl ⟨rfl, pE⟩⟩, ⟨_, _, rfl, rfl, rfl, rfl, .inl ⟨rfl, pQ⟩⟩, ⟨_, _, rfl, rfl, rfl, rfl, .inr ⟨⟨rfl, rfl, trivial⟩, trivial⟩⟩, ⟨_, _, rfl, rfl, rfl, rfl, .inl ⟨rfl, hpl⟩⟩, trivial⟩ (by decide) no_lt)⟩
set_option maxHeartbeats 8000000 in
theorem laws_heldAskedS_n (k0 : Int) (ls : List (Unit)) (hl : ls.length ≤ 1048576) (hk0 : 0 ≤ k0) (hk1 : endMkAsked k0 ls ≤ 1152921504606846976) : PCon Tryz.prog 96 [.c (.view (mkRowsAsked k0 ls)), ai k0] fun res rows => res = .t (ai (endMkAsked k0 ls)) ∧ rows = [] := by
  obtain ⟨V, hV⟩ : ∃ V, V = mkRowsAsked k0 ls := ⟨_, rfl⟩
  have hVl : V.length = ls.length := by rw [hV, mkRowsAsked_len]
  have hV20 : lenI V ≤ 1048576 := by rw [lenI_eq]; omega
  obtain ⟨K, hKe⟩ : ∃ K, K = endMkAsked k0 ls := ⟨_, rfl⟩
  rw [← hKe] at hk1
  rw [← hV, ← hKe]
  refine pcon_run (c := body Tryz.f96) fits Tryz.func96 (by kernel_rfl) (by kernel_rfl) (by rfl) (by kernel_rfl) fun g F hg hF => ?_
  cbv
  refine loop_run hg fits (by kernel_rfl) (fun s : Int × Int => [(0, .t (.c (.view V))), (1, .t (ai s.2)), (5, .t (ai s.1))]) (fun _ => []) (fun s => 0 ≤ s.1 ∧ (∃ R, V = R ++ mkRowsAsked s.2 (ls.drop s.1.toNat) ∧ R.length = s.1.toNat) ∧ K = endMkAsked s.2 (ls.drop s.1.toNat) ∧ 0 ≤ s.2) (fun s => (lenI V).toNat - s.1.toNat)
    (0, k0) [] ⟨Int.le_refl 0, ⟨[], hV, rfl⟩, hKe, hk0⟩ (wk0 ⟨rfl, rfl, rfl, trivial⟩) (fun s B hs hB => ?_)
  obtain ⟨z, kc⟩ := s
  obtain ⟨h0, ⟨R, hR, hRl⟩, hK, hkc⟩ := hs
  simp only at h0 hR hRl hK hkc
  cbv
  cases hc : g .q .lss z (g .ln V)
  · rw [goLss hg, goLn hg, decide_eq_false_iff_not] at hc
    cbv
    have hdr : ls.drop z.toNat = [] := by rw [lenI_eq] at hc; exact List.drop_eq_nil_of_le (by omega)
    rw [hdr] at hK
    exact fin0i hF hK.symm
  · rw [goLss hg, goLn hg, decide_eq_true_eq] at hc
    cbv
    obtain ⟨j, hj⟩ : ∃ j, j = z.toNat := ⟨_, rfl⟩
    have hjl : j < ls.length := by rw [lenI_eq] at hc; omega
    obtain ⟨l, hl0⟩ : ∃ l, ls[j]? = some l := ⟨_, List.getElem?_eq_getElem hjl⟩
    have hdr : ls.drop z.toNat = l :: ls.drop (z + 1).toNat := by
      rw [← hj, show (z + 1).toNat = j + 1 by omega]
      rw [List.drop_eq_getElem_cons hjl, ← Option.some.inj ((List.getElem?_eq_getElem hjl).symm.trans hl0)]
    rw [hdr] at hR hK
    obtain rfl : l = () := rfl
    have ez : g .w .add .i64 z 1 = z + 1 := by rw [goAdd hg, wrap_small _ (by omega)]
    have hmu : (lenI V).toNat - (z + 1).toNat < (lenI V).toNat - z.toNat := by omega
    have hzz : z.toNat + 1 = (z + 1).toNat := by omega
    have hz1 : 0 ≤ z + 1 := by omega
    have hy : V[z.toNat]? = some (mkRowAsked kc ) := by
      rw [hR, List.getElem?_append_right (by omega), hRl, Nat.sub_self]
      rfl
    have hR2 : V = (R ++ [mkRowAsked kc ]) ++ mkRowsAsked (nxMkAsked kc ) (ls.drop (z + 1).toNat) := by rw [hR, List.append_assoc]; rfl
    have hK2 : K = endMkAsked (nxMkAsked kc ) (ls.drop (z + 1).toNat) := hK
    have hend := endMkAsked_le (ls.drop (z + 1).toNat) (nxMkAsked kc )
    rw [← hK2] at hend
    have hkn : 0 ≤ nxMkAsked kc  := Int.le_trans hkc (by have := endMkAsked_le [()] kc; exact this)
    have hkb : kc + 6 ≤ 1152921504606846976 := by rw [← nxMkAsked_eq]; exact Int.le_trans hend hk1
    clear hK hR hend hdr
    obtain ⟨q0, hq0⟩ : ∃ q, q = kc + 1 := ⟨_, rfl⟩
    obtain ⟨q1, hq1⟩ : ∃ q, q = kc + 2 := ⟨_, rfl⟩
    obtain ⟨q2, hq2⟩ : ∃ q, q = kc + 3 := ⟨_, rfl⟩
    obtain ⟨q3, hq3⟩ : ∃ q, q = kc + 4 := ⟨_, rfl⟩
    obtain ⟨q4, hq4⟩ : ∃ q, q = kc + 5 := ⟨_, rfl⟩
    obtain ⟨q5, hq5⟩ : ∃ q, q = kc + 6 := ⟨_, rfl⟩
    obtain ⟨hnx, g_kc⟩ := numsAsked hkc hkb hq5
    rw [← hnx] at hR2 hK2 hkn
    clear hkb hnx
    have e0 := q_add hg g_kc.1 g_kc.2 (Int.add_zero _).symm hq0 rfl (by decide) (by decide)
    have e1 := q_add hg g_kc.1 g_kc.2 hq0 hq1 rfl (by decide) (by decide)
    have e2 := q_add hg g_kc.1 g_kc.2 hq1 hq2 rfl (by decide) (by decide)
    have e3 := q_add hg g_kc.1 g_kc.2 hq2 hq3 rfl (by decide) (by decide)
    have e4 := q_add hg g_kc.1 g_kc.2 hq3 hq4 rfl (by decide) (by decide)
    have e5 := q_add hg g_kc.1 g_kc.2 hq4 hq5 rfl (by decide) (by decide)
    obtain ⟨t5, ht5⟩ : ∃ t, t = m3 q4 := ⟨_, rfl⟩
    have m5 : g .q .eql (g .w .rem .i64 q4 3) 0 = t5 := by rw [ht5, goRem hg, goEql hg]; rfl
    rw [← rowAsked_eq   ht5 hq0 hq1 hq2 hq3 hq4 hq5] at hy hR2
    replace hy : V[z.toNat]? = some [.imm (.int .i64 kc), .imm (.int .i64 q0), .imm (.int .i64 q1), .imm (.int .i64 q2), .imm (.int .i64 q3), .imm (.bool t5)] := hy
    clear  ht5 hq0 hq1 hq2 hq3 hq4 hq5 g_kc
    refine goX hg _ h0 hy rfl ?_
    cbv
    rw [show g .q .neq kc kc = false by rw [goNeq hg]; simp]
    cbv
    rw [e0]
    cbv
    refine goX hg _ h0 hy rfl ?_
    cbv
    rw [show g .q .neq q0 q0 = false by rw [goNeq hg]; simp]
    cbv
    rw [e1]
    cbv
    refine goX hg _ h0 hy rfl ?_
    cbv
    rw [show g .q .neq q1 q1 = false by rw [goNeq hg]; simp]
    cbv
    rw [e2]
    cbv
    refine goX hg _ h0 hy rfl ?_
    cbv
    rw [show g .q .neq q2 q2 = false by rw [goNeq hg]; simp]
    cbv
    rw [e3]
    cbv
    refine goX hg _ h0 hy rfl ?_
    cbv
    rw [show g .q .neq q3 q3 = false by rw [goNeq hg]; simp]
    cbv
    rw [e4]
    cbv
    refine goX hg _ h0 hy rfl ?_
    cbv
    refine goNZ hg (by decide) ?_
    cbv
    rw [m5]
    cbv
    rw [show g .qb .neq t5 t5 = false by rw [goNeqB hg]; simp]
    cbv
    rw [e5]
    cbv
    rw [ez]
    exact back hB (z + 1, q5) [] (wk0 ⟨rfl, rfl, rfl, trivial⟩) ⟨hz1, ⟨_, hR2, by rw [List.length_append, hRl]; exact hzz⟩, hK2, hkn⟩ hmu
set_option maxHeartbeats 8000000 in
theorem laws_heldMemoS_n (k0 : Int) (ls : List (Nat)) (hl : ls.length ≤ 1048576) (hs0 : ∀ l ∈ ls, l ≤ 1048576) (hk0 : 0 ≤ k0) (hk1 : endMkMemo k0 ls ≤ 1152921504606846976) : PCon Tryz.prog 95 [.c (.view (mkRowsMemo k0 ls)), ai k0] fun res rows => res = .t (ai (endMkMemo k0 ls)) ∧ rows = [] := by
  obtain ⟨V, hV⟩ : ∃ V, V = mkRowsMemo k0 ls := ⟨_, rfl⟩
  have hVl : V.length = ls.length := by rw [hV, mkRowsMemo_len]
  have hV20 : lenI V ≤ 1048576 := by rw [lenI_eq]; omega
  obtain ⟨K, hKe⟩ : ∃ K, K = endMkMemo k0 ls := ⟨_, rfl⟩
  rw [← hKe] at hk1
  rw [← hV, ← hKe]
  refine pcon_run (c := body Tryz.f95) fits Tryz.func95 (by kernel_rfl) (by kernel_rfl) (by rfl) (by kernel_rfl) fun g F hg hF => ?_
  cbv
  refine loop_run hg fits (by kernel_rfl) (fun s : Int × Int => [(0, .t (.c (.view V))), (1, .t (ai s.2)), (5, .t (ai s.1))]) (fun _ => []) (fun s => 0 ≤ s.1 ∧ (∃ R, V = R ++ mkRowsMemo s.2 (ls.drop s.1.toNat) ∧ R.length = s.1.toNat) ∧ K = endMkMemo s.2 (ls.drop s.1.toNat) ∧ 0 ≤ s.2) (fun s => (lenI V).toNat - s.1.toNat)
    (0, k0) [] ⟨Int.le_refl 0, ⟨[], hV, rfl⟩, hKe, hk0⟩ (wk0 ⟨rfl, rfl, rfl, trivial⟩) (fun s B hs hB => ?_)
  obtain ⟨z, kc⟩ := s
  obtain ⟨h0, ⟨R, hR, hRl⟩, hK, hkc⟩ := hs
  simp only at h0 hR hRl hK hkc
  cbv
  cases hc : g .q .lss z (g .ln V)
  · rw [goLss hg, goLn hg, decide_eq_false_iff_not] at hc
    cbv
    have hdr : ls.drop z.toNat = [] := by rw [lenI_eq] at hc; exact List.drop_eq_nil_of_le (by omega)
    rw [hdr] at hK
    exact fin0i hF hK.symm
  · rw [goLss hg, goLn hg, decide_eq_true_eq] at hc
    cbv
    obtain ⟨j, hj⟩ : ∃ j, j = z.toNat := ⟨_, rfl⟩
    have hjl : j < ls.length := by rw [lenI_eq] at hc; omega
    obtain ⟨l, hl0⟩ : ∃ l, ls[j]? = some l := ⟨_, List.getElem?_eq_getElem hjl⟩
    have hdr : ls.drop z.toNat = l :: ls.drop (z + 1).toNat := by
      rw [← hj, show (z + 1).toNat = j + 1 by omega]
      rw [List.drop_eq_getElem_cons hjl, ← Option.some.inj ((List.getElem?_eq_getElem hjl).symm.trans hl0)]
    rw [hdr] at hR hK
    have hl0s := hs0 l (List.mem_of_getElem? hl0)
    obtain ⟨l0, hl0e⟩ : ∃ l0, l0 = l := ⟨_, rfl⟩
    subst hl0e
    have ez : g .w .add .i64 z 1 = z + 1 := by rw [goAdd hg, wrap_small _ (by omega)]
    have hmu : (lenI V).toNat - (z + 1).toNat < (lenI V).toNat - z.toNat := by omega
    have hzz : z.toNat + 1 = (z + 1).toNat := by omega
    have hz1 : 0 ≤ z + 1 := by omega
    have hy : V[z.toNat]? = some (mkRowMemo kc l0) := by
      rw [hR, List.getElem?_append_right (by omega), hRl, Nat.sub_self]
      rfl
    have hR2 : V = (R ++ [mkRowMemo kc l0]) ++ mkRowsMemo (nxMkMemo kc l0) (ls.drop (z + 1).toNat) := by rw [hR, List.append_assoc]; rfl
    have hK2 : K = endMkMemo (nxMkMemo kc l0) (ls.drop (z + 1).toNat) := hK
    have hend := endMkMemo_le (ls.drop (z + 1).toNat) (nxMkMemo kc l0)
    rw [← hK2] at hend
    have hkn : 0 ≤ nxMkMemo kc l0 := Int.le_trans hkc (by have := endMkMemo_le [l0] kc; exact this)
    have hkb : kc + 9 + 5 * ((l0 : Nat) : Int) ≤ 1152921504606846976 := by rw [← nxMkMemo_eq]; exact Int.le_trans hend hk1
    clear hK hR hend hdr
    obtain ⟨q0, hq0⟩ : ∃ q, q = kc + 1 := ⟨_, rfl⟩
    obtain ⟨q1, hq1⟩ : ∃ q, q = kc + 2 := ⟨_, rfl⟩
    obtain ⟨q2, hq2⟩ : ∃ q, q = kc + 3 := ⟨_, rfl⟩
    obtain ⟨q3, hq3⟩ : ∃ q, q = kc + 4 := ⟨_, rfl⟩
    obtain ⟨q4, hq4⟩ : ∃ q, q = kc + 5 := ⟨_, rfl⟩
    obtain ⟨q5, hq5⟩ : ∃ q, q = kc + 6 := ⟨_, rfl⟩
    obtain ⟨q6, hq6⟩ : ∃ q, q = kc + 7 := ⟨_, rfl⟩
    obtain ⟨q7, hq7⟩ : ∃ q, q = kc + 8 := ⟨_, rfl⟩
    obtain ⟨q8, hq8⟩ : ∃ q, q = kc + 9 := ⟨_, rfl⟩
    obtain ⟨q9, hq9⟩ : ∃ q, q = q8 + 5 * ((l0 : Nat) : Int) := ⟨_, rfl⟩
    obtain ⟨hnx, g_kc, g_q9⟩ := numsMemo hkc hkb hq8 hq9
    rw [← hnx] at hR2 hK2 hkn
    clear hkb hnx
    have e0 := q_add hg g_kc.1 g_kc.2 (Int.add_zero _).symm hq0 rfl (by decide) (by decide)
    have e1 := q_add hg g_kc.1 g_kc.2 hq0 hq1 rfl (by decide) (by decide)
    have e2 := q_add hg g_kc.1 g_kc.2 hq1 hq2 rfl (by decide) (by decide)
    have e3 := q_add hg g_kc.1 g_kc.2 hq2 hq3 rfl (by decide) (by decide)
    have e4 := q_add hg g_kc.1 g_kc.2 hq3 hq4 rfl (by decide) (by decide)
    have e5 := q_add hg g_kc.1 g_kc.2 hq4 hq5 rfl (by decide) (by decide)
    obtain ⟨t5, ht5⟩ : ∃ t, t = m3 q4 := ⟨_, rfl⟩
    have m5 : g .q .eql (g .w .rem .i64 q4 3) 0 = t5 := by rw [ht5, goRem hg, goEql hg]; rfl
    have e6 := q_add hg g_kc.1 g_kc.2 hq5 hq6 rfl (by decide) (by decide)
    have e7 := q_add hg g_kc.1 g_kc.2 hq6 hq7 rfl (by decide) (by decide)
    have e8 := q_add hg g_kc.1 g_kc.2 hq7 hq8 rfl (by decide) (by decide)
    have r9 := q_bnd g_kc.1 g_kc.2 hq8 (by decide) (by decide)
    have rn9 := q_bnd g_q9.1 g_q9.2 (Int.add_zero _).symm (by decide) (by decide)
    obtain ⟨M0, hM0⟩ : ∃ M, M = (vw GFrame.c (marksFrame q8 l0)) := ⟨_, rfl⟩
    have ch0 := laws_heldFrameS_a q8 l0 hl0s r9.1 r9.2
    rw [← hM0, ← hq9] at ch0
    have lt9 : g .q .lss q9 0 = false := by rw [goLss hg]; exact decide_eq_false (Int.not_lt.2 rn9.1)
    rw [← rowMemo_eq (B0 := []) hM0 ht5 hq0 hq1 hq2 hq3 hq4 hq5 hq6 hq7 hq8 hq9] at hy hR2
    replace hy : V[z.toNat]? = some [.imm (.int .i64 kc), .imm (.int .i64 q0), .imm (.int .i64 q1), .imm (.int .i64 q2), .imm (.int .i64 q3), .imm (.bool t5), .imm (.int .i64 q5), .imm (.int .i64 q6), .imm (.int .i64 q7), .view M0] := hy
    clear hM0 ht5 hq0 hq1 hq2 hq3 hq4 hq5 hq6 hq7 hq8 hq9 g_kc g_q9
    refine goX hg _ h0 hy rfl ?_
    cbv
    rw [show g .q .neq kc kc = false by rw [goNeq hg]; simp]
    cbv
    rw [e0]
    cbv
    refine goX hg _ h0 hy rfl ?_
    cbv
    rw [show g .q .neq q0 q0 = false by rw [goNeq hg]; simp]
    cbv
    rw [e1]
    cbv
    refine goX hg _ h0 hy rfl ?_
    cbv
    rw [show g .q .neq q1 q1 = false by rw [goNeq hg]; simp]
    cbv
    rw [e2]
    cbv
    refine goX hg _ h0 hy rfl ?_
    cbv
    rw [show g .q .neq q2 q2 = false by rw [goNeq hg]; simp]
    cbv
    rw [e3]
    cbv
    refine goX hg _ h0 hy rfl ?_
    cbv
    rw [show g .q .neq q3 q3 = false by rw [goNeq hg]; simp]
    cbv
    rw [e4]
    cbv
    refine goX hg _ h0 hy rfl ?_
    cbv
    refine goNZ hg (by decide) ?_
    cbv
    rw [m5]
    cbv
    rw [show g .qb .neq t5 t5 = false by rw [goNeqB hg]; simp]
    cbv
    rw [e5]
    cbv
    refine goX hg _ h0 hy rfl ?_
    cbv
    rw [show g .q .neq q5 q5 = false by rw [goNeq hg]; simp]
    cbv
    rw [e6]
    cbv
    refine goX hg _ h0 hy rfl ?_
    cbv
    rw [show g .q .neq q6 q6 = false by rw [goNeq hg]; simp]
    cbv
    rw [e7]
    cbv
    refine goX hg _ h0 hy rfl ?_
    cbv
    rw [show g .q .neq q7 q7 = false by rw [goNeq hg]; simp]
    cbv
    rw [e8]
    cbv
    refine goX hg _ h0 hy rfl ?_
    cbv
    refine call0 hg ch0 rfl rfl ?_
    cbv
    rw [lt9]
    cbv
    rw [ez]
    exact back hB (z + 1, q9) [] (wk0 ⟨rfl, rfl, rfl, trivial⟩) ⟨hz1, ⟨_, hR2, by rw [List.length_append, hRl]; exact hzz⟩, hK2, hkn⟩ hmu
set_option maxHeartbeats 4000000 in
theorem laws_heldKept_n (k0 : Int) (ls0 : List Nat) (ls1 : List Unit) (hl0 : ls0.length ≤ 1048576) (hs0 : ∀ l ∈ ls0, l ≤ 1048576) (hl1 : ls1.length ≤ 1048576) (hk0 : 0 ≤ k0) (hk1 : endMkAsked (endMkMemo k0 ls0) ls1 ≤ 1152921504606846976) :
    PCon Tryz.prog 51 [.agg [.view (mkRowsMemo k0 ls0), .view (mkRowsAsked (endMkMemo k0 ls0) ls1)], ai k0] fun res rows => res = .t (ai (endMkAsked (endMkMemo k0 ls0) ls1)) ∧ rows = [] := by
  have hle := endMkAsked_le ls1 (endMkMemo k0 ls0)
  have hle0 := endMkMemo_le ls0 k0
  have c0 := laws_heldMemoS_n k0 ls0 hl0 hs0 hk0 (Int.le_trans hle hk1)
  have c1 := laws_heldAskedS_n (endMkMemo k0 ls0) ls1 hl1 (Int.le_trans hk0 hle0) hk1
  obtain ⟨R0, hR0⟩ : ∃ R, R = mkRowsMemo k0 ls0 := ⟨_, rfl⟩
  obtain ⟨R1, hR1⟩ : ∃ R, R = mkRowsAsked (endMkMemo k0 ls0) ls1 := ⟨_, rfl⟩
  obtain ⟨K2, hK2⟩ : ∃ K, K = endMkAsked (endMkMemo k0 ls0) ls1 := ⟨_, rfl⟩
  obtain ⟨K1, hK1⟩ : ∃ K, K = endMkMemo k0 ls0 := ⟨_, rfl⟩
  rw [← hR1, ← hK2, ← hK1] at c1
  rw [← hR0, ← hK1] at c0
  rw [← hR0, ← hR1, ← hK2]
  rw [← hK1] at hle0 hle hK2
  rw [← hK2] at hle
  refine pcon_run (c := body Tryz.f51) fits Tryz.func51 (by kernel_rfl) (by kernel_rfl) (by rfl) (by kernel_rfl) fun g F hg hF => ?_
  cbv
  have n1 : g .q .lss K1 0 = false := by rw [goLss hg]; exact decide_eq_false (by omega)
  have n2 : g .q .lss K2 0 = false := by rw [goLss hg]; exact decide_eq_false (by omega)
  refine call0 hg c0 rfl rfl ?_
  cbv
  rw [n1]
  cbv
  refine call0 hg c1 rfl rfl ?_
  cbv
  rw [n2]
  cbv
  exact fin0i hF rfl
theorem okMkMemo_of (m : NMemo) (hs : m.small) : okMkMemo m.ac m.box.frames.length := by
  obtain ⟨a0, ⟨a1, a2⟩, ⟨a3, a4⟩, a5, ⟨a6, a7, a8, a9⟩⟩ := m
  exact ⟨_, _, _, _, _, _, _, _, _, _, rfl, by simp [vw], by simpa [vw] using hs.1, vw_imm _ _, vw_k (c := GFrame.c) (k := 5) fun _ => rfl⟩
theorem fgM_small (ns : List NNode) (x : NKept) (n : Int) (hs : x.small) : NKept.small ⟨fgM ns x.memos n, x.asked⟩ := by
  obtain ⟨ms, qs⟩ := x
  obtain ⟨hm, u0, hq, -⟩ := hs
  have h1 : ∀ y ∈ fgM ns ms n, y ∈ ms := fun y hy => by
    unfold fgM at hy
    split at hy
    · exact (List.mem_filter.1 hy).1
    · exact hy
  have h2 : (fgM ns ms n).length ≤ ms.length := by
    unfold fgM
    split
    · exact List.length_filter_le _ _
    · exact Nat.le_refl _
  exact ⟨Nat.le_trans h2 hm, fun y hy => u0 y (h1 y hy), hq, trivial⟩
theorem GrowT.step2 {k : Nat} {V es : List (List AC)} {z : Int} {lo : Nat} {y v : List AC} (h : GrowT k V es z lo) (hv : V[z.toNat]? = some v) (hy : y.map vwC = v) (hk : y.length = k) (hb : y.all bareF = true) (hn : NewB lo (fpL y)) (hd : ∀ b ∈ fpE es, b ∉ fpL y) : GrowT k V (es ++ [y]) (z + 1) lo := by
  have h0 := h.z0
  have hl := (List.getElem?_eq_some_iff.1 hv).1
  refine ⟨by omega, by rw [lenI_eq]; omega, ⟨fun e he => ?_, fun e he => ?_, ?_, ?_⟩⟩
  · rcases List.mem_append.1 he with h1 | h1
    · exact h.cp.kk e h1
    · rw [List.mem_singleton.1 h1]; exact hk
  · rcases List.mem_append.1 he with h1 | h1
    · exact h.cp.bare e h1
    · rw [List.mem_singleton.1 h1]; exact hb
  · rw [show (z + 1).toNat = z.toNat + 1 by omega, List.take_add_one, hv, List.map_append, h.cp.eq, ← hy]; rfl
  · rw [fpE_app, show fpE [y] = fpL y from List.append_nil _]
    exact ⟨List.nodup_append.2 ⟨h.cp.new.1, hn.1, fun a h1 b h2 he => by subst he; exact hd a h1 h2⟩, fun b hb' => (List.mem_append.1 hb').elim (h.cp.new.2 b) (hn.2 b)⟩
theorem fv_imm {b : Nat} {es : List (List AC)} (hi : immE es = true) : (AC.fv (hd1 b es ++ fpE es) (es.map (·.map vwC))) = .fv (hd1 b es) es := by rw [imm_vw hi, imm_fp hi, List.append_nil]
theorem imm_bareE {es : List (List AC)} (hi : immE es = true) : ∀ e ∈ es, e.all bareF = true := fun e he => List.all_eq_true.2 fun c hc => by obtain ⟨u, rfl⟩ := imm_of hi e he c hc; rfl
section
variable {P : Program} {n0 N : Nat} {g : Gd}
theorem callTR1 {β : BP} (hg : g = G0 P n0 N) {h : EH} {f : FuncId} {args args' : List AT} {K : AV → EH → Prop} {t k : Nat} {Q : Nat → List (List AC) → Prop} (hc : TCon P f args' fun lo res rows => ∃ E, res = .t (.agg [.own 0]) ∧ rows = [⟨t, k, E⟩] ∧ Q lo E) (ha : dwA args args')
    (hp : ∀ lo E, Q lo E → plainE E = true)
    (hK : ∀ lo E, BP.lo ≤ lo → (∀ b ∈ fpH h, b < lo) → (∀ b ∈ fpA args, b < lo) → Q lo E → K (.t (.agg [.own (lenL h)])) (h ++ [.rw ⟨t, k, E⟩])) : g .C f h args K :=
  callT hg hc ha fun lo res rows h1 h2 h3 ⟨E, hres, hrows, hQ⟩ => by
    subst hres hrows
    refine ⟨[.rw ⟨t, k, E⟩], ?_, ?_⟩
    · simp only [List.map_cons, List.map_nil, shift_row (ab := ⟨t, k, E⟩) (hp lo E hQ)]; rfl
    · have := hK lo E h1 h2 h3 hQ
      rw [lenL_eq] at this
      rw [toH_len]; exact this
theorem finTR1 {β : BP} {F : List AT → EH → Prop} {Post : AV → List AB → Prop} {r : Nat} {eh : EH} {ab : AB} (hF : F = fun xs eh => FinT Post xs (toH eh)) (hr : nth eh r = some (.rw ab)) (hp : plainE ab.es = true) (hpost : Post (.t (.agg [.own 0])) [ab]) : F [.agg [.own r]] eh := by
  subst hF
  refine .inl ⟨.t (.agg [.own 0]), [.live ab], [some r], ⟨Nat.zero_le _, fun i hi => absurd hi (Nat.not_lt_zero _), by simp, ?_, ?_⟩, [ab], rfl, hpost⟩
  · simp only [rnH, List.getElem?_cons_zero, nth_rw hr]
    exact ⟨fun h => absurd h (Nat.not_lt_zero _), ⟨by first | trivial | rfl, by first | trivial | rfl, .inl ⟨by first | trivial | rfl, hp⟩⟩, trivial⟩
  · exact ⟨.inr ⟨rfl, trivial⟩, trivial⟩
end
theorem impl_copyInts_t (xs : List Int) (hx : xs.length ≤ 1048576) : TCon Tryz.prog 106 [.c (.view (vw intC xs))] fun lo res rows => (∃ b, res = .t (.c (.fv b (vw intC xs))) ∧ NewB lo b) ∧ plainV res = true ∧ rows = [] := by
  obtain ⟨V, hV⟩ : ∃ V, V = vw intC xs := ⟨_, rfl⟩
  have hVl : V.length = xs.length := by rw [hV, vw_length]
  have iV : immE V = true := by rw [hV]; exact vw_imm _ _
  have kV : ∀ y ∈ V, y.length = 1 := by rw [hV]; exact vw_k (c := intC) (k := 1) fun _ => rfl
  have dV : ∀ y ∈ V, y.all dat = true := by rw [hV]; exact vw_dat
  rw [← hV]
  refine tcon_run ([]) ([]) (c := body Tryz.f106) fits Tryz.func106 (by kernel_rfl) (by kernel_rfl) (by rfl) (by kernel_rfl) fun β g eff hd F heff hhd hg hF => ?_
  cbv
  refine goNV hg kV (by decide) (by rw [hVl]; exact hx) ?_
  cbv
  rw [goAp hg, List.nil_append]
  exact finTS hF fun bl hbl => ⟨[.c (.fv (hd1 (bl 0) V) V)], .c (ress_immRow (r := 0) (ab := ⟨_, _, V⟩) rfl iV) .nil, ⟨_, rfl, blk_new hbl (r := 0) (ab := ⟨_, _, V⟩) rfl⟩, rfl, rfl⟩
theorem impl_copyFrames_t (xs : List GFrame) (hx : xs.length ≤ 1048576) : TCon Tryz.prog 85 [.c (.view (vw GFrame.c xs))] fun lo res rows => (∃ b, res = .t (.c (.fv b (vw GFrame.c xs))) ∧ NewB lo b) ∧ plainV res = true ∧ rows = [] := by
  obtain ⟨V, hV⟩ : ∃ V, V = vw GFrame.c xs := ⟨_, rfl⟩
  have hVl : V.length = xs.length := by rw [hV, vw_length]
  have iV : immE V = true := by rw [hV]; exact vw_imm _ _
  have kV : ∀ y ∈ V, y.length = 5 := by rw [hV]; exact vw_k (c := GFrame.c) (k := 5) fun _ => rfl
  have dV : ∀ y ∈ V, y.all dat = true := by rw [hV]; exact vw_dat
  rw [← hV]
  refine tcon_run ([]) ([]) (c := body Tryz.f85) fits Tryz.func85 (by kernel_rfl) (by kernel_rfl) (by rfl) (by kernel_rfl) fun β g eff hd F heff hhd hg hF => ?_
  cbv
  refine goNV hg kV (by decide) (by rw [hVl]; exact hx) ?_
  cbv
  rw [goAp hg, List.nil_append]
  exact finTS hF fun bl hbl => ⟨[.c (.fv (hd1 (bl 0) V) V)], .c (ress_immRow (r := 0) (ab := ⟨_, _, V⟩) rfl iV) .nil, ⟨_, rfl, blk_new hbl (r := 0) (ab := ⟨_, _, V⟩) rfl⟩, rfl, rfl⟩
theorem impl_copyTable_t (xs : List GRule) (hx : xs.length ≤ 1048576) : TCon Tryz.prog 107 [.agg [.view (vw GRule.c xs)]] fun lo res rows => (∃ b, res = .t (.agg [.fv b (vw GRule.c xs)]) ∧ NewB lo b) ∧ plainV res = true ∧ rows = [] := by
  obtain ⟨V, hV⟩ : ∃ V, V = vw GRule.c xs := ⟨_, rfl⟩
  have hVl : V.length = xs.length := by rw [hV, vw_length]
  have iV : immE V = true := by rw [hV]; exact vw_imm _ _
  have kV : ∀ y ∈ V, y.length = 3 := by rw [hV]; exact vw_k (c := GRule.c) (k := 3) fun _ => rfl
  have dV : ∀ y ∈ V, y.all dat = true := by rw [hV]; exact vw_dat
  rw [← hV]
  refine tcon_run ([]) ([]) (c := body Tryz.f107) fits Tryz.func107 (by kernel_rfl) (by kernel_rfl) (by rfl) (by kernel_rfl) fun β g eff hd F heff hhd hg hF => ?_
  cbv
  refine goNV hg kV (by decide) (by rw [hVl]; exact hx) ?_
  cbv
  rw [goAp hg, List.nil_append]
  exact finTS hF fun bl hbl => ⟨[.agg [.fv (hd1 (bl 2) V) V]], .agg (.cons (ress_immRow (r := 2) (ab := ⟨_, _, V⟩) rfl iV) .nil) .nil, ⟨_, rfl, blk_new hbl (r := 2) (ab := ⟨_, _, V⟩) rfl⟩, rfl, rfl⟩
set_option maxHeartbeats 16000000 in
theorem impl_copyTree_t (ns : List NNode) (hl : ns.length ≤ 1048576) (hs : ∀ y ∈ ns, NNode.small y) : TCon Tryz.prog 61 [.agg [.view (vwA NNode.ac ns)]] fun lo res rows => ∃ E, res = .t (.agg [.own 0]) ∧ rows = [⟨106, 64, E⟩] ∧ CopyE 64 E (vwA NNode.ac ns) lo := by
  obtain ⟨M, hM⟩ : ∃ M, M = vwA NNode.ac ns := ⟨_, rfl⟩
  have hMl : M.length = ns.length := by rw [hM, vwA_length]
  have hMx : lenI M = (ns.length : Int) := by rw [lenI_eq, hMl]
  have hM2 : lenI M ≤ 1048576 := by omega
  rw [← hM]
  refine tcon_run ([]) ([]) (c := body Tryz.f61) fits Tryz.func61 (by kernel_rfl) (by kernel_rfl) (by rfl) (by kernel_rfl) fun β g eff hd F heff hhd hg hF => ?_
  cbv
  refine loop_runW4 [] [] heff hhd hg fits (by kernel_rfl) (fun s : Int × List (List AC) => [(2, .t (.c (.ptr 0 0 0))), (3, .t (.c (.ptr 1 0 0))), (7, .t (.c (.view M))), (8, .t (ai (g .ln M))), (9, .t (ai (s.1)))]) (fun s => [.bx 43 1 [.imm (.slice none 0 0)], .bx 43 1 [.own 2], .rw ⟨106, 64, s.2⟩]) (fun s => GrowT 64 M s.2 s.1 β.lo) (fun s => (lenI M).toNat - s.1.toNat)
    (0, []) (GrowT.start 64 M β.lo) (Wk.weak (wkG [some 1, some 2, none] ⟨rfl, rfl, rfl, rfl, rfl, trivial⟩ ⟨⟨_, _, rfl, rfl, rfl, rfl, .inl ⟨rfl, rfl⟩⟩, ⟨_, _, rfl, rfl, rfl, rfl, .inr ⟨⟨rfl, trivial⟩, trivial⟩⟩, ⟨_, rfl, rfl⟩, trivial⟩ (by decide) no_lt)) (fun s B hs' hB => ?_)
  obtain ⟨z, es⟩ := s
  simp only at hs'
  have h0 := hs'.z0
  have hlen := hs'.len
  cbv
  cases hc : g .q .lss z (g .ln M)
  · rw [goLss hg, goLn hg, decide_eq_false_iff_not] at hc
    cbv
    have hd := hs'.done hc
    exact finTR1 hF rfl (bare_plainE hd.bare) ⟨es, rfl, rfl, hd⟩
  rw [goLss hg, goLn hg, decide_eq_true_eq] at hc
  cbv
  obtain ⟨x, hx⟩ := at_z (xs := ns) h0 (lt_viaN hMx hc)
  have hsx := hs x (List.mem_of_getElem? hx)
  have hyy : M[z.toNat]? = some x.ac := by rw [hM]; exact vwA_at hx
  obtain ⟨a0, a1, ⟨a2, a3, a4, a5, a6, a7, a8, a9, a10, a11, a12, ⟨a13, a14⟩, ⟨a15, a16⟩, ⟨a17, a18⟩, ⟨a19, a20⟩, ⟨a21, a22⟩, ⟨a23, a24⟩, ⟨a25, a26⟩, a27, ⟨⟨a28, a29⟩, ⟨a30, a31⟩, ⟨a32, a33⟩, ⟨a34, a35⟩, ⟨a36, a37⟩, ⟨a38, a39⟩⟩, ⟨⟨a40, a41⟩, ⟨a42, a43⟩, ⟨a44, a45⟩, ⟨a46, a47⟩, ⟨a48, a49⟩, ⟨a50, a51⟩⟩, ⟨a52, a53, a54, a55⟩, ⟨a56, a57, a58, a59⟩, a60, a61⟩, a62, ⟨a63⟩⟩ := x
  have c1 := impl_copyInts_t a1 hsx.1
  have c2 := impl_copyTable_t a63 hsx.2.1
  replace hyy : M[z.toNat]? = some [.imm (.int .i64 a0), .view (vw intC a1), .imm (.int .i64 a2), .imm (.int .i64 a3), .imm (.int .i64 a4), .imm (.int .i64 a5), .imm (.int .i64 a6), .imm (.int .i64 a7), .imm (.bool a8), .imm (.bool a9), .imm (.int .i64 a10), .imm (.int .i64 a11), .imm (.int .i64 a12), .imm (.int .i64 a13), .imm (.int .i64 a14), .imm (.int .i64 a15), .imm (.int .i64 a16), .imm (.int .i64 a17), .imm (.int .i64 a18), .imm (.int .i64 a19), .imm (.int .i64 a20), .imm (.int .i64 a21), .imm (.int .i64 a22), .imm (.int .i64 a23), .imm (.int .i64 a24), .imm (.int .i64 a25), .imm (.int .i64 a26), .imm (.int .i64 a27), .imm (.int .i64 a28), .imm (.int .i64 a29), .imm (.int .i64 a30), .imm (.int .i64 a31), .imm (.int .i64 a32), .imm (.int .i64 a33), .imm (.int .i64 a34), .imm (.int .i64 a35), .imm (.int .i64 a36), .imm (.int .i64 a37), .imm (.int .i64 a38), .imm (.int .i64 a39), .imm (.int .i64 a40), .imm (.int .i64 a41), .imm (.int .i64 a42), .imm (.int .i64 a43), .imm (.int .i64 a44), .imm (.int .i64 a45), .imm (.int .i64 a46), .imm (.int .i64 a47), .imm (.int .i64 a48), .imm (.int .i64 a49), .imm (.int .i64 a50), .imm (.int .i64 a51), .imm (.int .i64 a52), .imm (.int .i64 a53), .imm (.int .i64 a54), .imm (.int .i64 a55), .imm (.int .i64 a56), .imm (.int .i64 a57), .imm (.int .i64 a58), .imm (.int .i64 a59), .imm (.int .i64 a60), .imm (.int .i64 a61), .imm (.bool a62), .view (vw GRule.c a63)] := hyy
  obtain ⟨Va1, hVa1⟩ : ∃ V, V = vw intC a1 := ⟨_, rfl⟩
  obtain ⟨Va63, hVa63⟩ : ∃ V, V = vw GRule.c a63 := ⟨_, rfl⟩
  rw [← hVa1, ← hVa63] at hyy
  rw [← hVa1] at c1
  rw [← hVa63] at c2
  refine goX hg _ h0 hyy rfl ?_
  cbv
  refine callT0 hg c1 (dwA_same rfl) (fun lo1 res p1 p2 p3 ⟨b1, hres, hn1⟩ => ?_)
  subst hres
  have hlt1 : ∀ b ∈ fpE es, b < lo1 := fun b hb => p2 b (fpH_row _ 2 rfl b hb)
  clear p2 p3
  cbv
  refine callT0 hg c2 (dwA_same rfl) (fun lo2 res q1 q2 q3 ⟨b2, hres, hn2⟩ => ?_)
  subst hres
  have hlt2 : ∀ b ∈ fpE es, b < lo2 := fun b hb => q2 b (fpH_row _ 2 rfl b hb)
  have hlt3 : ∀ b ∈ b1, b < lo2 := fun b hb => q2 b (by simp [fpH, fpL, fpC, hb])
  clear q2 q3
  cbv
  refine goNAt hg rfl (by decide) (by omega) ?_
  cbv
  have e1 : g .w .add .i64 z 1 = z + 1 := by rw [goAdd hg, wrap_small _ (by omega)]
  rw [e1, goAp hg]
  have hs2 := hs'.step2 (y := [.imm (.int .i64 a0), .fv b1 Va1, .imm (.int .i64 a2), .imm (.int .i64 a3), .imm (.int .i64 a4), .imm (.int .i64 a5), .imm (.int .i64 a6), .imm (.int .i64 a7), .imm (.bool a8), .imm (.bool a9), .imm (.int .i64 a10), .imm (.int .i64 a11), .imm (.int .i64 a12), .imm (.int .i64 a13), .imm (.int .i64 a14), .imm (.int .i64 a15), .imm (.int .i64 a16), .imm (.int .i64 a17), .imm (.int .i64 a18), .imm (.int .i64 a19), .imm (.int .i64 a20), .imm (.int .i64 a21), .imm (.int .i64 a22), .imm (.int .i64 a23), .imm (.int .i64 a24), .imm (.int .i64 a25), .imm (.int .i64 a26), .imm (.int .i64 a27), .imm (.int .i64 a28), .imm (.int .i64 a29), .imm (.int .i64 a30), .imm (.int .i64 a31), .imm (.int .i64 a32), .imm (.int .i64 a33), .imm (.int .i64 a34), .imm (.int .i64 a35), .imm (.int .i64 a36), .imm (.int .i64 a37), .imm (.int .i64 a38), .imm (.int .i64 a39), .imm (.int .i64 a40), .imm (.int .i64 a41), .imm (.int .i64 a42), .imm (.int .i64 a43), .imm (.int .i64 a44), .imm (.int .i64 a45), .imm (.int .i64 a46), .imm (.int .i64 a47), .imm (.int .i64 a48), .imm (.int .i64 a49), .imm (.int .i64 a50), .imm (.int .i64 a51), .imm (.int .i64 a52), .imm (.int .i64 a53), .imm (.int .i64 a54), .imm (.int .i64 a55), .imm (.int .i64 a56), .imm (.int .i64 a57), .imm (.int .i64 a58), .imm (.int .i64 a59), .imm (.int .i64 a60), .imm (.int .i64 a61), .imm (.bool a62), .fv b2 Va63]) hyy rfl rfl rfl (by
    have := (hn1.mono p1).app q1 hn2 hlt3
    simpa [fpL, fpC] using this) (fun b hb => by
    have h1 := hlt1 b hb
    have h2 := hlt2 b hb
    simp only [fpL, fpC, List.flatMap_cons, List.flatMap_nil, List.append_nil, List.nil_append, List.mem_append, not_or]
    exact ⟨fun h => by have := hn1.2 b h; omega, fun h => by have := hn2.2 b h; omega⟩)
  rw [hB]
  exact ⟨(z + 1, _), hs2, by show (lenI M).toNat - (z + 1).toNat < (lenI M).toNat - z.toNat; omega, Wk.weak (wkG [some 0, some 1, some 5] ⟨rfl, rfl, rfl, rfl, rfl, trivial⟩ ⟨⟨_, _, rfl, rfl, rfl, rfl, .inl ⟨rfl, rfl⟩⟩, ⟨_, _, rfl, rfl, rfl, rfl, .inr ⟨⟨rfl, trivial⟩, trivial⟩⟩, ⟨_, _, rfl, rfl, rfl, rfl, .inl ⟨rfl, bare_plainE hs2.cp.bare⟩⟩, trivial⟩ (by decide) no_lt)⟩
set_option maxHeartbeats 16000000 in
theorem spec_l10Copy_t (ns : List NNode) (hl : ns.length ≤ 1048576) (hs : ∀ y ∈ ns, NNode.small y) : TCon Tryz.prog 77 [.agg [.view (vwA NNode.ac ns)]] fun lo res rows => ∃ E, res = .t (.agg [.own 0]) ∧ rows = [⟨106, 64, E⟩] ∧ CopyE 64 E (vwA NNode.ac ns) lo := by
  obtain ⟨M, hM⟩ : ∃ M, M = vwA NNode.ac ns := ⟨_, rfl⟩
  have hMl : M.length = ns.length := by rw [hM, vwA_length]
  have hMx : lenI M = (ns.length : Int) := by rw [lenI_eq, hMl]
  have hM2 : lenI M ≤ 1048576 := by omega
  rw [← hM]
  refine tcon_run ([(6, .hand), (7, .hand)]) ([]) (c := body Tryz.f77) fits Tryz.func77 (by kernel_rfl) (by kernel_rfl) (by rfl) (by kernel_rfl) fun β g eff hd F heff hhd hg hF => ?_
  cbv
  refine loop_runW4 [(6, .hand), (7, .hand)] [] heff hhd hg fits (by kernel_rfl) (fun s : Int × List (List AC) => [(1, .t (.c (.ptr 3 0 0))), (2, .t (.c (.ptr 0 0 0))), (3, .t (.c (.ptr 1 0 0))), (4, .t (ai (s.1)))]) (fun s => [.bx 43 1 [.imm (.slice none 0 0)], .bx 43 1 [.own 2], .rw ⟨106, 64, s.2⟩, .bx 43 1 [.view M]]) (fun s => GrowT 64 M s.2 s.1 β.lo) (fun s => (lenI M).toNat - s.1.toNat)
    (0, []) (GrowT.start 64 M β.lo) (Wk.weak (wkG [some 1, some 2, none, some 0] ⟨rfl, rfl, rfl, rfl, trivial⟩ ⟨⟨_, _, rfl, rfl, rfl, rfl, .inl ⟨rfl, rfl⟩⟩, ⟨_, _, rfl, rfl, rfl, rfl, .inr ⟨⟨rfl, trivial⟩, trivial⟩⟩, ⟨_, rfl, rfl⟩, ⟨_, _, rfl, rfl, rfl, rfl, .inl ⟨rfl, rfl⟩⟩, trivial⟩ (by decide) no_lt)) (fun s B hs' hB => ?_)
  obtain ⟨z, es⟩ := s
  simp only at hs'
  have h0 := hs'.z0
  have hlen := hs'.len
  cbv
  cases hc : g .q .lss z (g .ln M)
  · rw [goLss hg, goLn hg, decide_eq_false_iff_not] at hc
    cbv
    have hd := hs'.done hc
    exact finTR1 hF rfl (bare_plainE hd.bare) ⟨es, rfl, rfl, hd⟩
  rw [goLss hg, goLn hg, decide_eq_true_eq] at hc
  cbv
  obtain ⟨x, hx⟩ := at_z (xs := ns) h0 (lt_viaN hMx hc)
  have hsx := hs x (List.mem_of_getElem? hx)
  have hyy : M[z.toNat]? = some x.ac := by rw [hM]; exact vwA_at hx
  obtain ⟨a0, a1, ⟨a2, a3, a4, a5, a6, a7, a8, a9, a10, a11, a12, ⟨a13, a14⟩, ⟨a15, a16⟩, ⟨a17, a18⟩, ⟨a19, a20⟩, ⟨a21, a22⟩, ⟨a23, a24⟩, ⟨a25, a26⟩, a27, ⟨⟨a28, a29⟩, ⟨a30, a31⟩, ⟨a32, a33⟩, ⟨a34, a35⟩, ⟨a36, a37⟩, ⟨a38, a39⟩⟩, ⟨⟨a40, a41⟩, ⟨a42, a43⟩, ⟨a44, a45⟩, ⟨a46, a47⟩, ⟨a48, a49⟩, ⟨a50, a51⟩⟩, ⟨a52, a53, a54, a55⟩, ⟨a56, a57, a58, a59⟩, a60, a61⟩, a62, ⟨a63⟩⟩ := x
  replace hyy : M[z.toNat]? = some [.imm (.int .i64 a0), .view (vw intC a1), .imm (.int .i64 a2), .imm (.int .i64 a3), .imm (.int .i64 a4), .imm (.int .i64 a5), .imm (.int .i64 a6), .imm (.int .i64 a7), .imm (.bool a8), .imm (.bool a9), .imm (.int .i64 a10), .imm (.int .i64 a11), .imm (.int .i64 a12), .imm (.int .i64 a13), .imm (.int .i64 a14), .imm (.int .i64 a15), .imm (.int .i64 a16), .imm (.int .i64 a17), .imm (.int .i64 a18), .imm (.int .i64 a19), .imm (.int .i64 a20), .imm (.int .i64 a21), .imm (.int .i64 a22), .imm (.int .i64 a23), .imm (.int .i64 a24), .imm (.int .i64 a25), .imm (.int .i64 a26), .imm (.int .i64 a27), .imm (.int .i64 a28), .imm (.int .i64 a29), .imm (.int .i64 a30), .imm (.int .i64 a31), .imm (.int .i64 a32), .imm (.int .i64 a33), .imm (.int .i64 a34), .imm (.int .i64 a35), .imm (.int .i64 a36), .imm (.int .i64 a37), .imm (.int .i64 a38), .imm (.int .i64 a39), .imm (.int .i64 a40), .imm (.int .i64 a41), .imm (.int .i64 a42), .imm (.int .i64 a43), .imm (.int .i64 a44), .imm (.int .i64 a45), .imm (.int .i64 a46), .imm (.int .i64 a47), .imm (.int .i64 a48), .imm (.int .i64 a49), .imm (.int .i64 a50), .imm (.int .i64 a51), .imm (.int .i64 a52), .imm (.int .i64 a53), .imm (.int .i64 a54), .imm (.int .i64 a55), .imm (.int .i64 a56), .imm (.int .i64 a57), .imm (.int .i64 a58), .imm (.int .i64 a59), .imm (.int .i64 a60), .imm (.int .i64 a61), .imm (.bool a62), .view (vw GRule.c a63)] := hyy
  obtain ⟨Va1, hVa1⟩ : ∃ Va1, Va1 = vw intC a1 := ⟨_, rfl⟩
  have hVa1l : Va1.length = a1.length := by rw [hVa1, vw_length]
  have iVa1 : immE Va1 = true := by rw [hVa1]; exact vw_imm _ _
  have kVa1 : ∀ y ∈ Va1, y.length = 1 := by rw [hVa1]; exact vw_k (c := intC) (k := 1) fun _ => rfl
  have dVa1 : ∀ y ∈ Va1, y.all dat = true := by rw [hVa1]; exact vw_dat
  obtain ⟨Va63, hVa63⟩ : ∃ Va63, Va63 = vw GRule.c a63 := ⟨_, rfl⟩
  have hVa63l : Va63.length = a63.length := by rw [hVa63, vw_length]
  have iVa63 : immE Va63 = true := by rw [hVa63]; exact vw_imm _ _
  have kVa63 : ∀ y ∈ Va63, y.length = 3 := by rw [hVa63]; exact vw_k (c := GRule.c) (k := 3) fun _ => rfl
  have dVa63 : ∀ y ∈ Va63, y.all dat = true := by rw [hVa63]; exact vw_dat
  rw [← hVa1, ← hVa63] at hyy
  refine goX hg _ h0 hyy rfl ?_
  cbv
  refine hand_nm hhd fits [] [] 6 Va1 (imm_bareE iVa1) rfl (by kernel_rfl) (fun g2 eff2 hd2 B2 he2 hh2 hg2 hB2 => ?_)
  cbv
  refine goNV0 hg2 kVa1 (by decide) (by rw [hVa1l]; exact hsx.1) ?_
  cbv
  rw [goAp hg2, List.nil_append]
  refine hB2 _ _ _ _ rfl rfl (fun lo1 b1 p1 hn1 => ?_)
  rw [fv_imm iVa1]
  obtain ⟨c1, hc1⟩ : ∃ c, c = hd1 b1 Va1 := ⟨_, rfl⟩
  rw [← hc1] at hn1 ⊢
  clear hc1
  refine ⟨[(1, .t (.c (.ptr 3 0 0))), (2, .t (.c (.ptr 0 0 0))), (3, .t (.c (.ptr 1 0 0))), (4, .t (ai (z))), (5, .t (.c (.ptr 4 0 0)))], [.bx 43 1 [.imm (.slice none 0 0)], .bx 43 1 [.own 2], .rw ⟨106, 64, es⟩, .bx 43 1 [.view M], .bx 106 64 [.imm (.int .i64 a0), .fv c1 Va1, .imm (.int .i64 a2), .imm (.int .i64 a3), .imm (.int .i64 a4), .imm (.int .i64 a5), .imm (.int .i64 a6), .imm (.int .i64 a7), .imm (.bool a8), .imm (.bool a9), .imm (.int .i64 a10), .imm (.int .i64 a11), .imm (.int .i64 a12), .imm (.int .i64 a13), .imm (.int .i64 a14), .imm (.int .i64 a15), .imm (.int .i64 a16), .imm (.int .i64 a17), .imm (.int .i64 a18), .imm (.int .i64 a19), .imm (.int .i64 a20), .imm (.int .i64 a21), .imm (.int .i64 a22), .imm (.int .i64 a23), .imm (.int .i64 a24), .imm (.int .i64 a25), .imm (.int .i64 a26), .imm (.int .i64 a27), .imm (.int .i64 a28), .imm (.int .i64 a29), .imm (.int .i64 a30), .imm (.int .i64 a31), .imm (.int .i64 a32), .imm (.int .i64 a33), .imm (.int .i64 a34), .imm (.int .i64 a35), .imm (.int .i64 a36), .imm (.int .i64 a37), .imm (.int .i64 a38), .imm (.int .i64 a39), .imm (.int .i64 a40), .imm (.int .i64 a41), .imm (.int .i64 a42), .imm (.int .i64 a43), .imm (.int .i64 a44), .imm (.int .i64 a45), .imm (.int .i64 a46), .imm (.int .i64 a47), .imm (.int .i64 a48), .imm (.int .i64 a49), .imm (.int .i64 a50), .imm (.int .i64 a51), .imm (.int .i64 a52), .imm (.int .i64 a53), .imm (.int .i64 a54), .imm (.int .i64 a55), .imm (.int .i64 a56), .imm (.int .i64 a57), .imm (.int .i64 a58), .imm (.int .i64 a59), .imm (.int .i64 a60), .imm (.int .i64 a61), .imm (.bool a62), .view Va63], .gn, .gn], ⟨.inl rfl, .inl rfl, .inl rfl, .inl rfl, .inl rfl, trivial⟩, ⟨⟨rfl, rfl, .inl rfl, trivial⟩, ⟨rfl, rfl, .inl rfl, trivial⟩, .inl rfl, ⟨rfl, rfl, .inl rfl, trivial⟩, ⟨rfl, rfl, ⟨.inl rfl, .inr (.inl ⟨rfl, rfl⟩), .inl rfl, .inl rfl, .inl rfl, .inl rfl, .inl rfl, .inl rfl, .inl rfl, .inl rfl, .inl rfl, .inl rfl, .inl rfl, .inl rfl, .inl rfl, .inl rfl, .inl rfl, .inl rfl, .inl rfl, .inl rfl, .inl rfl, .inl rfl, .inl rfl, .inl rfl, .inl rfl, .inl rfl, .inl rfl, .inl rfl, .inl rfl, .inl rfl, .inl rfl, .inl rfl, .inl rfl, .inl rfl, .inl rfl, .inl rfl, .inl rfl, .inl rfl, .inl rfl, .inl rfl, .inl rfl, .inl rfl, .inl rfl, .inl rfl, .inl rfl, .inl rfl, .inl rfl, .inl rfl, .inl rfl, .inl rfl, .inl rfl, .inl rfl, .inl rfl, .inl rfl, .inl rfl, .inl rfl, .inl rfl, .inl rfl, .inl rfl, .inl rfl, .inl rfl, .inl rfl, .inl rfl, .inl rfl, trivial⟩⟩, trivial, rfl, trivial⟩, ?_⟩
  clear hB2 hg2 hh2 he2
  cbv
  refine hand_nm hhd fits [] [] 8 Va63 (imm_bareE iVa63) rfl (by kernel_rfl) (fun g2 eff2 hd2 B2 he2 hh2 hg2 hB2 => ?_)
  cbv
  refine goNV0 hg2 kVa63 (by decide) (by rw [hVa63l]; exact hsx.2.1) ?_
  cbv
  rw [goAp hg2, List.nil_append]
  refine hB2 _ _ _ _ rfl rfl (fun lo2 b2 q1 hn2 => ?_)
  rw [fv_imm iVa63]
  obtain ⟨c2, hc2⟩ : ∃ c, c = hd1 b2 Va63 := ⟨_, rfl⟩
  rw [← hc2] at hn2 ⊢
  clear hc2
  refine ⟨[(1, .t (.c (.ptr 3 0 0))), (2, .t (.c (.ptr 0 0 0))), (3, .t (.c (.ptr 1 0 0))), (4, .t (ai (z))), (5, .t (.c (.ptr 4 0 0)))], [.bx 43 1 [.imm (.slice none 0 0)], .bx 43 1 [.own 2], .rw ⟨106, 64, es⟩, .bx 43 1 [.view M], .bx 106 64 [.imm (.int .i64 a0), .fv c1 Va1, .imm (.int .i64 a2), .imm (.int .i64 a3), .imm (.int .i64 a4), .imm (.int .i64 a5), .imm (.int .i64 a6), .imm (.int .i64 a7), .imm (.bool a8), .imm (.bool a9), .imm (.int .i64 a10), .imm (.int .i64 a11), .imm (.int .i64 a12), .imm (.int .i64 a13), .imm (.int .i64 a14), .imm (.int .i64 a15), .imm (.int .i64 a16), .imm (.int .i64 a17), .imm (.int .i64 a18), .imm (.int .i64 a19), .imm (.int .i64 a20), .imm (.int .i64 a21), .imm (.int .i64 a22), .imm (.int .i64 a23), .imm (.int .i64 a24), .imm (.int .i64 a25), .imm (.int .i64 a26), .imm (.int .i64 a27), .imm (.int .i64 a28), .imm (.int .i64 a29), .imm (.int .i64 a30), .imm (.int .i64 a31), .imm (.int .i64 a32), .imm (.int .i64 a33), .imm (.int .i64 a34), .imm (.int .i64 a35), .imm (.int .i64 a36), .imm (.int .i64 a37), .imm (.int .i64 a38), .imm (.int .i64 a39), .imm (.int .i64 a40), .imm (.int .i64 a41), .imm (.int .i64 a42), .imm (.int .i64 a43), .imm (.int .i64 a44), .imm (.int .i64 a45), .imm (.int .i64 a46), .imm (.int .i64 a47), .imm (.int .i64 a48), .imm (.int .i64 a49), .imm (.int .i64 a50), .imm (.int .i64 a51), .imm (.int .i64 a52), .imm (.int .i64 a53), .imm (.int .i64 a54), .imm (.int .i64 a55), .imm (.int .i64 a56), .imm (.int .i64 a57), .imm (.int .i64 a58), .imm (.int .i64 a59), .imm (.int .i64 a60), .imm (.int .i64 a61), .imm (.bool a62), .fv c2 Va63], .gn, .gn, .gn, .gn], ⟨.inl rfl, .inl rfl, .inl rfl, .inl rfl, .inl rfl, trivial⟩, ⟨⟨rfl, rfl, .inl rfl, trivial⟩, ⟨rfl, rfl, .inl rfl, trivial⟩, .inl rfl, ⟨rfl, rfl, .inl rfl, trivial⟩, ⟨rfl, rfl, ⟨.inl rfl, .inl rfl, .inl rfl, .inl rfl, .inl rfl, .inl rfl, .inl rfl, .inl rfl, .inl rfl, .inl rfl, .inl rfl, .inl rfl, .inl rfl, .inl rfl, .inl rfl, .inl rfl, .inl rfl, .inl rfl, .inl rfl, .inl rfl, .inl rfl, .inl rfl, .inl rfl, .inl rfl, .inl rfl, .inl rfl, .inl rfl, .inl rfl, .inl rfl, .inl rfl, .inl rfl, .inl rfl, .inl rfl, .inl rfl, .inl rfl, .inl rfl, .inl rfl, .inl rfl, .inl rfl, .inl rfl, .inl rfl, .inl rfl, .inl rfl, .inl rfl, .inl rfl, .inl rfl, .inl rfl, .inl rfl, .inl rfl, .inl rfl, .inl rfl, .inl rfl, .inl rfl, .inl rfl, .inl rfl, .inl rfl, .inl rfl, .inl rfl, .inl rfl, .inl rfl, .inl rfl, .inl rfl, .inl rfl, .inr (.inl ⟨rfl, rfl⟩), trivial⟩⟩, trivial, trivial, trivial, rfl, trivial⟩, ?_⟩
  clear hB2 hg2 hh2 he2
  have hlt1 : ∀ b ∈ fpE es, b < lo1 := fun b hb => hn1.old b (fpH_row _ 2 rfl b hb)
  have hlt2 : ∀ b ∈ fpE es, b < lo2 := fun b hb => hn2.old b (fpH_row _ 2 rfl b hb)
  have hlt3 : ∀ b ∈ c1, b < lo2 := fun b hb => hn2.old b (by simp [fpH, fpL, fpC, hb])
  have n1 : NewB lo1 c1 := ⟨hn1.nd, hn1.ge⟩
  have n2 : NewB lo2 c2 := ⟨hn2.nd, hn2.ge⟩
  clear hn1 hn2
  cbv
  refine goNAt hg rfl (by decide) (by omega) ?_
  cbv
  have e1 : g .w .add .i64 z 1 = z + 1 := by rw [goAdd hg, wrap_small _ (by omega)]
  rw [e1, goAp hg]
  have hs2 := hs'.step2 (y := [.imm (.int .i64 a0), .fv c1 Va1, .imm (.int .i64 a2), .imm (.int .i64 a3), .imm (.int .i64 a4), .imm (.int .i64 a5), .imm (.int .i64 a6), .imm (.int .i64 a7), .imm (.bool a8), .imm (.bool a9), .imm (.int .i64 a10), .imm (.int .i64 a11), .imm (.int .i64 a12), .imm (.int .i64 a13), .imm (.int .i64 a14), .imm (.int .i64 a15), .imm (.int .i64 a16), .imm (.int .i64 a17), .imm (.int .i64 a18), .imm (.int .i64 a19), .imm (.int .i64 a20), .imm (.int .i64 a21), .imm (.int .i64 a22), .imm (.int .i64 a23), .imm (.int .i64 a24), .imm (.int .i64 a25), .imm (.int .i64 a26), .imm (.int .i64 a27), .imm (.int .i64 a28), .imm (.int .i64 a29), .imm (.int .i64 a30), .imm (.int .i64 a31), .imm (.int .i64 a32), .imm (.int .i64 a33), .imm (.int .i64 a34), .imm (.int .i64 a35), .imm (.int .i64 a36), .imm (.int .i64 a37), .imm (.int .i64 a38), .imm (.int .i64 a39), .imm (.int .i64 a40), .imm (.int .i64 a41), .imm (.int .i64 a42), .imm (.int .i64 a43), .imm (.int .i64 a44), .imm (.int .i64 a45), .imm (.int .i64 a46), .imm (.int .i64 a47), .imm (.int .i64 a48), .imm (.int .i64 a49), .imm (.int .i64 a50), .imm (.int .i64 a51), .imm (.int .i64 a52), .imm (.int .i64 a53), .imm (.int .i64 a54), .imm (.int .i64 a55), .imm (.int .i64 a56), .imm (.int .i64 a57), .imm (.int .i64 a58), .imm (.int .i64 a59), .imm (.int .i64 a60), .imm (.int .i64 a61), .imm (.bool a62), .fv c2 Va63]) hyy rfl rfl rfl (by
    have := (n1.mono p1).app q1 n2 hlt3
    simpa [fpL, fpC] using this) (fun b hb => by
    have h1 := hlt1 b hb
    have h2 := hlt2 b hb
    simp only [fpL, fpC, List.flatMap_cons, List.flatMap_nil, List.append_nil, List.nil_append, List.mem_append, not_or]
    exact ⟨fun h => by have := n1.2 b h; omega, fun h => by have := n2.2 b h; omega⟩)
  rw [hB]
  skip
  exact ⟨(z + 1, _), hs2, by show (lenI M).toNat - (z + 1).toNat < (lenI M).toNat - z.toNat; omega, Wk.weak (wkG [some 0, some 1, some 10, some 3] ⟨rfl, rfl, rfl, rfl, trivial⟩ ⟨⟨_, _, rfl, rfl, rfl, rfl, .inl ⟨rfl, rfl⟩⟩, ⟨_, _, rfl, rfl, rfl, rfl, .inr ⟨⟨rfl, trivial⟩, trivial⟩⟩, ⟨_, _, rfl, rfl, rfl, rfl, .inl ⟨rfl, bare_plainE hs2.cp.bare⟩⟩, ⟨_, _, rfl, rfl, rfl, rfl, .inl ⟨rfl, rfl⟩⟩, trivial⟩ (by decide) no_lt)⟩
theorem impl_copyKept_f (x : NKept) (hs : x.small) : TCon Tryz.prog 84 [.agg x.ac] fun lo res rows => (∃ b0 b1, res = .t (.agg [.fv b0 (vwA NMemo.ac x.memos), .fv b1 (vw GAsked.c x.asked)]) ∧ NewB lo (b0 ++ b1)) ∧ plainV res = true ∧ rows = [] :=
  tcon_seal (impl_copyKept_t x hs) fun lo res rows ⟨E, h1, h2, h3⟩ => by
    subst h1 h2
    exact ⟨[.agg [.own 0, .own 1]], rfl, fun bl hbl => ⟨[.agg [.fv (hd1 (bl 0) E ++ fpE E) (vwA NMemo.ac x.memos), .fv (hd1 (bl 1) (vw GAsked.c x.asked)) (vw GAsked.c x.asked)]], .agg (.cons (ress_copy rfl h3) (.cons (ress_immRow (r := 1) (ab := ⟨_, _, vw GAsked.c x.asked⟩) rfl (vw_imm _ _)) .nil)) .nil, ⟨⟨_, _, rfl, blk_two hbl (r := 0) (q := 1) (ab := ⟨_, _, E⟩) (ab' := ⟨_, _, vw GAsked.c x.asked⟩) rfl rfl (by decide) h3.new⟩, rfl, rfl⟩⟩⟩
theorem spec_l21Copy_f (x : NKept) (hs : x.small) : TCon Tryz.prog 78 [.agg x.ac] fun lo res rows => (∃ b0 b1, res = .t (.agg [.fv b0 (vwA NMemo.ac x.memos), .fv b1 (vw GAsked.c x.asked)]) ∧ NewB lo (b0 ++ b1)) ∧ plainV res = true ∧ rows = [] :=
  tcon_seal (spec_l21Copy_t x hs) fun lo res rows ⟨E, h1, h2, h3⟩ => by
    subst h1 h2
    exact ⟨[.agg [.own 0, .own 1]], rfl, fun bl hbl => ⟨[.agg [.fv (hd1 (bl 0) E ++ fpE E) (vwA NMemo.ac x.memos), .fv (hd1 (bl 1) (vw GAsked.c x.asked)) (vw GAsked.c x.asked)]], .agg (.cons (ress_copy rfl h3) (.cons (ress_immRow (r := 1) (ab := ⟨_, _, vw GAsked.c x.asked⟩) rfl (vw_imm _ _)) .nil)) .nil, ⟨⟨_, _, rfl, blk_two hbl (r := 0) (q := 1) (ab := ⟨_, _, E⟩) (ab' := ⟨_, _, vw GAsked.c x.asked⟩) rfl rfl (by decide) h3.new⟩, rfl, rfl⟩⟩⟩
theorem impl_copyTree_f (ns : List NNode) (hl : ns.length ≤ 1048576) (hs : ∀ y ∈ ns, NNode.small y) : TCon Tryz.prog 61 [.agg [.view (vwA NNode.ac ns)]] fun lo res rows => (∃ b0, res = .t (.agg [.fv b0 (vwA NNode.ac ns)]) ∧ NewB lo b0) ∧ plainV res = true ∧ rows = [] :=
  tcon_seal (impl_copyTree_t ns hl hs) fun lo res rows ⟨E, h1, h2, h3⟩ => by
    subst h1 h2
    exact ⟨[.agg [.own 0]], rfl, fun bl hbl => ⟨[.agg [.fv (hd1 (bl 0) E ++ fpE E) (vwA NNode.ac ns)]], .agg (.cons (ress_copy rfl h3) .nil) .nil, ⟨⟨_, rfl, blk_row hbl (r := 0) (ab := ⟨_, _, E⟩) rfl h3.new⟩, rfl, rfl⟩⟩⟩
theorem spec_l10Copy_f (ns : List NNode) (hl : ns.length ≤ 1048576) (hs : ∀ y ∈ ns, NNode.small y) : TCon Tryz.prog 77 [.agg [.view (vwA NNode.ac ns)]] fun lo res rows => (∃ b0, res = .t (.agg [.fv b0 (vwA NNode.ac ns)]) ∧ NewB lo b0) ∧ plainV res = true ∧ rows = [] :=
  tcon_seal (spec_l10Copy_t ns hl hs) fun lo res rows ⟨E, h1, h2, h3⟩ => by
    subst h1 h2
    exact ⟨[.agg [.own 0]], rfl, fun bl hbl => ⟨[.agg [.fv (hd1 (bl 0) E ++ fpE E) (vwA NNode.ac ns)]], .agg (.cons (ress_copy rfl h3) .nil) .nil, ⟨⟨_, rfl, blk_row hbl (r := 0) (ab := ⟨_, _, E⟩) rfl h3.new⟩, rfl, rfl⟩⟩⟩
set_option maxHeartbeats 8000000 in
theorem impl_copyEngine_t (x : NEngine) (hs : x.small) : TCon Tryz.prog 42 [.agg x.ac] fun lo res rows => (∃ b0 b1 b2 b3, res = .t (.agg [.fv b0 (vwA NNode.ac x.tree.nodes), .fv b1 (vwA NMemo.ac x.kept.memos), .fv b2 (vw GAsked.c x.kept.asked), .fv b3 (vw GFrame.c x.frames), .imm (.int .i64 x.root), .imm (.int .i64 x.wide), .imm (.int .i64 x.high), .imm (.bool x.rtl)]) ∧ NewB lo (b0 ++ b1 ++ b2 ++ b3)) ∧ plainV res = true ∧ rows = [] := by
  obtain ⟨⟨ns⟩, ⟨ms, qs⟩, fs, x0, x1, x2, x3⟩ := x
  obtain ⟨s0, s1, s2, s3, s4, s5, -⟩ := hs
  have c0 := impl_copyTree_f ns s0 s1
  have c1 := impl_copyKept_f ⟨ms, qs⟩ ⟨s2, s3, s4, trivial⟩
  have c2 := impl_copyFrames_t fs s5
  show TCon _ _ [.agg [.view (vwA NNode.ac ns), .view (vwA NMemo.ac ms), .view (vw GAsked.c qs), .view (vw GFrame.c fs), .imm (.int .i64 x0), .imm (.int .i64 x1), .imm (.int .i64 x2), .imm (.bool x3)]] (fun lo res rows => (∃ b0 b1 b2 b3, res = .t (.agg [.fv b0 (vwA NNode.ac ns), .fv b1 (vwA NMemo.ac ms), .fv b2 (vw GAsked.c qs), .fv b3 (vw GFrame.c fs), .imm (.int .i64 x0), .imm (.int .i64 x1), .imm (.int .i64 x2), .imm (.bool x3)]) ∧ NewB lo (b0 ++ b1 ++ b2 ++ b3)) ∧ plainV res = true ∧ rows = [])
  obtain ⟨N, hN⟩ : ∃ V, V = vwA NNode.ac ns := ⟨_, rfl⟩
  obtain ⟨M, hM⟩ : ∃ V, V = vwA NMemo.ac ms := ⟨_, rfl⟩
  obtain ⟨Q, hQ⟩ : ∃ V, V = vw GAsked.c qs := ⟨_, rfl⟩
  obtain ⟨V, hV⟩ : ∃ V, V = vw GFrame.c fs := ⟨_, rfl⟩
  replace c1 : TCon Tryz.prog 84 [.agg [.view M, .view Q]] (fun lo res rows => (∃ b0 b1, res = .t (.agg [.fv b0 M, .fv b1 Q]) ∧ NewB lo (b0 ++ b1)) ∧ plainV res = true ∧ rows = []) := by rw [hM, hQ]; exact c1
  rw [← hN] at c0
  rw [← hV] at c2
  rw [← hN, ← hM, ← hQ, ← hV]
  refine tcon_run ([]) ([]) (c := body Tryz.f42) fits Tryz.func42 (by kernel_rfl) (by kernel_rfl) (by rfl) (by kernel_rfl) fun β g eff hd F heff hhd hg hF => ?_
  cbv
  refine callT0 hg c0 (dwA_same rfl) (fun l0 res p1 p2 p3 ⟨b0, hres, hn0⟩ => ?_)
  subst hres
  clear p2 p3
  cbv
  refine callT0 hg c1 (dwA_same rfl) (fun l1 res q1 q2 q3 ⟨b1, b2, hres, hn1⟩ => ?_)
  subst hres
  have u1 : ∀ b ∈ b0, b < l1 := fun b hb => q2 b (by simp [fpH, fpL, fpC, hb])
  clear q2 q3
  cbv
  refine callT0 hg c2 (dwA_same rfl) (fun l2 res r1 r2 r3 ⟨b3, hres, hn2⟩ => ?_)
  subst hres
  have u2 : ∀ b ∈ b0 ++ (b1 ++ b2), b < l2 := fun b hb => r2 b (by simpa [fpH, fpL, fpC] using hb)
  clear r2 r3
  cbv
  refine finT0 hF rfl ⟨⟨b0, b1, b2, b3, rfl, ?_⟩, rfl, rfl⟩
  have := ((hn0.mono p1).app q1 hn1 u1).app r1 hn2 u2
  simpa [List.append_assoc] using this
set_option maxHeartbeats 8000000 in
theorem spec_l22Copy_t (x : NEngine) (hs : x.small) : TCon Tryz.prog 34 [.agg x.ac] fun lo res rows => (∃ b0 b1 b2 b3, res = .t (.agg [.fv b0 (vwA NNode.ac x.tree.nodes), .fv b1 (vwA NMemo.ac x.kept.memos), .fv b2 (vw GAsked.c x.kept.asked), .fv b3 (vw GFrame.c x.frames), .imm (.int .i64 x.root), .imm (.int .i64 x.wide), .imm (.int .i64 x.high), .imm (.bool x.rtl)]) ∧ NewB lo (b0 ++ b1 ++ b2 ++ b3)) ∧ plainV res = true ∧ rows = [] := by
  obtain ⟨⟨ns⟩, ⟨ms, qs⟩, fs, x0, x1, x2, x3⟩ := x
  obtain ⟨s0, s1, s2, s3, s4, s5, -⟩ := hs
  have c0 := spec_l10Copy_f ns s0 s1
  have c1 := spec_l21Copy_f ⟨ms, qs⟩ ⟨s2, s3, s4, trivial⟩
  show TCon _ _ [.agg [.view (vwA NNode.ac ns), .view (vwA NMemo.ac ms), .view (vw GAsked.c qs), .view (vw GFrame.c fs), .imm (.int .i64 x0), .imm (.int .i64 x1), .imm (.int .i64 x2), .imm (.bool x3)]] (fun lo res rows => (∃ b0 b1 b2 b3, res = .t (.agg [.fv b0 (vwA NNode.ac ns), .fv b1 (vwA NMemo.ac ms), .fv b2 (vw GAsked.c qs), .fv b3 (vw GFrame.c fs), .imm (.int .i64 x0), .imm (.int .i64 x1), .imm (.int .i64 x2), .imm (.bool x3)]) ∧ NewB lo (b0 ++ b1 ++ b2 ++ b3)) ∧ plainV res = true ∧ rows = [])
  obtain ⟨N, hN⟩ : ∃ V, V = vwA NNode.ac ns := ⟨_, rfl⟩
  obtain ⟨M, hM⟩ : ∃ V, V = vwA NMemo.ac ms := ⟨_, rfl⟩
  obtain ⟨Q, hQ⟩ : ∃ V, V = vw GAsked.c qs := ⟨_, rfl⟩
  obtain ⟨V, hV⟩ : ∃ V, V = vw GFrame.c fs := ⟨_, rfl⟩
  have hVl : V.length = fs.length := by rw [hV, vw_length]
  have iV : immE V = true := by rw [hV]; exact vw_imm _ _
  have kV : ∀ y ∈ V, y.length = 5 := by rw [hV]; exact vw_k (c := GFrame.c) (k := 5) fun _ => rfl
  have dV : ∀ y ∈ V, y.all dat = true := by rw [hV]; exact vw_dat
  replace c1 : TCon Tryz.prog 78 [.agg [.view M, .view Q]] (fun lo res rows => (∃ b0 b1, res = .t (.agg [.fv b0 M, .fv b1 Q]) ∧ NewB lo (b0 ++ b1)) ∧ plainV res = true ∧ rows = []) := by rw [hM, hQ]; exact c1
  rw [← hN] at c0
  rw [← hN, ← hM, ← hQ, ← hV]
  refine tcon_run ([(3, .hand)]) ([]) (c := body Tryz.f34) fits Tryz.func34 (by kernel_rfl) (by kernel_rfl) (by rfl) (by kernel_rfl) fun β g eff hd F heff hhd hg hF => ?_
  cbv
  refine callT0 hg c0 (dwA_same rfl) (fun l0 res p1 p2 p3 ⟨b0, hres, hn0⟩ => ?_)
  subst hres
  clear p2 p3
  cbv
  refine callT0 hg c1 (dwA_same rfl) (fun l1 res q1 q2 q3 ⟨b1, b2, hres, hn1⟩ => ?_)
  subst hres
  have u1 : ∀ b ∈ b0, b < l1 := fun b hb => q2 b (by simp [fpH, fpL, fpC, hb])
  clear q2 q3
  cbv
  refine hand_nm hhd fits [] [] 3 V (imm_bareE iV) rfl (by kernel_rfl) (fun g2 eff2 hd2 B2 he2 hh2 hg2 hB2 => ?_)
  cbv
  refine goNV0 hg2 kV (by decide) (by rw [hVl]; exact s5) ?_
  cbv
  rw [goAp hg2, List.nil_append]
  refine hB2 _ _ _ _ rfl rfl (fun l2 b3 r1 hn2 => ?_)
  rw [fv_imm iV]
  obtain ⟨c3, hc3⟩ : ∃ c, c = hd1 b3 V := ⟨_, rfl⟩
  rw [← hc3] at hn2 ⊢
  clear hc3
  refine ⟨[(1, .t (.c (.ptr 0 0 0))), (2, .t (.c (.ptr 1 0 0)))], [.bx 50 8 [.fv b0 N, .fv b1 M, .fv b2 Q, .fv c3 V, .imm (.int .i64 x0), .imm (.int .i64 x1), .imm (.int .i64 x2), .imm (.bool x3)], .bx 50 8 [.imm (.slice none 0 0), .imm (.slice none 0 0), .imm (.slice none 0 0), .imm (.slice none 0 0), .imm (.int .i64 0), .imm (.int .i64 0), .imm (.int .i64 0), .imm (.bool false)], .gn, .gn], ⟨.inl rfl, .inl rfl, trivial⟩, ⟨⟨rfl, rfl, ⟨.inl rfl, .inl rfl, .inl rfl, .inr (.inl ⟨rfl, rfl⟩), .inl rfl, .inl rfl, .inl rfl, .inl rfl, trivial⟩⟩, ⟨rfl, rfl, ⟨.inl rfl, .inl rfl, .inl rfl, .inl rfl, .inl rfl, .inl rfl, .inl rfl, .inl rfl, trivial⟩⟩, trivial, rfl, trivial⟩, ?_⟩
  clear hB2 hg2 hh2 he2
  have u2 : ∀ b ∈ b0 ++ (b1 ++ b2), b < l2 := fun b hb => hn2.old b (by simpa [fpH, fpL, fpC] using hb)
  have n2 : NewB l2 c3 := ⟨hn2.nd, hn2.ge⟩
  cbv
  refine finT0 hF rfl ⟨⟨b0, b1, b2, c3, rfl, ?_⟩, rfl, rfl⟩
  have := ((hn0.mono p1).app q1 hn1 u1).app r1 n2 u2
  simpa [List.append_assoc] using this
def nodeA (u : Int) (K R : List (List AC)) (s : GStyle) (m : Bool) : List AC := .imm (.int .i64 u) :: .view K :: (lc (GStyle.c s) ++ [.imm (.bool m), .view R])
def nodeE (u : Int) (K R : List (List AC)) (s : GStyle) (m : Bool) (b1 b2 : List Nat) : List AC := .imm (.int .i64 u) :: .fv b1 K :: (lc (GStyle.c s) ++ [.imm (.bool m), .fv b2 R])
theorem imm_cells : ∀ (L e : List AC), e.all bareF = true → e.map vwC = L → (L.all fun c => match c with | .imm _ => true | _ => false) = true → e = L
  | [], e, _, h, _ => by cases e <;> first | rfl | simp at h
  | c :: L, e, hb, h, hi => by
    cases e with
    | nil => simp at h
    | cons d e =>
      simp only [List.map_cons, List.cons.injEq] at h
      simp only [List.all_cons, Bool.and_eq_true] at hb hi
      have h1 := imm_cells L e hb.2 h.2 hi.2
      cases c <;> first | (cases hi.1; done) | skip
      rw [bare_imm hb.1 h.1, h1]
theorem style_imm (s : GStyle) : ((lc (GStyle.c s)).all fun c => match c with | .imm _ => true | _ => false) = true := rfl
theorem CopyE.node {lo : Nat} {E M : List (List AC)} (h : CopyE 64 E M lo) {j : Nat} {u : Int} {K R : List (List AC)} {s : GStyle} {m : Bool} (hj : M[j]? = some (nodeA u K R s m)) : ∃ b1 b2, E[j]? = some (nodeE u K R s m b1 b2) := by
  have hl := (List.getElem?_eq_some_iff.1 hj).1
  have hE : j < E.length := by rw [h.len]; exact hl
  obtain ⟨e, he⟩ : ∃ e, E[j]? = some e := ⟨_, List.getElem?_eq_getElem hE⟩
  have hev : e.map vwC = nodeA u K R s m := by
    have h1 : (E.map (·.map vwC))[j]? = some (e.map vwC) := by rw [List.getElem?_map, he]; rfl
    rw [h.eq, hj] at h1
    exact (Option.some.inj h1).symm
  have heb := h.bare e (List.mem_of_getElem? he)
  unfold nodeA at hev
  cases e with
  | nil => simp at hev
  | cons c0 e => cases e with
    | nil => simp at hev
    | cons c1 r =>
      rw [List.map_cons, List.map_cons, List.cons.injEq, List.cons.injEq] at hev
      rw [List.all_cons, List.all_cons, Bool.and_eq_true, Bool.and_eq_true] at heb
      obtain ⟨h0, h1, h2⟩ := hev
      obtain ⟨r1, r2, hr, k1, k2⟩ := List.map_eq_append_iff.1 h2
      subst hr
      rw [List.all_append, Bool.and_eq_true] at heb
      have hr1 := imm_cells _ _ heb.2.2.1 k1 (style_imm s)
      cases r2 with
      | nil => cases k2
      | cons c2 r2 => cases r2 with
        | nil => simp at k2
        | cons c3 r2 =>
          have hn : r2 = [] := by
            have := congrArg List.length k2
            cases r2 with
            | nil => rfl
            | cons _ _ => simp at this
          subst hn
          simp only [List.map_cons, List.map_nil, List.cons.injEq, and_true] at k2
          simp only [List.all_cons, List.all_nil, Bool.and_true, Bool.and_eq_true] at heb
          obtain ⟨b1, hb1⟩ := bare_fv heb.2.1 h1
          obtain ⟨b2, hb2⟩ := bare_fv heb.2.2.2.2 k2.2
          have e0 := bare_imm heb.1 h0
          have e2 := bare_imm heb.2.2.2.1 k2.1
          refine ⟨b1, b2, ?_⟩
          rw [he, e0, hb1, hr1, e2, hb2]; rfl
theorem CopyE.set {k lo : Nat} {E V : List (List AC)} (h : CopyE k E V lo) {j : Nat} {e y v : List AC} (he : E[j]? = some e) (hy : y.map vwC = v) (hk : y.length = k) (hb : y.all bareF = true) (hf : fpL y = fpL e) : CopyE k (E.set j y) (V.set j v) lo :=
  ⟨fun x hx => (List.mem_or_eq_of_mem_set hx).elim (h.kk x) fun h1 => by rw [h1]; exact hk, fun x hx => (List.mem_or_eq_of_mem_set hx).elim (h.bare x) fun h1 => by rw [h1]; exact hb, by rw [List.map_set, h.eq, hy], by rw [fpE_same he hf]; exact h.new⟩
theorem vwA_set (ns : List NNode) (j : Nat) (x : NNode) : vwA NNode.ac (ns.set j x) = (vwA NNode.ac ns).set j x.ac := by simp [vwA]
theorem NewB.perm {lo : Nat} {a b : List Nat} (h : NewB lo a) (hp : a.Perm b) : NewB lo b := ⟨hp.nodup_iff.1 h.1, fun x hx => h.2 x (hp.mem_iff.2 hx)⟩
theorem NewB.sub {lo : Nat} {a b : List Nat} (h : NewB lo b) (hp : a.Sublist b) : NewB lo a := ⟨h.1.sublist hp, fun x hx => h.2 x (hp.subset hx)⟩
def engR (b0 b1 b2 b3 : List Nat) : NEngine → List AC
  | ⟨⟨ns⟩, ⟨ms, qs⟩, fs, x0, x1, x2, x3⟩ => [.fv b0 (vwA NNode.ac ns), .fv b1 (vwA NMemo.ac ms), .fv b2 (vw GAsked.c qs), .fv b3 (vw GFrame.c fs), .imm (.int .i64 x0), .imm (.int .i64 x1), .imm (.int .i64 x2), .imm (.bool x3)]
def kpM (ns : List NNode) (ms : List NMemo) (code n : Int) : List NMemo := if code = 0 then fgM ns ms n else ms
def setT : NEngine → List NNode → Int → Int → NEngine
  | ⟨⟨_⟩, ⟨ms, qs⟩, fs, x0, x1, x2, x3⟩, ns, code, n => ⟨⟨ns⟩, ⟨kpM ns ms code n, qs⟩, fs, x0, x1, x2, x3⟩
set_option maxHeartbeats 16000000 in
theorem impl_changed_t (x : NEngine) (hs : x.small) (bt : List Nat) (ns' : List NNode) (hl : ns'.length ≤ 1048576) (hs' : ∀ y ∈ ns', NNode.small y) (code n : Int) (hc : code ≠ 0 → ns' = x.tree.nodes) : TCon Tryz.prog 60 [.agg x.ac, .agg [.fv bt (vwA NNode.ac ns')], ai code, ai n] fun lo res rows => (∃ b0 b1 b2 b3, res = .tup [.agg (engR b0 b1 b2 b3 (setT x ns' code n)), ai code] ∧ ∀ l0, NewB l0 bt → l0 ≤ lo → (∀ b ∈ bt, b < lo) → NewB l0 (b0 ++ b1 ++ b2 ++ b3)) ∧ plainV res = true ∧ rows = [] := by
  have c0 := impl_copyEngine_t x hs
  obtain ⟨⟨ns⟩, ⟨ms, qs⟩, fs, x0, x1, x2, x3⟩ := x
  obtain ⟨s0, s1, s2, s3, s4, s5, -⟩ := hs
  have c1 := impl_Forget_t ns' hl hs' ⟨ms, qs⟩ ⟨s2, s3, s4, trivial⟩ n
  obtain ⟨N, hN⟩ : ∃ V, V = vwA NNode.ac ns := ⟨_, rfl⟩
  obtain ⟨N', hN'⟩ : ∃ V, V = vwA NNode.ac ns' := ⟨_, rfl⟩
  obtain ⟨M, hM⟩ : ∃ V, V = vwA NMemo.ac ms := ⟨_, rfl⟩
  obtain ⟨M', hM'⟩ : ∃ V, V = vwA NMemo.ac (fgM ns' ms n) := ⟨_, rfl⟩
  obtain ⟨Q, hQ⟩ : ∃ V, V = vw GAsked.c qs := ⟨_, rfl⟩
  obtain ⟨V, hV⟩ : ∃ V, V = vw GFrame.c fs := ⟨_, rfl⟩
  replace c0 : TCon Tryz.prog 42 [.agg [.view N, .view M, .view Q, .view V, .imm (.int .i64 x0), .imm (.int .i64 x1), .imm (.int .i64 x2), .imm (.bool x3)]] (fun lo res rows => (∃ b0 b1 b2 b3, res = .t (.agg [.fv b0 N, .fv b1 M, .fv b2 Q, .fv b3 V, .imm (.int .i64 x0), .imm (.int .i64 x1), .imm (.int .i64 x2), .imm (.bool x3)]) ∧ NewB lo (b0 ++ b1 ++ b2 ++ b3)) ∧ plainV res = true ∧ rows = []) := by rw [hN, hM, hQ, hV]; exact c0
  replace c1 : TCon Tryz.prog 105 [.agg [.view N'], .agg [.view M, .view Q], ai n] (fun lo res rows => (∃ b0 b1, res = .t (.agg [.fv b0 M', .fv b1 Q]) ∧ NewB lo (b0 ++ b1)) ∧ plainV res = true ∧ rows = []) := by rw [hN', hM, hQ, hM']; exact c1
  have e0 : code = 0 → ∀ b0 b1 b2 b3 : List Nat, engR b0 b1 b2 b3 (setT ⟨⟨ns⟩, ⟨ms, qs⟩, fs, x0, x1, x2, x3⟩ ns' code n) = [.fv b0 N', .fv b1 M', .fv b2 Q, .fv b3 V, .imm (.int .i64 x0), .imm (.int .i64 x1), .imm (.int .i64 x2), .imm (.bool x3)] := fun h b0 b1 b2 b3 => by rw [hN', hM', hQ, hV]; simp only [setT, engR, kpM, if_pos h]
  have e1 : code ≠ 0 → ∀ b0 b1 b2 b3 : List Nat, engR b0 b1 b2 b3 (setT ⟨⟨ns⟩, ⟨ms, qs⟩, fs, x0, x1, x2, x3⟩ ns' code n) = [.fv b0 N, .fv b1 M, .fv b2 Q, .fv b3 V, .imm (.int .i64 x0), .imm (.int .i64 x1), .imm (.int .i64 x2), .imm (.bool x3)] := fun h b0 b1 b2 b3 => by rw [hN, hM, hQ, hV]; have h2 : ns' = ns := hc h; subst h2; simp only [setT, engR, kpM, if_neg h]
  rw [← hN']
  show TCon _ _ [.agg [.view (vwA NNode.ac ns), .view (vwA NMemo.ac ms), .view (vw GAsked.c qs), .view (vw GFrame.c fs), .imm (.int .i64 x0), .imm (.int .i64 x1), .imm (.int .i64 x2), .imm (.bool x3)], _, _, _] _
  rw [← hN, ← hM, ← hQ, ← hV]
  obtain ⟨E, hE⟩ : ∃ E : List Nat → List Nat → List Nat → List Nat → List AC, E = fun b0 b1 b2 b3 => engR b0 b1 b2 b3 (setT ⟨⟨ns⟩, ⟨ms, qs⟩, fs, x0, x1, x2, x3⟩ ns' code n) := ⟨_, rfl⟩
  have hEE : ∀ b0 b1 b2 b3, engR b0 b1 b2 b3 (setT ⟨⟨ns⟩, ⟨ms, qs⟩, fs, x0, x1, x2, x3⟩ ns' code n) = E b0 b1 b2 b3 := fun _ _ _ _ => by rw [hE]
  simp only [hEE] at e0 e1 ⊢
  clear hEE hE hN hN' hM hM' hQ hV s0 s1 s2 s3 s4 s5 hl hs' hc
  refine tcon_run ([]) ([]) (c := body Tryz.f60) fits Tryz.func60 (by kernel_rfl) (by kernel_rfl) (by rfl) (by kernel_rfl) fun β g eff hd F heff hhd hg hF => ?_
  cbv
  refine callT0 hg c0 (dwA_same rfl) (fun l1 res p1 p2 p3 ⟨b0, b1, b2, b3, hres, hn⟩ => ?_)
  subst hres
  have u0 : ∀ b ∈ bt, b < l1 := fun b hb => p2 b (by simp [fpH, fpL, fpC, hb])
  clear p2 p3
  cbv
  cases hC : g .q .eql code 0
  case false =>
    rw [goEql hg, beq_eq_false_iff_ne] at hC
    cbv
    refine finT0 hF rfl ⟨⟨b0, b1, b2, b3, by rw [e1 hC]; rfl, fun l0 h1 h2 h3 => hn.mono (Nat.le_trans h2 p1)⟩, rfl, rfl⟩
  rw [goEql hg, beq_iff_eq] at hC
  cbv
  refine callT0 hg c1 ⟨⟨.inl rfl, trivial⟩, ⟨rfl, rfl, trivial⟩, rfl, trivial⟩ (fun l2 res q1 q2 q3 ⟨b4, b5, hres, hn2⟩ => ?_)
  subst hres
  have u1 : ∀ b ∈ b3, b < l2 := fun b hb => q2 b (by simp [fpH, fpL, fpC, hb])
  clear q2 q3
  cbv
  refine finT0 hF rfl ⟨⟨bt, b4, b5, b3, by rw [e0 hC]; rfl, fun l0 h1 h2 h3 => ?_⟩, rfl, rfl⟩
  have hb3 : NewB l1 b3 := hn.sub (List.sublist_append_right _ _)
  have h4 := (hb3.mono p1).app q1 hn2 u1
  exact (h1.app h2 h4 h3).perm (List.perm_iff_count.2 fun a => by simp only [List.count_append]; omega)
set_option maxHeartbeats 16000000 in
theorem spec_l22Forget_t (x : NEngine) (hs : x.small) (d0 d1 d2 d3 : List Nat) (n code : Int) : TCon Tryz.prog 56 [.agg (engR d0 d1 d2 d3 x), ai n, ai code] fun lo res rows => (∃ b0 b1 b2 b3, res = .tup [.agg (engR b0 b1 b2 b3 (setT x x.tree.nodes code n)), ai code] ∧ ∀ l0, NewB l0 (d0 ++ d1 ++ d2 ++ d3) → l0 ≤ lo → (∀ b ∈ d0 ++ d1 ++ d2 ++ d3, b < lo) → NewB l0 (b0 ++ b1 ++ b2 ++ b3)) ∧ plainV res = true ∧ rows = [] := by
  obtain ⟨⟨ns⟩, ⟨ms, qs⟩, fs, x0, x1, x2, x3⟩ := x
  obtain ⟨s0, s1, s2, s3, s4, s5, -⟩ := hs
  have c1 := spec_Forget_t ns s0 s1 ⟨ms, qs⟩ ⟨s2, s3, s4, trivial⟩ n
  obtain ⟨N, hN⟩ : ∃ V, V = vwA NNode.ac ns := ⟨_, rfl⟩
  obtain ⟨M, hM⟩ : ∃ V, V = vwA NMemo.ac ms := ⟨_, rfl⟩
  obtain ⟨M', hM'⟩ : ∃ V, V = vwA NMemo.ac (fgM ns ms n) := ⟨_, rfl⟩
  obtain ⟨Q, hQ⟩ : ∃ V, V = vw GAsked.c qs := ⟨_, rfl⟩
  obtain ⟨V, hV⟩ : ∃ V, V = vw GFrame.c fs := ⟨_, rfl⟩
  replace c1 : TCon Tryz.prog 101 [.agg [.view N], .agg [.view M, .view Q], ai n] (fun lo res rows => (∃ b0 b1, res = .t (.agg [.fv b0 M', .fv b1 Q]) ∧ NewB lo (b0 ++ b1)) ∧ plainV res = true ∧ rows = []) := by rw [hN, hM, hQ, hM']; exact c1
  have e0 : code = 0 → ∀ b0 b1 b2 b3 : List Nat, engR b0 b1 b2 b3 (setT ⟨⟨ns⟩, ⟨ms, qs⟩, fs, x0, x1, x2, x3⟩ ns code n) = [.fv b0 N, .fv b1 M', .fv b2 Q, .fv b3 V, .imm (.int .i64 x0), .imm (.int .i64 x1), .imm (.int .i64 x2), .imm (.bool x3)] := fun h b0 b1 b2 b3 => by rw [hN, hM', hQ, hV]; simp only [setT, engR, kpM, if_pos h]
  have e1 : code ≠ 0 → ∀ b0 b1 b2 b3 : List Nat, engR b0 b1 b2 b3 (setT ⟨⟨ns⟩, ⟨ms, qs⟩, fs, x0, x1, x2, x3⟩ ns code n) = [.fv b0 N, .fv b1 M, .fv b2 Q, .fv b3 V, .imm (.int .i64 x0), .imm (.int .i64 x1), .imm (.int .i64 x2), .imm (.bool x3)] := fun h b0 b1 b2 b3 => by rw [hN, hM, hQ, hV]; simp only [setT, engR, kpM, if_neg h]
  show TCon _ _ [.agg [.fv d0 (vwA NNode.ac ns), .fv d1 (vwA NMemo.ac ms), .fv d2 (vw GAsked.c qs), .fv d3 (vw GFrame.c fs), .imm (.int .i64 x0), .imm (.int .i64 x1), .imm (.int .i64 x2), .imm (.bool x3)], _, _] fun lo res rows => (∃ b0 b1 b2 b3, res = .tup [.agg (engR b0 b1 b2 b3 (setT ⟨⟨ns⟩, ⟨ms, qs⟩, fs, x0, x1, x2, x3⟩ ns code n)), ai code] ∧ ∀ l0, NewB l0 (d0 ++ d1 ++ d2 ++ d3) → l0 ≤ lo → (∀ b ∈ d0 ++ d1 ++ d2 ++ d3, b < lo) → NewB l0 (b0 ++ b1 ++ b2 ++ b3)) ∧ plainV res = true ∧ rows = []
  rw [← hN, ← hM, ← hQ, ← hV]
  obtain ⟨E, hE⟩ : ∃ E : List Nat → List Nat → List Nat → List Nat → List AC, E = fun b0 b1 b2 b3 => engR b0 b1 b2 b3 (setT ⟨⟨ns⟩, ⟨ms, qs⟩, fs, x0, x1, x2, x3⟩ ns code n) := ⟨_, rfl⟩
  have hEE : ∀ b0 b1 b2 b3, engR b0 b1 b2 b3 (setT ⟨⟨ns⟩, ⟨ms, qs⟩, fs, x0, x1, x2, x3⟩ ns code n) = E b0 b1 b2 b3 := fun _ _ _ _ => by rw [hE]
  simp only [hEE] at e0 e1 ⊢
  clear hEE hE hN hM hM' hQ hV s0 s1 s2 s3 s4 s5
  refine tcon_run ([]) ([]) (c := body Tryz.f56) fits Tryz.func56 (by kernel_rfl) (by kernel_rfl) (by rfl) (by kernel_rfl) fun β g eff hd F heff hhd hg hF => ?_
  cbv
  cases hC : g .q .eql code 0
  case false =>
    rw [goEql hg, beq_eq_false_iff_ne] at hC
    cbv
    refine finT0 hF rfl ⟨⟨d0, d1, d2, d3, by rw [e1 hC]; rfl, fun l0 h1 h2 h3 => h1⟩, rfl, rfl⟩
  rw [goEql hg, beq_iff_eq] at hC
  cbv
  refine callT0 hg c1 ⟨⟨.inl rfl, trivial⟩, ⟨.inl rfl, .inl rfl, trivial⟩, rfl, trivial⟩ (fun l2 res q1 q2 q3 ⟨b4, b5, hres, hn2⟩ => ?_)
  subst hres
  clear q2 q3
  cbv
  refine finT0 hF rfl ⟨⟨d0, b4, b5, d3, by rw [e0 hC]; rfl, fun l0 h1 h2 h3 => ?_⟩, rfl, rfl⟩
  have h4 : NewB l0 (d0 ++ d3) := h1.sub (by rw [List.append_assoc, List.append_assoc]; exact List.Sublist.append (List.Sublist.refl _) ((List.sublist_append_right _ _).trans (List.sublist_append_right _ _)))
  exact (h4.app (Nat.le_trans h2 q1) hn2 fun b hb => Nat.lt_of_lt_of_le (h3 b (by simp only [List.mem_append] at hb ⊢; rcases hb with h | h <;> simp [h])) q1).perm (List.perm_iff_count.2 fun a => by simp only [List.count_append]; omega)
set_option maxHeartbeats 8000000 in
theorem laws_heldNodeS_n (k0 : Int) (ls : List (Nat × Nat)) (hl : ls.length ≤ 1048576) (hs0 : ∀ l ∈ ls, l.1 ≤ 1048576) (hs1 : ∀ l ∈ ls, l.2 ≤ 1048576) (hk0 : 0 ≤ k0) (hk1 : endMkNode k0 ls ≤ 1152921504606846976) : PCon Tryz.prog 94 [.c (.view (mkRowsNode k0 ls)), ai k0] fun res rows => res = .t (ai (endMkNode k0 ls)) ∧ rows = [] := by
  obtain ⟨V, hV⟩ : ∃ V, V = mkRowsNode k0 ls := ⟨_, rfl⟩
  have hVl : V.length = ls.length := by rw [hV, mkRowsNode_len]
  have hV20 : lenI V ≤ 1048576 := by rw [lenI_eq]; omega
  obtain ⟨K, hKe⟩ : ∃ K, K = endMkNode k0 ls := ⟨_, rfl⟩
  rw [← hKe] at hk1
  rw [← hV, ← hKe]
  refine pcon_run (c := body Tryz.f94) fits Tryz.func94 (by kernel_rfl) (by kernel_rfl) (by rfl) (by kernel_rfl) fun g F hg hF => ?_
  cbv
  refine loop_run hg fits (by kernel_rfl) (fun s : Int × Int => [(0, .t (.c (.view V))), (1, .t (ai s.2)), (5, .t (ai s.1))]) (fun _ => []) (fun s => 0 ≤ s.1 ∧ (∃ R, V = R ++ mkRowsNode s.2 (ls.drop s.1.toNat) ∧ R.length = s.1.toNat) ∧ K = endMkNode s.2 (ls.drop s.1.toNat) ∧ 0 ≤ s.2) (fun s => (lenI V).toNat - s.1.toNat)
    (0, k0) [] ⟨Int.le_refl 0, ⟨[], hV, rfl⟩, hKe, hk0⟩ (wk0 ⟨rfl, rfl, rfl, trivial⟩) (fun s B hs hB => ?_)
  obtain ⟨z, kc⟩ := s
  obtain ⟨h0, ⟨R, hR, hRl⟩, hK, hkc⟩ := hs
  simp only at h0 hR hRl hK hkc
  cbv
  cases hc : g .q .lss z (g .ln V)
  · rw [goLss hg, goLn hg, decide_eq_false_iff_not] at hc
    cbv
    have hdr : ls.drop z.toNat = [] := by rw [lenI_eq] at hc; exact List.drop_eq_nil_of_le (by omega)
    rw [hdr] at hK
    exact fin0i hF hK.symm
  · rw [goLss hg, goLn hg, decide_eq_true_eq] at hc
    cbv
    obtain ⟨j, hj⟩ : ∃ j, j = z.toNat := ⟨_, rfl⟩
    have hjl : j < ls.length := by rw [lenI_eq] at hc; omega
    obtain ⟨l, hl0⟩ : ∃ l, ls[j]? = some l := ⟨_, List.getElem?_eq_getElem hjl⟩
    have hdr : ls.drop z.toNat = l :: ls.drop (z + 1).toNat := by
      rw [← hj, show (z + 1).toNat = j + 1 by omega]
      rw [List.drop_eq_getElem_cons hjl, ← Option.some.inj ((List.getElem?_eq_getElem hjl).symm.trans hl0)]
    rw [hdr] at hR hK
    have hl0s := hs0 l (List.mem_of_getElem? hl0)
    have hl1s := hs1 l (List.mem_of_getElem? hl0)
    obtain ⟨l0, l1⟩ := l
    simp only at hl0s hl1s
    have ez : g .w .add .i64 z 1 = z + 1 := by rw [goAdd hg, wrap_small _ (by omega)]
    have hmu : (lenI V).toNat - (z + 1).toNat < (lenI V).toNat - z.toNat := by omega
    have hzz : z.toNat + 1 = (z + 1).toNat := by omega
    have hz1 : 0 ≤ z + 1 := by omega
    have hy : V[z.toNat]? = some (mkRowNode kc l0 l1) := by
      rw [hR, List.getElem?_append_right (by omega), hRl, Nat.sub_self]
      rfl
    have hR2 : V = (R ++ [mkRowNode kc l0 l1]) ++ mkRowsNode (nxMkNode kc l0 l1) (ls.drop (z + 1).toNat) := by rw [hR, List.append_assoc]; rfl
    have hK2 : K = endMkNode (nxMkNode kc l0 l1) (ls.drop (z + 1).toNat) := hK
    have hend := endMkNode_le (ls.drop (z + 1).toNat) (nxMkNode kc l0 l1)
    rw [← hK2] at hend
    have hkn : 0 ≤ nxMkNode kc l0 l1 := Int.le_trans hkc (by have := endMkNode_le [⟨l0, l1⟩] kc; exact this)
    have hkb : kc + 62 + 1 * ((l0 : Nat) : Int) + 3 * ((l1 : Nat) : Int) ≤ 1152921504606846976 := by rw [← nxMkNode_eq]; exact Int.le_trans hend hk1
    clear hK hR hend hdr
    obtain ⟨q0, hq0⟩ : ∃ q, q = kc + 1 := ⟨_, rfl⟩
    obtain ⟨q1, hq1⟩ : ∃ q, q = q0 + 1 * ((l0 : Nat) : Int) := ⟨_, rfl⟩
    obtain ⟨q2, hq2⟩ : ∃ q, q = q1 + 1 := ⟨_, rfl⟩
    obtain ⟨q3, hq3⟩ : ∃ q, q = q1 + 2 := ⟨_, rfl⟩
    obtain ⟨q4, hq4⟩ : ∃ q, q = q1 + 3 := ⟨_, rfl⟩
    obtain ⟨q5, hq5⟩ : ∃ q, q = q1 + 4 := ⟨_, rfl⟩
    obtain ⟨q6, hq6⟩ : ∃ q, q = q1 + 5 := ⟨_, rfl⟩
    obtain ⟨q7, hq7⟩ : ∃ q, q = q1 + 6 := ⟨_, rfl⟩
    obtain ⟨q8, hq8⟩ : ∃ q, q = q1 + 7 := ⟨_, rfl⟩
    obtain ⟨q9, hq9⟩ : ∃ q, q = q1 + 8 := ⟨_, rfl⟩
    obtain ⟨q10, hq10⟩ : ∃ q, q = q1 + 9 := ⟨_, rfl⟩
    obtain ⟨q11, hq11⟩ : ∃ q, q = q1 + 10 := ⟨_, rfl⟩
    obtain ⟨q12, hq12⟩ : ∃ q, q = q1 + 11 := ⟨_, rfl⟩
    obtain ⟨q13, hq13⟩ : ∃ q, q = q1 + 12 := ⟨_, rfl⟩
    obtain ⟨q14, hq14⟩ : ∃ q, q = q1 + 13 := ⟨_, rfl⟩
    obtain ⟨q15, hq15⟩ : ∃ q, q = q1 + 14 := ⟨_, rfl⟩
    obtain ⟨q16, hq16⟩ : ∃ q, q = q1 + 15 := ⟨_, rfl⟩
    obtain ⟨q17, hq17⟩ : ∃ q, q = q1 + 16 := ⟨_, rfl⟩
    obtain ⟨q18, hq18⟩ : ∃ q, q = q1 + 17 := ⟨_, rfl⟩
    obtain ⟨q19, hq19⟩ : ∃ q, q = q1 + 18 := ⟨_, rfl⟩
    obtain ⟨q20, hq20⟩ : ∃ q, q = q1 + 19 := ⟨_, rfl⟩
    obtain ⟨q21, hq21⟩ : ∃ q, q = q1 + 20 := ⟨_, rfl⟩
    obtain ⟨q22, hq22⟩ : ∃ q, q = q1 + 21 := ⟨_, rfl⟩
    obtain ⟨q23, hq23⟩ : ∃ q, q = q1 + 22 := ⟨_, rfl⟩
    obtain ⟨q24, hq24⟩ : ∃ q, q = q1 + 23 := ⟨_, rfl⟩
    obtain ⟨q25, hq25⟩ : ∃ q, q = q1 + 24 := ⟨_, rfl⟩
    obtain ⟨q26, hq26⟩ : ∃ q, q = q1 + 25 := ⟨_, rfl⟩
    obtain ⟨q27, hq27⟩ : ∃ q, q = q1 + 26 := ⟨_, rfl⟩
    obtain ⟨q28, hq28⟩ : ∃ q, q = q1 + 27 := ⟨_, rfl⟩
    obtain ⟨q29, hq29⟩ : ∃ q, q = q1 + 28 := ⟨_, rfl⟩
    obtain ⟨q30, hq30⟩ : ∃ q, q = q1 + 29 := ⟨_, rfl⟩
    obtain ⟨q31, hq31⟩ : ∃ q, q = q1 + 30 := ⟨_, rfl⟩
    obtain ⟨q32, hq32⟩ : ∃ q, q = q1 + 31 := ⟨_, rfl⟩
    obtain ⟨q33, hq33⟩ : ∃ q, q = q1 + 32 := ⟨_, rfl⟩
    obtain ⟨q34, hq34⟩ : ∃ q, q = q1 + 33 := ⟨_, rfl⟩
    obtain ⟨q35, hq35⟩ : ∃ q, q = q1 + 34 := ⟨_, rfl⟩
    obtain ⟨q36, hq36⟩ : ∃ q, q = q1 + 35 := ⟨_, rfl⟩
    obtain ⟨q37, hq37⟩ : ∃ q, q = q1 + 36 := ⟨_, rfl⟩
    obtain ⟨q38, hq38⟩ : ∃ q, q = q1 + 37 := ⟨_, rfl⟩
    obtain ⟨q39, hq39⟩ : ∃ q, q = q1 + 38 := ⟨_, rfl⟩
    obtain ⟨q40, hq40⟩ : ∃ q, q = q1 + 39 := ⟨_, rfl⟩
    obtain ⟨q41, hq41⟩ : ∃ q, q = q1 + 40 := ⟨_, rfl⟩
    obtain ⟨q42, hq42⟩ : ∃ q, q = q1 + 41 := ⟨_, rfl⟩
    obtain ⟨q43, hq43⟩ : ∃ q, q = q1 + 42 := ⟨_, rfl⟩
    obtain ⟨q44, hq44⟩ : ∃ q, q = q1 + 43 := ⟨_, rfl⟩
    obtain ⟨q45, hq45⟩ : ∃ q, q = q1 + 44 := ⟨_, rfl⟩
    obtain ⟨q46, hq46⟩ : ∃ q, q = q1 + 45 := ⟨_, rfl⟩
    obtain ⟨q47, hq47⟩ : ∃ q, q = q1 + 46 := ⟨_, rfl⟩
    obtain ⟨q48, hq48⟩ : ∃ q, q = q1 + 47 := ⟨_, rfl⟩
    obtain ⟨q49, hq49⟩ : ∃ q, q = q1 + 48 := ⟨_, rfl⟩
    obtain ⟨q50, hq50⟩ : ∃ q, q = q1 + 49 := ⟨_, rfl⟩
    obtain ⟨q51, hq51⟩ : ∃ q, q = q1 + 50 := ⟨_, rfl⟩
    obtain ⟨q52, hq52⟩ : ∃ q, q = q1 + 51 := ⟨_, rfl⟩
    obtain ⟨q53, hq53⟩ : ∃ q, q = q1 + 52 := ⟨_, rfl⟩
    obtain ⟨q54, hq54⟩ : ∃ q, q = q1 + 53 := ⟨_, rfl⟩
    obtain ⟨q55, hq55⟩ : ∃ q, q = q1 + 54 := ⟨_, rfl⟩
    obtain ⟨q56, hq56⟩ : ∃ q, q = q1 + 55 := ⟨_, rfl⟩
    obtain ⟨q57, hq57⟩ : ∃ q, q = q1 + 56 := ⟨_, rfl⟩
    obtain ⟨q58, hq58⟩ : ∃ q, q = q1 + 57 := ⟨_, rfl⟩
    obtain ⟨q59, hq59⟩ : ∃ q, q = q1 + 58 := ⟨_, rfl⟩
    obtain ⟨q60, hq60⟩ : ∃ q, q = q1 + 59 := ⟨_, rfl⟩
    obtain ⟨q61, hq61⟩ : ∃ q, q = q1 + 60 := ⟨_, rfl⟩
    obtain ⟨q62, hq62⟩ : ∃ q, q = q1 + 61 := ⟨_, rfl⟩
    obtain ⟨q63, hq63⟩ : ∃ q, q = q62 + 3 * ((l1 : Nat) : Int) := ⟨_, rfl⟩
    obtain ⟨hnx, g_kc, g_q1, g_q63⟩ := numsNode hkc hkb hq0 hq1 hq62 hq63
    rw [← hnx] at hR2 hK2 hkn
    clear hkb hnx
    have e0 := q_add hg g_kc.1 g_kc.2 (Int.add_zero _).symm hq0 rfl (by decide) (by decide)
    have r1 := q_bnd g_kc.1 g_kc.2 hq0 (by decide) (by decide)
    have rn1 := q_bnd g_q1.1 g_q1.2 (Int.add_zero _).symm (by decide) (by decide)
    obtain ⟨M0, hM0⟩ : ∃ M, M = (vw intC (marksInt q0 l0)) := ⟨_, rfl⟩
    have ch0 := laws_heldIntS_a q0 l0 hl0s r1.1 r1.2
    rw [← hM0, ← hq1] at ch0
    have lt1 : g .q .lss q1 0 = false := by rw [goLss hg]; exact decide_eq_false (Int.not_lt.2 rn1.1)
    have e2 := q_add hg g_q1.1 g_q1.2 (Int.add_zero _).symm hq2 rfl (by decide) (by decide)
    have e3 := q_add hg g_q1.1 g_q1.2 hq2 hq3 rfl (by decide) (by decide)
    have e4 := q_add hg g_q1.1 g_q1.2 hq3 hq4 rfl (by decide) (by decide)
    have e5 := q_add hg g_q1.1 g_q1.2 hq4 hq5 rfl (by decide) (by decide)
    have e6 := q_add hg g_q1.1 g_q1.2 hq5 hq6 rfl (by decide) (by decide)
    have e7 := q_add hg g_q1.1 g_q1.2 hq6 hq7 rfl (by decide) (by decide)
    have e8 := q_add hg g_q1.1 g_q1.2 hq7 hq8 rfl (by decide) (by decide)
    obtain ⟨t8, ht8⟩ : ∃ t, t = m3 q7 := ⟨_, rfl⟩
    have m8 : g .q .eql (g .w .rem .i64 q7 3) 0 = t8 := by rw [ht8, goRem hg, goEql hg]; rfl
    have e9 := q_add hg g_q1.1 g_q1.2 hq8 hq9 rfl (by decide) (by decide)
    obtain ⟨t9, ht9⟩ : ∃ t, t = m3 q8 := ⟨_, rfl⟩
    have m9 : g .q .eql (g .w .rem .i64 q8 3) 0 = t9 := by rw [ht9, goRem hg, goEql hg]; rfl
    have e10 := q_add hg g_q1.1 g_q1.2 hq9 hq10 rfl (by decide) (by decide)
    have e11 := q_add hg g_q1.1 g_q1.2 hq10 hq11 rfl (by decide) (by decide)
    have e12 := q_add hg g_q1.1 g_q1.2 hq11 hq12 rfl (by decide) (by decide)
    have e13 := q_add hg g_q1.1 g_q1.2 hq12 hq13 rfl (by decide) (by decide)
    have e14 := q_add hg g_q1.1 g_q1.2 hq13 hq14 rfl (by decide) (by decide)
    have e15 := q_add hg g_q1.1 g_q1.2 hq14 hq15 rfl (by decide) (by decide)
    have e16 := q_add hg g_q1.1 g_q1.2 hq15 hq16 rfl (by decide) (by decide)
    have e17 := q_add hg g_q1.1 g_q1.2 hq16 hq17 rfl (by decide) (by decide)
    have e18 := q_add hg g_q1.1 g_q1.2 hq17 hq18 rfl (by decide) (by decide)
    have e19 := q_add hg g_q1.1 g_q1.2 hq18 hq19 rfl (by decide) (by decide)
    have e20 := q_add hg g_q1.1 g_q1.2 hq19 hq20 rfl (by decide) (by decide)
    have e21 := q_add hg g_q1.1 g_q1.2 hq20 hq21 rfl (by decide) (by decide)
    have e22 := q_add hg g_q1.1 g_q1.2 hq21 hq22 rfl (by decide) (by decide)
    have e23 := q_add hg g_q1.1 g_q1.2 hq22 hq23 rfl (by decide) (by decide)
    have e24 := q_add hg g_q1.1 g_q1.2 hq23 hq24 rfl (by decide) (by decide)
    have e25 := q_add hg g_q1.1 g_q1.2 hq24 hq25 rfl (by decide) (by decide)
    have e26 := q_add hg g_q1.1 g_q1.2 hq25 hq26 rfl (by decide) (by decide)
    have e27 := q_add hg g_q1.1 g_q1.2 hq26 hq27 rfl (by decide) (by decide)
    have e28 := q_add hg g_q1.1 g_q1.2 hq27 hq28 rfl (by decide) (by decide)
    have e29 := q_add hg g_q1.1 g_q1.2 hq28 hq29 rfl (by decide) (by decide)
    have e30 := q_add hg g_q1.1 g_q1.2 hq29 hq30 rfl (by decide) (by decide)
    have e31 := q_add hg g_q1.1 g_q1.2 hq30 hq31 rfl (by decide) (by decide)
    have e32 := q_add hg g_q1.1 g_q1.2 hq31 hq32 rfl (by decide) (by decide)
    have e33 := q_add hg g_q1.1 g_q1.2 hq32 hq33 rfl (by decide) (by decide)
    have e34 := q_add hg g_q1.1 g_q1.2 hq33 hq34 rfl (by decide) (by decide)
    have e35 := q_add hg g_q1.1 g_q1.2 hq34 hq35 rfl (by decide) (by decide)
    have e36 := q_add hg g_q1.1 g_q1.2 hq35 hq36 rfl (by decide) (by decide)
    have e37 := q_add hg g_q1.1 g_q1.2 hq36 hq37 rfl (by decide) (by decide)
    have e38 := q_add hg g_q1.1 g_q1.2 hq37 hq38 rfl (by decide) (by decide)
    have e39 := q_add hg g_q1.1 g_q1.2 hq38 hq39 rfl (by decide) (by decide)
    have e40 := q_add hg g_q1.1 g_q1.2 hq39 hq40 rfl (by decide) (by decide)
    have e41 := q_add hg g_q1.1 g_q1.2 hq40 hq41 rfl (by decide) (by decide)
    have e42 := q_add hg g_q1.1 g_q1.2 hq41 hq42 rfl (by decide) (by decide)
    have e43 := q_add hg g_q1.1 g_q1.2 hq42 hq43 rfl (by decide) (by decide)
    have e44 := q_add hg g_q1.1 g_q1.2 hq43 hq44 rfl (by decide) (by decide)
    have e45 := q_add hg g_q1.1 g_q1.2 hq44 hq45 rfl (by decide) (by decide)
    have e46 := q_add hg g_q1.1 g_q1.2 hq45 hq46 rfl (by decide) (by decide)
    have e47 := q_add hg g_q1.1 g_q1.2 hq46 hq47 rfl (by decide) (by decide)
    have e48 := q_add hg g_q1.1 g_q1.2 hq47 hq48 rfl (by decide) (by decide)
    have e49 := q_add hg g_q1.1 g_q1.2 hq48 hq49 rfl (by decide) (by decide)
    have e50 := q_add hg g_q1.1 g_q1.2 hq49 hq50 rfl (by decide) (by decide)
    have e51 := q_add hg g_q1.1 g_q1.2 hq50 hq51 rfl (by decide) (by decide)
    have e52 := q_add hg g_q1.1 g_q1.2 hq51 hq52 rfl (by decide) (by decide)
    have e53 := q_add hg g_q1.1 g_q1.2 hq52 hq53 rfl (by decide) (by decide)
    have e54 := q_add hg g_q1.1 g_q1.2 hq53 hq54 rfl (by decide) (by decide)
    have e55 := q_add hg g_q1.1 g_q1.2 hq54 hq55 rfl (by decide) (by decide)
    have e56 := q_add hg g_q1.1 g_q1.2 hq55 hq56 rfl (by decide) (by decide)
    have e57 := q_add hg g_q1.1 g_q1.2 hq56 hq57 rfl (by decide) (by decide)
    have e58 := q_add hg g_q1.1 g_q1.2 hq57 hq58 rfl (by decide) (by decide)
    have e59 := q_add hg g_q1.1 g_q1.2 hq58 hq59 rfl (by decide) (by decide)
    have e60 := q_add hg g_q1.1 g_q1.2 hq59 hq60 rfl (by decide) (by decide)
    have e61 := q_add hg g_q1.1 g_q1.2 hq60 hq61 rfl (by decide) (by decide)
    have e62 := q_add hg g_q1.1 g_q1.2 hq61 hq62 rfl (by decide) (by decide)
    obtain ⟨t62, ht62⟩ : ∃ t, t = m3 q61 := ⟨_, rfl⟩
    have m62 : g .q .eql (g .w .rem .i64 q61 3) 0 = t62 := by rw [ht62, goRem hg, goEql hg]; rfl
    have r63 := q_bnd g_q1.1 g_q1.2 hq62 (by decide) (by decide)
    have rn63 := q_bnd g_q63.1 g_q63.2 (Int.add_zero _).symm (by decide) (by decide)
    obtain ⟨M1, hM1⟩ : ∃ M, M = (vw GRule.c (marksRule q62 l1)) := ⟨_, rfl⟩
    have ch1 := laws_heldRuleS_a q62 l1 hl1s r63.1 r63.2
    rw [← hM1, ← hq63] at ch1
    have lt63 : g .q .lss q63 0 = false := by rw [goLss hg]; exact decide_eq_false (Int.not_lt.2 rn63.1)
    rw [← rowNode_eq (B0 := []) (B1 := []) hM0 hM1 ht8 ht9 ht62 hq0 hq1 hq2 hq3 hq4 hq5 hq6 hq7 hq8 hq9 hq10 hq11 hq12 hq13 hq14 hq15 hq16 hq17 hq18 hq19 hq20 hq21 hq22 hq23 hq24 hq25 hq26 hq27 hq28 hq29 hq30 hq31 hq32 hq33 hq34 hq35 hq36 hq37 hq38 hq39 hq40 hq41 hq42 hq43 hq44 hq45 hq46 hq47 hq48 hq49 hq50 hq51 hq52 hq53 hq54 hq55 hq56 hq57 hq58 hq59 hq60 hq61 hq62 hq63] at hy hR2
    replace hy : V[z.toNat]? = some (.imm (.int .i64 kc) :: .view M0 :: .imm (.int .i64 q1) :: .imm (.int .i64 q2) :: .imm (.int .i64 q3) :: .imm (.int .i64 q4) :: .imm (.int .i64 q5) :: .imm (.int .i64 q6) :: .imm (.bool t8) :: .imm (.bool t9) :: .imm (.int .i64 q9) :: .imm (.int .i64 q10) :: .imm (.int .i64 q11) :: .imm (.int .i64 q12) :: .imm (.int .i64 q13) :: .imm (.int .i64 q14) :: .imm (.int .i64 q15) :: .imm (.int .i64 q16) :: .imm (.int .i64 q17) :: .imm (.int .i64 q18) :: .imm (.int .i64 q19) :: .imm (.int .i64 q20) :: .imm (.int .i64 q21) :: .imm (.int .i64 q22) :: .imm (.int .i64 q23) :: .imm (.int .i64 q24) :: .imm (.int .i64 q25) :: .imm (.int .i64 q26) :: .imm (.int .i64 q27) :: .imm (.int .i64 q28) :: .imm (.int .i64 q29) :: .imm (.int .i64 q30) :: .imm (.int .i64 q31) :: .imm (.int .i64 q32) :: .imm (.int .i64 q33) :: .imm (.int .i64 q34) :: .imm (.int .i64 q35) :: .imm (.int .i64 q36) :: .imm (.int .i64 q37) :: .imm (.int .i64 q38) :: .imm (.int .i64 q39) :: .imm (.int .i64 q40) :: .imm (.int .i64 q41) :: .imm (.int .i64 q42) :: .imm (.int .i64 q43) :: .imm (.int .i64 q44) :: .imm (.int .i64 q45) :: .imm (.int .i64 q46) :: .imm (.int .i64 q47) :: .imm (.int .i64 q48) :: .imm (.int .i64 q49) :: .imm (.int .i64 q50) :: .imm (.int .i64 q51) :: .imm (.int .i64 q52) :: .imm (.int .i64 q53) :: .imm (.int .i64 q54) :: .imm (.int .i64 q55) :: .imm (.int .i64 q56) :: .imm (.int .i64 q57) :: .imm (.int .i64 q58) :: .imm (.int .i64 q59) :: .imm (.int .i64 q60) :: .imm (.bool t62) :: .view M1 :: []) := hy
    clear hM0 hM1 ht8 ht9 ht62 hq0 hq1 hq2 hq3 hq4 hq5 hq6 hq7 hq8 hq9 hq10 hq11 hq12 hq13 hq14 hq15 hq16 hq17 hq18 hq19 hq20 hq21 hq22 hq23 hq24 hq25 hq26 hq27 hq28 hq29 hq30 hq31 hq32 hq33 hq34 hq35 hq36 hq37 hq38 hq39 hq40 hq41 hq42 hq43 hq44 hq45 hq46 hq47 hq48 hq49 hq50 hq51 hq52 hq53 hq54 hq55 hq56 hq57 hq58 hq59 hq60 hq61 hq62 hq63 g_kc g_q1 g_q63
    refine goX hg _ h0 hy rfl ?_
    cbv
    rw [show g .q .neq kc kc = false by rw [goNeq hg]; simp]
    cbv
    rw [e0]
    cbv
    refine goX hg _ h0 hy rfl ?_
    cbv
    refine call0 hg ch0 rfl rfl ?_
    cbv
    rw [lt1]
    cbv
    refine goX hg _ h0 hy rfl ?_
    cbv
    rw [show g .q .neq q1 q1 = false by rw [goNeq hg]; simp]
    cbv
    rw [e2]
    cbv
    refine goX hg _ h0 hy rfl ?_
    cbv
    rw [show g .q .neq q2 q2 = false by rw [goNeq hg]; simp]
    cbv
    rw [e3]
    cbv
    refine goX hg _ h0 hy rfl ?_
    cbv
    rw [show g .q .neq q3 q3 = false by rw [goNeq hg]; simp]
    cbv
    rw [e4]
    cbv
    refine goX hg _ h0 hy rfl ?_
    cbv
    rw [show g .q .neq q4 q4 = false by rw [goNeq hg]; simp]
    cbv
    rw [e5]
    cbv
    refine goX hg _ h0 hy rfl ?_
    cbv
    rw [show g .q .neq q5 q5 = false by rw [goNeq hg]; simp]
    cbv
    rw [e6]
    cbv
    refine goX hg _ h0 hy rfl ?_
    cbv
    rw [show g .q .neq q6 q6 = false by rw [goNeq hg]; simp]
    cbv
    rw [e7]
    cbv
    refine goX hg _ h0 hy rfl ?_
    cbv
    refine goNZ hg (by decide) ?_
    cbv
    rw [m8]
    cbv
    rw [show g .qb .neq t8 t8 = false by rw [goNeqB hg]; simp]
    cbv
    rw [e8]
    cbv
    refine goX hg _ h0 hy rfl ?_
    cbv
    refine goNZ hg (by decide) ?_
    cbv
    rw [m9]
    cbv
    rw [show g .qb .neq t9 t9 = false by rw [goNeqB hg]; simp]
    cbv
    rw [e9]
    cbv
    refine goX hg _ h0 hy rfl ?_
    cbv
    rw [show g .q .neq q9 q9 = false by rw [goNeq hg]; simp]
    cbv
    rw [e10]
    cbv
    refine goX hg _ h0 hy rfl ?_
    cbv
    rw [show g .q .neq q10 q10 = false by rw [goNeq hg]; simp]
    cbv
    rw [e11]
    cbv
    refine goX hg _ h0 hy rfl ?_
    cbv
    rw [show g .q .neq q11 q11 = false by rw [goNeq hg]; simp]
    cbv
    rw [e12]
    cbv
    refine goX hg _ h0 hy rfl ?_
    cbv
    rw [show g .q .neq q12 q12 = false by rw [goNeq hg]; simp]
    cbv
    rw [e13]
    cbv
    refine goX hg _ h0 hy rfl ?_
    cbv
    rw [show g .q .neq q13 q13 = false by rw [goNeq hg]; simp]
    cbv
    rw [e14]
    cbv
    refine goX hg _ h0 hy rfl ?_
    cbv
    rw [show g .q .neq q14 q14 = false by rw [goNeq hg]; simp]
    cbv
    rw [e15]
    cbv
    refine goX hg _ h0 hy rfl ?_
    cbv
    rw [show g .q .neq q15 q15 = false by rw [goNeq hg]; simp]
    cbv
    rw [e16]
    cbv
    refine goX hg _ h0 hy rfl ?_
    cbv
    rw [show g .q .neq q16 q16 = false by rw [goNeq hg]; simp]
    cbv
    rw [e17]
    cbv
    refine goX hg _ h0 hy rfl ?_
    cbv
    rw [show g .q .neq q17 q17 = false by rw [goNeq hg]; simp]
    cbv
    rw [e18]
    cbv
    refine goX hg _ h0 hy rfl ?_
    cbv
    rw [show g .q .neq q18 q18 = false by rw [goNeq hg]; simp]
    cbv
    rw [e19]
    cbv
    refine goX hg _ h0 hy rfl ?_
    cbv
    rw [show g .q .neq q19 q19 = false by rw [goNeq hg]; simp]
    cbv
    rw [e20]
    cbv
    refine goX hg _ h0 hy rfl ?_
    cbv
    rw [show g .q .neq q20 q20 = false by rw [goNeq hg]; simp]
    cbv
    rw [e21]
    cbv
    refine goX hg _ h0 hy rfl ?_
    cbv
    rw [show g .q .neq q21 q21 = false by rw [goNeq hg]; simp]
    cbv
    rw [e22]
    cbv
    refine goX hg _ h0 hy rfl ?_
    cbv
    rw [show g .q .neq q22 q22 = false by rw [goNeq hg]; simp]
    cbv
    rw [e23]
    cbv
    refine goX hg _ h0 hy rfl ?_
    cbv
    rw [show g .q .neq q23 q23 = false by rw [goNeq hg]; simp]
    cbv
    rw [e24]
    cbv
    refine goX hg _ h0 hy rfl ?_
    cbv
    rw [show g .q .neq q24 q24 = false by rw [goNeq hg]; simp]
    cbv
    rw [e25]
    cbv
    refine goX hg _ h0 hy rfl ?_
    cbv
    rw [show g .q .neq q25 q25 = false by rw [goNeq hg]; simp]
    cbv
    rw [e26]
    cbv
    refine goX hg _ h0 hy rfl ?_
    cbv
    rw [show g .q .neq q26 q26 = false by rw [goNeq hg]; simp]
    cbv
    rw [e27]
    cbv
    refine goX hg _ h0 hy rfl ?_
    cbv
    rw [show g .q .neq q27 q27 = false by rw [goNeq hg]; simp]
    cbv
    rw [e28]
    cbv
    refine goX hg _ h0 hy rfl ?_
    cbv
    rw [show g .q .neq q28 q28 = false by rw [goNeq hg]; simp]
    cbv
    rw [e29]
    cbv
    refine goX hg _ h0 hy rfl ?_
    cbv
    rw [show g .q .neq q29 q29 = false by rw [goNeq hg]; simp]
    cbv
    rw [e30]
    cbv
    refine goX hg _ h0 hy rfl ?_
    cbv
    rw [show g .q .neq q30 q30 = false by rw [goNeq hg]; simp]
    cbv
    rw [e31]
    cbv
    refine goX hg _ h0 hy rfl ?_
    cbv
    rw [show g .q .neq q31 q31 = false by rw [goNeq hg]; simp]
    cbv
    rw [e32]
    cbv
    refine goX hg _ h0 hy rfl ?_
    cbv
    rw [show g .q .neq q32 q32 = false by rw [goNeq hg]; simp]
    cbv
    rw [e33]
    cbv
    refine goX hg _ h0 hy rfl ?_
    cbv
    rw [show g .q .neq q33 q33 = false by rw [goNeq hg]; simp]
    cbv
    rw [e34]
    cbv
    refine goX hg _ h0 hy rfl ?_
    cbv
    rw [show g .q .neq q34 q34 = false by rw [goNeq hg]; simp]
    cbv
    rw [e35]
    cbv
    refine goX hg _ h0 hy rfl ?_
    cbv
    rw [show g .q .neq q35 q35 = false by rw [goNeq hg]; simp]
    cbv
    rw [e36]
    cbv
    refine goX hg _ h0 hy rfl ?_
    cbv
    rw [show g .q .neq q36 q36 = false by rw [goNeq hg]; simp]
    cbv
    rw [e37]
    cbv
    refine goX hg _ h0 hy rfl ?_
    cbv
    rw [show g .q .neq q37 q37 = false by rw [goNeq hg]; simp]
    cbv
    rw [e38]
    cbv
    refine goX hg _ h0 hy rfl ?_
    cbv
    rw [show g .q .neq q38 q38 = false by rw [goNeq hg]; simp]
    cbv
    rw [e39]
    cbv
    refine goX hg _ h0 hy rfl ?_
    cbv
    rw [show g .q .neq q39 q39 = false by rw [goNeq hg]; simp]
    cbv
    rw [e40]
    cbv
    refine goX hg _ h0 hy rfl ?_
    cbv
    rw [show g .q .neq q40 q40 = false by rw [goNeq hg]; simp]
    cbv
    rw [e41]
    cbv
    refine goX hg _ h0 hy rfl ?_
    cbv
    rw [show g .q .neq q41 q41 = false by rw [goNeq hg]; simp]
    cbv
    rw [e42]
    cbv
    refine goX hg _ h0 hy rfl ?_
    cbv
    rw [show g .q .neq q42 q42 = false by rw [goNeq hg]; simp]
    cbv
    rw [e43]
    cbv
    refine goX hg _ h0 hy rfl ?_
    cbv
    rw [show g .q .neq q43 q43 = false by rw [goNeq hg]; simp]
    cbv
    rw [e44]
    cbv
    refine goX hg _ h0 hy rfl ?_
    cbv
    rw [show g .q .neq q44 q44 = false by rw [goNeq hg]; simp]
    cbv
    rw [e45]
    cbv
    refine goX hg _ h0 hy rfl ?_
    cbv
    rw [show g .q .neq q45 q45 = false by rw [goNeq hg]; simp]
    cbv
    rw [e46]
    cbv
    refine goX hg _ h0 hy rfl ?_
    cbv
    rw [show g .q .neq q46 q46 = false by rw [goNeq hg]; simp]
    cbv
    rw [e47]
    cbv
    refine goX hg _ h0 hy rfl ?_
    cbv
    rw [show g .q .neq q47 q47 = false by rw [goNeq hg]; simp]
    cbv
    rw [e48]
    cbv
    refine goX hg _ h0 hy rfl ?_
    cbv
    rw [show g .q .neq q48 q48 = false by rw [goNeq hg]; simp]
    cbv
    rw [e49]
    cbv
    refine goX hg _ h0 hy rfl ?_
    cbv
    rw [show g .q .neq q49 q49 = false by rw [goNeq hg]; simp]
    cbv
    rw [e50]
    cbv
    refine goX hg _ h0 hy rfl ?_
    cbv
    rw [show g .q .neq q50 q50 = false by rw [goNeq hg]; simp]
    cbv
    rw [e51]
    cbv
    refine goX hg _ h0 hy rfl ?_
    cbv
    rw [show g .q .neq q51 q51 = false by rw [goNeq hg]; simp]
    cbv
    rw [e52]
    cbv
    refine goX hg _ h0 hy rfl ?_
    cbv
    rw [show g .q .neq q52 q52 = false by rw [goNeq hg]; simp]
    cbv
    rw [e53]
    cbv
    refine goX hg _ h0 hy rfl ?_
    cbv
    rw [show g .q .neq q53 q53 = false by rw [goNeq hg]; simp]
    cbv
    rw [e54]
    cbv
    refine goX hg _ h0 hy rfl ?_
    cbv
    rw [show g .q .neq q54 q54 = false by rw [goNeq hg]; simp]
    cbv
    rw [e55]
    cbv
    refine goX hg _ h0 hy rfl ?_
    cbv
    rw [show g .q .neq q55 q55 = false by rw [goNeq hg]; simp]
    cbv
    rw [e56]
    cbv
    refine goX hg _ h0 hy rfl ?_
    cbv
    rw [show g .q .neq q56 q56 = false by rw [goNeq hg]; simp]
    cbv
    rw [e57]
    cbv
    refine goX hg _ h0 hy rfl ?_
    cbv
    rw [show g .q .neq q57 q57 = false by rw [goNeq hg]; simp]
    cbv
    rw [e58]
    cbv
    refine goX hg _ h0 hy rfl ?_
    cbv
    rw [show g .q .neq q58 q58 = false by rw [goNeq hg]; simp]
    cbv
    rw [e59]
    cbv
    refine goX hg _ h0 hy rfl ?_
    cbv
    rw [show g .q .neq q59 q59 = false by rw [goNeq hg]; simp]
    cbv
    rw [e60]
    cbv
    refine goX hg _ h0 hy rfl ?_
    cbv
    rw [show g .q .neq q60 q60 = false by rw [goNeq hg]; simp]
    cbv
    rw [e61]
    cbv
    refine goX hg _ h0 hy rfl ?_
    cbv
    refine goNZ hg (by decide) ?_
    cbv
    rw [m62]
    cbv
    rw [show g .qb .neq t62 t62 = false by rw [goNeqB hg]; simp]
    cbv
    rw [e62]
    cbv
    refine goX hg _ h0 hy rfl ?_
    cbv
    refine call0 hg ch1 rfl rfl ?_
    cbv
    rw [lt63]
    cbv
    rw [ez]
    exact back hB (z + 1, q63) [] (wk0 ⟨rfl, rfl, rfl, trivial⟩) ⟨hz1, ⟨_, hR2, by rw [List.length_append, hRl]; exact hzz⟩, hK2, hkn⟩ hmu
end Go.Proofs.YtenbloaopcfdlaaGreat
