/- Copies of trees with the blocks that they make. Frames in the whole's coordinates. Whether a node lies under another. -/
import Derived.Test.YtenbloaopcfdlaaGreatRaz
namespace Go.Proofs.YtenbloaopcfdlaaGreat
open Go.ChangeShapes Go.WideShapes Go.ChangeAt Go.RowKit Am
set_option linter.unusedVariables false
set_option linter.unusedSimpArgs false
set_option maxRecDepth 100000
theorem NewB.swap {lo : Nat} {as_ bs : List Nat} (h : NewB lo (as_ ++ bs)) : NewB lo (bs ++ as_) := by
  obtain ⟨h1, h2, h3⟩ := List.nodup_append.1 h.1
  exact ⟨List.nodup_append.2 ⟨h2, h1, fun a ha b hb he => h3 b hb a ha he.symm⟩, fun b hb => h.2 b (by rcases List.mem_append.1 hb with h | h; exact List.mem_append_right _ h; exact List.mem_append_left _ h)⟩
def NNode.acT (x : NNode) (b1 b63 : List Nat) : List AC :=
  match x with
  | ⟨a0, a1, ⟨a2, a3, a4, a5, a6, a7, a8, a9, a10, a11, a12, ⟨a13, a14⟩, ⟨a15, a16⟩, ⟨a17, a18⟩, ⟨a19, a20⟩, ⟨a21, a22⟩, ⟨a23, a24⟩, ⟨a25, a26⟩, a27, ⟨⟨a28, a29⟩, ⟨a30, a31⟩, ⟨a32, a33⟩, ⟨a34, a35⟩, ⟨a36, a37⟩, ⟨a38, a39⟩⟩, ⟨⟨a40, a41⟩, ⟨a42, a43⟩, ⟨a44, a45⟩, ⟨a46, a47⟩, ⟨a48, a49⟩, ⟨a50, a51⟩⟩, ⟨a52, a53, a54, a55⟩, ⟨a56, a57, a58, a59⟩, a60, a61⟩, a62, ⟨a63⟩⟩ => [.imm (.int .i64 a0), .fv b1 (vw intC a1), .imm (.int .i64 a2), .imm (.int .i64 a3), .imm (.int .i64 a4), .imm (.int .i64 a5), .imm (.int .i64 a6), .imm (.int .i64 a7), .imm (.bool a8), .imm (.bool a9), .imm (.int .i64 a10), .imm (.int .i64 a11), .imm (.int .i64 a12), .imm (.int .i64 a13), .imm (.int .i64 a14), .imm (.int .i64 a15), .imm (.int .i64 a16), .imm (.int .i64 a17), .imm (.int .i64 a18), .imm (.int .i64 a19), .imm (.int .i64 a20), .imm (.int .i64 a21), .imm (.int .i64 a22), .imm (.int .i64 a23), .imm (.int .i64 a24), .imm (.int .i64 a25), .imm (.int .i64 a26), .imm (.int .i64 a27), .imm (.int .i64 a28), .imm (.int .i64 a29), .imm (.int .i64 a30), .imm (.int .i64 a31), .imm (.int .i64 a32), .imm (.int .i64 a33), .imm (.int .i64 a34), .imm (.int .i64 a35), .imm (.int .i64 a36), .imm (.int .i64 a37), .imm (.int .i64 a38), .imm (.int .i64 a39), .imm (.int .i64 a40), .imm (.int .i64 a41), .imm (.int .i64 a42), .imm (.int .i64 a43), .imm (.int .i64 a44), .imm (.int .i64 a45), .imm (.int .i64 a46), .imm (.int .i64 a47), .imm (.int .i64 a48), .imm (.int .i64 a49), .imm (.int .i64 a50), .imm (.int .i64 a51), .imm (.int .i64 a52), .imm (.int .i64 a53), .imm (.int .i64 a54), .imm (.int .i64 a55), .imm (.int .i64 a56), .imm (.int .i64 a57), .imm (.int .i64 a58), .imm (.int .i64 a59), .imm (.int .i64 a60), .imm (.int .i64 a61), .imm (.bool a62), .fv b63 (vw GRule.c a63)]
set_option maxHeartbeats 8000000 in
theorem laws_toTable_t (x : NTable) (hs : x.small) : TCon Tryz.prog 23 [.agg x.ac] fun lo res rows => (∃ b, res = .t (.agg [.fv b (vw GRule.c x.rules)]) ∧ NewB lo b) ∧ plainV res = true ∧ rows = [] := by
  obtain ⟨a0⟩ := x
  obtain ⟨sa0, -⟩ := hs
  show TCon _ _ [.agg [.view (vw GRule.c a0)]] (fun lo res rows => (∃ b, res = .t (.agg [.fv b (vw GRule.c a0)]) ∧ NewB lo b) ∧ plainV res = true ∧ rows = [])
  have c0 := toRow (laws_toRuleS_a a0 sa0)
  obtain ⟨Va0, hVa0⟩ : ∃ Va0, Va0 = vw GRule.c a0 := ⟨_, rfl⟩
  have hVa0l : Va0.length = a0.length := by rw [hVa0, vw_length]
  have iVa0 : immE Va0 = true := by rw [hVa0]; exact vw_imm _ _
  have kVa0 : ∀ y ∈ Va0, y.length = 3 := by rw [hVa0]; exact vw_k (c := GRule.c) (k := 3) fun _ => rfl
  have dVa0 : ∀ y ∈ Va0, y.all dat = true := by rw [hVa0]; exact vw_dat
  rw [← hVa0] at c0
  rw [← hVa0]
  refine tcon_run ([]) ([]) (c := body Tryz.f23) fits Tryz.func23 (by kernel_rfl) (by kernel_rfl) (by rfl) (by kernel_rfl) fun β g eff hd F heff hhd hg hF => ?_
  cbv
  repeat' (first | (refine callRow hg c0 (dat_data rfl) iVa0 ?_; cbv) | (refine callRowP hg c0 (dat_data rfl) iVa0 ?_; cbv))
  refine finTS hF fun bl hbl => ⟨[.agg [.fv (hd1 (bl 3) Va0) Va0]], .agg (.cons (ress_immRow (r := 3) (ab := ⟨_, _, Va0⟩) rfl iVa0) .nil) .nil, ⟨_, rfl, blk_new hbl (r := 3) (ab := ⟨_, _, Va0⟩) rfl⟩, rfl, rfl⟩
set_option maxHeartbeats 8000000 in
theorem laws_toNode_t (x : NNode) (hs : x.small) : TCon Tryz.prog 119 [.agg x.ac] fun lo res rows => (∃ b1 b63, res = .t (.agg (x.acT b1 b63)) ∧ NewB lo (b1 ++ b63)) ∧ plainV res = true ∧ rows = [] := by
  obtain ⟨a0, a1, ⟨a2, a3, a4, a5, a6, a7, a8, a9, a10, a11, a12, ⟨a13, a14⟩, ⟨a15, a16⟩, ⟨a17, a18⟩, ⟨a19, a20⟩, ⟨a21, a22⟩, ⟨a23, a24⟩, ⟨a25, a26⟩, a27, ⟨⟨a28, a29⟩, ⟨a30, a31⟩, ⟨a32, a33⟩, ⟨a34, a35⟩, ⟨a36, a37⟩, ⟨a38, a39⟩⟩, ⟨⟨a40, a41⟩, ⟨a42, a43⟩, ⟨a44, a45⟩, ⟨a46, a47⟩, ⟨a48, a49⟩, ⟨a50, a51⟩⟩, ⟨a52, a53, a54, a55⟩, ⟨a56, a57, a58, a59⟩, a60, a61⟩, a62, ⟨a63⟩⟩ := x
  obtain ⟨sa1, sa63, -⟩ := hs
  show TCon _ _ [.agg [.imm (.int .i64 a0), .view (vw intC a1), .imm (.int .i64 a2), .imm (.int .i64 a3), .imm (.int .i64 a4), .imm (.int .i64 a5), .imm (.int .i64 a6), .imm (.int .i64 a7), .imm (.bool a8), .imm (.bool a9), .imm (.int .i64 a10), .imm (.int .i64 a11), .imm (.int .i64 a12), .imm (.int .i64 a13), .imm (.int .i64 a14), .imm (.int .i64 a15), .imm (.int .i64 a16), .imm (.int .i64 a17), .imm (.int .i64 a18), .imm (.int .i64 a19), .imm (.int .i64 a20), .imm (.int .i64 a21), .imm (.int .i64 a22), .imm (.int .i64 a23), .imm (.int .i64 a24), .imm (.int .i64 a25), .imm (.int .i64 a26), .imm (.int .i64 a27), .imm (.int .i64 a28), .imm (.int .i64 a29), .imm (.int .i64 a30), .imm (.int .i64 a31), .imm (.int .i64 a32), .imm (.int .i64 a33), .imm (.int .i64 a34), .imm (.int .i64 a35), .imm (.int .i64 a36), .imm (.int .i64 a37), .imm (.int .i64 a38), .imm (.int .i64 a39), .imm (.int .i64 a40), .imm (.int .i64 a41), .imm (.int .i64 a42), .imm (.int .i64 a43), .imm (.int .i64 a44), .imm (.int .i64 a45), .imm (.int .i64 a46), .imm (.int .i64 a47), .imm (.int .i64 a48), .imm (.int .i64 a49), .imm (.int .i64 a50), .imm (.int .i64 a51), .imm (.int .i64 a52), .imm (.int .i64 a53), .imm (.int .i64 a54), .imm (.int .i64 a55), .imm (.int .i64 a56), .imm (.int .i64 a57), .imm (.int .i64 a58), .imm (.int .i64 a59), .imm (.int .i64 a60), .imm (.int .i64 a61), .imm (.bool a62), .view (vw GRule.c a63)]] (fun lo res rows => (∃ b1 b63, res = .t (.agg [.imm (.int .i64 a0), .fv b1 (vw intC a1), .imm (.int .i64 a2), .imm (.int .i64 a3), .imm (.int .i64 a4), .imm (.int .i64 a5), .imm (.int .i64 a6), .imm (.int .i64 a7), .imm (.bool a8), .imm (.bool a9), .imm (.int .i64 a10), .imm (.int .i64 a11), .imm (.int .i64 a12), .imm (.int .i64 a13), .imm (.int .i64 a14), .imm (.int .i64 a15), .imm (.int .i64 a16), .imm (.int .i64 a17), .imm (.int .i64 a18), .imm (.int .i64 a19), .imm (.int .i64 a20), .imm (.int .i64 a21), .imm (.int .i64 a22), .imm (.int .i64 a23), .imm (.int .i64 a24), .imm (.int .i64 a25), .imm (.int .i64 a26), .imm (.int .i64 a27), .imm (.int .i64 a28), .imm (.int .i64 a29), .imm (.int .i64 a30), .imm (.int .i64 a31), .imm (.int .i64 a32), .imm (.int .i64 a33), .imm (.int .i64 a34), .imm (.int .i64 a35), .imm (.int .i64 a36), .imm (.int .i64 a37), .imm (.int .i64 a38), .imm (.int .i64 a39), .imm (.int .i64 a40), .imm (.int .i64 a41), .imm (.int .i64 a42), .imm (.int .i64 a43), .imm (.int .i64 a44), .imm (.int .i64 a45), .imm (.int .i64 a46), .imm (.int .i64 a47), .imm (.int .i64 a48), .imm (.int .i64 a49), .imm (.int .i64 a50), .imm (.int .i64 a51), .imm (.int .i64 a52), .imm (.int .i64 a53), .imm (.int .i64 a54), .imm (.int .i64 a55), .imm (.int .i64 a56), .imm (.int .i64 a57), .imm (.int .i64 a58), .imm (.int .i64 a59), .imm (.int .i64 a60), .imm (.int .i64 a61), .imm (.bool a62), .fv b63 (vw GRule.c a63)]) ∧ NewB lo (b1 ++ b63)) ∧ plainV res = true ∧ rows = [])
  have c1 := toRow (laws_toIntS_a a1 sa1)
  have c63 := laws_toTable_t ⟨a63⟩ ⟨sa63, trivial⟩
  replace c63 : TCon Tryz.prog 23 [.agg [.view (vw GRule.c a63)]] (fun lo res rows => (∃ b, res = .t (.agg [.fv b (vw GRule.c a63)]) ∧ NewB lo b) ∧ plainV res = true ∧ rows = []) := c63
  obtain ⟨Va1, hVa1⟩ : ∃ Va1, Va1 = vw intC a1 := ⟨_, rfl⟩
  have hVa1l : Va1.length = a1.length := by rw [hVa1, vw_length]
  have iVa1 : immE Va1 = true := by rw [hVa1]; exact vw_imm _ _
  have kVa1 : ∀ y ∈ Va1, y.length = 1 := by rw [hVa1]; exact vw_k (c := intC) (k := 1) fun _ => rfl
  have dVa1 : ∀ y ∈ Va1, y.all dat = true := by rw [hVa1]; exact vw_dat
  obtain ⟨Va63, hVa63⟩ : ∃ V, V = vw GRule.c a63 := ⟨_, rfl⟩
  rw [← hVa1] at c1
  rw [← hVa63] at c63
  rw [← hVa1, ← hVa63]
  refine tcon_run ([]) ([]) (c := body Tryz.f119) fits Tryz.func119 (by kernel_rfl) (by kernel_rfl) (by rfl) (by kernel_rfl) fun β g eff hd F heff hhd hg hF => ?_
  cbv
  repeat' (first | (refine callRow hg c1 (dat_data rfl) iVa1 ?_; cbv) | (refine call0 hg (laws_toStyle_a (⟨a2, a3, a4, a5, a6, a7, a8, a9, a10, a11, a12, ⟨a13, a14⟩, ⟨a15, a16⟩, ⟨a17, a18⟩, ⟨a19, a20⟩, ⟨a21, a22⟩, ⟨a23, a24⟩, ⟨a25, a26⟩, a27, ⟨⟨a28, a29⟩, ⟨a30, a31⟩, ⟨a32, a33⟩, ⟨a34, a35⟩, ⟨a36, a37⟩, ⟨a38, a39⟩⟩, ⟨⟨a40, a41⟩, ⟨a42, a43⟩, ⟨a44, a45⟩, ⟨a46, a47⟩, ⟨a48, a49⟩, ⟨a50, a51⟩⟩, ⟨a52, a53, a54, a55⟩, ⟨a56, a57, a58, a59⟩, a60, a61⟩ : GStyle)) rfl rfl ?_; cbv))
  refine callT0 hg c63 (dwA_same rfl) (fun lo res h1 h2 h3 ⟨b63, hres, hn⟩ => ?_)
  subst hres
  clear h2 h3
  cbv
  refine finTS hF fun bl hbl => ⟨[.agg [.imm (.int .i64 a0), .fv (hd1 (bl 3) Va1) Va1, .imm (.int .i64 a2), .imm (.int .i64 a3), .imm (.int .i64 a4), .imm (.int .i64 a5), .imm (.int .i64 a6), .imm (.int .i64 a7), .imm (.bool a8), .imm (.bool a9), .imm (.int .i64 a10), .imm (.int .i64 a11), .imm (.int .i64 a12), .imm (.int .i64 a13), .imm (.int .i64 a14), .imm (.int .i64 a15), .imm (.int .i64 a16), .imm (.int .i64 a17), .imm (.int .i64 a18), .imm (.int .i64 a19), .imm (.int .i64 a20), .imm (.int .i64 a21), .imm (.int .i64 a22), .imm (.int .i64 a23), .imm (.int .i64 a24), .imm (.int .i64 a25), .imm (.int .i64 a26), .imm (.int .i64 a27), .imm (.int .i64 a28), .imm (.int .i64 a29), .imm (.int .i64 a30), .imm (.int .i64 a31), .imm (.int .i64 a32), .imm (.int .i64 a33), .imm (.int .i64 a34), .imm (.int .i64 a35), .imm (.int .i64 a36), .imm (.int .i64 a37), .imm (.int .i64 a38), .imm (.int .i64 a39), .imm (.int .i64 a40), .imm (.int .i64 a41), .imm (.int .i64 a42), .imm (.int .i64 a43), .imm (.int .i64 a44), .imm (.int .i64 a45), .imm (.int .i64 a46), .imm (.int .i64 a47), .imm (.int .i64 a48), .imm (.int .i64 a49), .imm (.int .i64 a50), .imm (.int .i64 a51), .imm (.int .i64 a52), .imm (.int .i64 a53), .imm (.int .i64 a54), .imm (.int .i64 a55), .imm (.int .i64 a56), .imm (.int .i64 a57), .imm (.int .i64 a58), .imm (.int .i64 a59), .imm (.int .i64 a60), .imm (.int .i64 a61), .imm (.bool a62), .fv b63 Va63]], .agg (by repeat' (first | exact .nil | refine .cons ?_ ?_ | exact .imm _ | exact .fv _ _ | exact ress_immRow (r := 3) (ab := ⟨_, _, Va1⟩) rfl iVa1)) .nil, ⟨_, _, rfl, (blk_tail hbl (r := 3) (ab := ⟨_, _, Va1⟩) rfl (List.mem_singleton.2 rfl) (ps := b63) (ys := Va63) (by simp [AT.cells]) (hn.mono h1)).swap⟩, rfl, rfl⟩
set_option maxHeartbeats 8000000 in
theorem laws_toNodeS_t (xs : List NNode) (hl : xs.length ≤ 1048576) (hs : ∀ y ∈ xs, y.small) : TCon Tryz.prog 80 [.c (.view (vwA NNode.ac xs))] fun lo res rows => (∃ bs, res = .t (.c (.fv bs (vwA NNode.ac xs))) ∧ NewB lo bs) ∧ plainV res = true ∧ rows = [] := by
  obtain ⟨V, hV⟩ : ∃ V, V = vwA NNode.ac xs := ⟨_, rfl⟩
  have hVl : V.length = xs.length := by rw [hV, vwA_length]
  have hVx : lenI V = (xs.length : Int) := by rw [lenI_eq]; omega
  have hV1 : lenI V ≤ 1048576 := by omega
  rw [← hV]
  refine tcon_run ([]) ([]) (c := body Tryz.f80) fits Tryz.func80 (by kernel_rfl) (by kernel_rfl) (by rfl) (by kernel_rfl) fun β g eff hd F heff hhd hg hF => ?_
  cbv
  refine goMk hg (by decide) (by rw [hVl]; exact hl) ?_
  cbv
  have hst : FillT 64 V (List.replicate (g .ln V).toNat [.imm (.int .i64 0), .imm (.slice none 0 0), .imm (.int .i64 0), .imm (.int .i64 0), .imm (.int .i64 0), .imm (.int .i64 0), .imm (.int .i64 0), .imm (.int .i64 0), .imm (.bool false), .imm (.bool false), .imm (.int .i64 0), .imm (.int .i64 0), .imm (.int .i64 0), .imm (.int .i64 0), .imm (.int .i64 0), .imm (.int .i64 0), .imm (.int .i64 0), .imm (.int .i64 0), .imm (.int .i64 0), .imm (.int .i64 0), .imm (.int .i64 0), .imm (.int .i64 0), .imm (.int .i64 0), .imm (.int .i64 0), .imm (.int .i64 0), .imm (.int .i64 0), .imm (.int .i64 0), .imm (.int .i64 0), .imm (.int .i64 0), .imm (.int .i64 0), .imm (.int .i64 0), .imm (.int .i64 0), .imm (.int .i64 0), .imm (.int .i64 0), .imm (.int .i64 0), .imm (.int .i64 0), .imm (.int .i64 0), .imm (.int .i64 0), .imm (.int .i64 0), .imm (.int .i64 0), .imm (.int .i64 0), .imm (.int .i64 0), .imm (.int .i64 0), .imm (.int .i64 0), .imm (.int .i64 0), .imm (.int .i64 0), .imm (.int .i64 0), .imm (.int .i64 0), .imm (.int .i64 0), .imm (.int .i64 0), .imm (.int .i64 0), .imm (.int .i64 0), .imm (.int .i64 0), .imm (.int .i64 0), .imm (.int .i64 0), .imm (.int .i64 0), .imm (.int .i64 0), .imm (.int .i64 0), .imm (.int .i64 0), .imm (.int .i64 0), .imm (.int .i64 0), .imm (.int .i64 0), .imm (.bool false), .imm (.slice none 0 0)]) 0 β.lo := FillT.start rfl rfl (goLn hg V)
  refine loop_runW4 [] [] heff hhd hg fits (by kernel_rfl) (fun s : Int × List (List AC) => [(0, .t (.c (.view V))), (3, .t (.c (.own 0))), (4, .t (ai s.1))]) (fun s => [.rw ⟨106, 64, s.2⟩]) (fun s => FillT 64 V s.2 s.1 β.lo) (fun s => (lenI V).toNat - s.1.toNat)
    (0, g .rp (g .ln V) [.imm (.int .i64 0), .imm (.slice none 0 0), .imm (.int .i64 0), .imm (.int .i64 0), .imm (.int .i64 0), .imm (.int .i64 0), .imm (.int .i64 0), .imm (.int .i64 0), .imm (.bool false), .imm (.bool false), .imm (.int .i64 0), .imm (.int .i64 0), .imm (.int .i64 0), .imm (.int .i64 0), .imm (.int .i64 0), .imm (.int .i64 0), .imm (.int .i64 0), .imm (.int .i64 0), .imm (.int .i64 0), .imm (.int .i64 0), .imm (.int .i64 0), .imm (.int .i64 0), .imm (.int .i64 0), .imm (.int .i64 0), .imm (.int .i64 0), .imm (.int .i64 0), .imm (.int .i64 0), .imm (.int .i64 0), .imm (.int .i64 0), .imm (.int .i64 0), .imm (.int .i64 0), .imm (.int .i64 0), .imm (.int .i64 0), .imm (.int .i64 0), .imm (.int .i64 0), .imm (.int .i64 0), .imm (.int .i64 0), .imm (.int .i64 0), .imm (.int .i64 0), .imm (.int .i64 0), .imm (.int .i64 0), .imm (.int .i64 0), .imm (.int .i64 0), .imm (.int .i64 0), .imm (.int .i64 0), .imm (.int .i64 0), .imm (.int .i64 0), .imm (.int .i64 0), .imm (.int .i64 0), .imm (.int .i64 0), .imm (.int .i64 0), .imm (.int .i64 0), .imm (.int .i64 0), .imm (.int .i64 0), .imm (.int .i64 0), .imm (.int .i64 0), .imm (.int .i64 0), .imm (.int .i64 0), .imm (.int .i64 0), .imm (.int .i64 0), .imm (.int .i64 0), .imm (.int .i64 0), .imm (.bool false), .imm (.slice none 0 0)]) ?_ (Wk.weak (wkS [0] (by decide) ⟨⟨_, rfl, rfl, ?_⟩, trivial⟩ ⟨rfl, rfl, rfl, trivial⟩)) (fun s B hs' hB => ?_)
  · simp only [goRp hg]; exact hst
  · simp only [goRp hg]; exact bare_plainE hst.bare
  · obtain ⟨z, es⟩ := s
    simp only at hs'
    have h0 := hs'.z0
    have h1 := hs'.z1
    have hlen := hs'.len
    cbv
    cases hc : g .q .lss z (g .ln V)
    · cbv
      rw [goLss hg, goLn hg, decide_eq_false_iff_not] at hc
      have hall := hs'.all hc
      refine finTS hF fun bl hbl => ⟨[.c (.fv (hd1 (bl 0) es ++ fpE es) V)], .c (by have := ress_bareRow (bl := bl) (h := toH [.rw ⟨106, 64, es⟩]) (r := 0) (ab := ⟨106, 64, es⟩) rfl hs'.bare; rw [hall] at this; exact this) .nil, ⟨_, rfl, blk_row hbl (r := 0) (ab := ⟨_, _, es⟩) rfl hs'.new⟩, rfl, rfl⟩
    · cbv
      rw [goLss hg, goLn hg, decide_eq_true_eq] at hc
      obtain ⟨x, hx⟩ := at_z (xs := xs) h0 (lt_viaN hVx hc)
      have hsx := hs x (List.mem_of_getElem? hx)
      have hyy : V[z.toNat]? = some x.ac := by rw [hV]; exact vwA_at hx
      have cx := laws_toNode_t x hsx
      obtain ⟨a0, a1, ⟨a2, a3, a4, a5, a6, a7, a8, a9, a10, a11, a12, ⟨a13, a14⟩, ⟨a15, a16⟩, ⟨a17, a18⟩, ⟨a19, a20⟩, ⟨a21, a22⟩, ⟨a23, a24⟩, ⟨a25, a26⟩, a27, ⟨⟨a28, a29⟩, ⟨a30, a31⟩, ⟨a32, a33⟩, ⟨a34, a35⟩, ⟨a36, a37⟩, ⟨a38, a39⟩⟩, ⟨⟨a40, a41⟩, ⟨a42, a43⟩, ⟨a44, a45⟩, ⟨a46, a47⟩, ⟨a48, a49⟩, ⟨a50, a51⟩⟩, ⟨a52, a53, a54, a55⟩, ⟨a56, a57, a58, a59⟩, a60, a61⟩, a62, ⟨a63⟩⟩ := x
      replace hyy : V[z.toNat]? = some [.imm (.int .i64 a0), .view (vw intC a1), .imm (.int .i64 a2), .imm (.int .i64 a3), .imm (.int .i64 a4), .imm (.int .i64 a5), .imm (.int .i64 a6), .imm (.int .i64 a7), .imm (.bool a8), .imm (.bool a9), .imm (.int .i64 a10), .imm (.int .i64 a11), .imm (.int .i64 a12), .imm (.int .i64 a13), .imm (.int .i64 a14), .imm (.int .i64 a15), .imm (.int .i64 a16), .imm (.int .i64 a17), .imm (.int .i64 a18), .imm (.int .i64 a19), .imm (.int .i64 a20), .imm (.int .i64 a21), .imm (.int .i64 a22), .imm (.int .i64 a23), .imm (.int .i64 a24), .imm (.int .i64 a25), .imm (.int .i64 a26), .imm (.int .i64 a27), .imm (.int .i64 a28), .imm (.int .i64 a29), .imm (.int .i64 a30), .imm (.int .i64 a31), .imm (.int .i64 a32), .imm (.int .i64 a33), .imm (.int .i64 a34), .imm (.int .i64 a35), .imm (.int .i64 a36), .imm (.int .i64 a37), .imm (.int .i64 a38), .imm (.int .i64 a39), .imm (.int .i64 a40), .imm (.int .i64 a41), .imm (.int .i64 a42), .imm (.int .i64 a43), .imm (.int .i64 a44), .imm (.int .i64 a45), .imm (.int .i64 a46), .imm (.int .i64 a47), .imm (.int .i64 a48), .imm (.int .i64 a49), .imm (.int .i64 a50), .imm (.int .i64 a51), .imm (.int .i64 a52), .imm (.int .i64 a53), .imm (.int .i64 a54), .imm (.int .i64 a55), .imm (.int .i64 a56), .imm (.int .i64 a57), .imm (.int .i64 a58), .imm (.int .i64 a59), .imm (.int .i64 a60), .imm (.int .i64 a61), .imm (.bool a62), .view (vw GRule.c a63)] := hyy
      replace cx : TCon _ _ [.agg [.imm (.int .i64 a0), .view (vw intC a1), .imm (.int .i64 a2), .imm (.int .i64 a3), .imm (.int .i64 a4), .imm (.int .i64 a5), .imm (.int .i64 a6), .imm (.int .i64 a7), .imm (.bool a8), .imm (.bool a9), .imm (.int .i64 a10), .imm (.int .i64 a11), .imm (.int .i64 a12), .imm (.int .i64 a13), .imm (.int .i64 a14), .imm (.int .i64 a15), .imm (.int .i64 a16), .imm (.int .i64 a17), .imm (.int .i64 a18), .imm (.int .i64 a19), .imm (.int .i64 a20), .imm (.int .i64 a21), .imm (.int .i64 a22), .imm (.int .i64 a23), .imm (.int .i64 a24), .imm (.int .i64 a25), .imm (.int .i64 a26), .imm (.int .i64 a27), .imm (.int .i64 a28), .imm (.int .i64 a29), .imm (.int .i64 a30), .imm (.int .i64 a31), .imm (.int .i64 a32), .imm (.int .i64 a33), .imm (.int .i64 a34), .imm (.int .i64 a35), .imm (.int .i64 a36), .imm (.int .i64 a37), .imm (.int .i64 a38), .imm (.int .i64 a39), .imm (.int .i64 a40), .imm (.int .i64 a41), .imm (.int .i64 a42), .imm (.int .i64 a43), .imm (.int .i64 a44), .imm (.int .i64 a45), .imm (.int .i64 a46), .imm (.int .i64 a47), .imm (.int .i64 a48), .imm (.int .i64 a49), .imm (.int .i64 a50), .imm (.int .i64 a51), .imm (.int .i64 a52), .imm (.int .i64 a53), .imm (.int .i64 a54), .imm (.int .i64 a55), .imm (.int .i64 a56), .imm (.int .i64 a57), .imm (.int .i64 a58), .imm (.int .i64 a59), .imm (.int .i64 a60), .imm (.int .i64 a61), .imm (.bool a62), .view (vw GRule.c a63)]] (fun lo res rows => (∃ b1 b63, res = .t (.agg [.imm (.int .i64 a0), .fv b1 (vw intC a1), .imm (.int .i64 a2), .imm (.int .i64 a3), .imm (.int .i64 a4), .imm (.int .i64 a5), .imm (.int .i64 a6), .imm (.int .i64 a7), .imm (.bool a8), .imm (.bool a9), .imm (.int .i64 a10), .imm (.int .i64 a11), .imm (.int .i64 a12), .imm (.int .i64 a13), .imm (.int .i64 a14), .imm (.int .i64 a15), .imm (.int .i64 a16), .imm (.int .i64 a17), .imm (.int .i64 a18), .imm (.int .i64 a19), .imm (.int .i64 a20), .imm (.int .i64 a21), .imm (.int .i64 a22), .imm (.int .i64 a23), .imm (.int .i64 a24), .imm (.int .i64 a25), .imm (.int .i64 a26), .imm (.int .i64 a27), .imm (.int .i64 a28), .imm (.int .i64 a29), .imm (.int .i64 a30), .imm (.int .i64 a31), .imm (.int .i64 a32), .imm (.int .i64 a33), .imm (.int .i64 a34), .imm (.int .i64 a35), .imm (.int .i64 a36), .imm (.int .i64 a37), .imm (.int .i64 a38), .imm (.int .i64 a39), .imm (.int .i64 a40), .imm (.int .i64 a41), .imm (.int .i64 a42), .imm (.int .i64 a43), .imm (.int .i64 a44), .imm (.int .i64 a45), .imm (.int .i64 a46), .imm (.int .i64 a47), .imm (.int .i64 a48), .imm (.int .i64 a49), .imm (.int .i64 a50), .imm (.int .i64 a51), .imm (.int .i64 a52), .imm (.int .i64 a53), .imm (.int .i64 a54), .imm (.int .i64 a55), .imm (.int .i64 a56), .imm (.int .i64 a57), .imm (.int .i64 a58), .imm (.int .i64 a59), .imm (.int .i64 a60), .imm (.int .i64 a61), .imm (.bool a62), .fv b63 (vw GRule.c a63)]) ∧ NewB lo (b1 ++ b63)) ∧ plainV res = true ∧ rows = []) := cx
      obtain ⟨Va1, hVa1⟩ : ∃ V, V = vw intC a1 := ⟨_, rfl⟩
      obtain ⟨Va63, hVa63⟩ : ∃ V, V = vw GRule.c a63 := ⟨_, rfl⟩
      rw [← hVa1, ← hVa63] at hyy cx
      refine goX hg _ h0 hyy rfl ?_
      cbv
      refine callT0 hg cx (dwA_same rfl) (fun lo res q1 q2 q3 ⟨b1, b63, hres, hn⟩ => ?_)
      subst hres
      have hlt : ∀ b ∈ fpE es, b < lo := fun b hb => q2 b (List.mem_append_left _ hb)
      clear q2 q3
      cbv
      obtain ⟨j, hj⟩ : ∃ j, j = z.toNat := ⟨_, rfl⟩
      refine goYt hg h0 hj (lt_lenJ h0 (lt_eqI hlen hc) hj) ?_
      cbv
      refine goN hg (hs'.mem (lt_lenJ h0 (lt_eqI hlen hc) hj)) ?_
      cbv
      have h2 : g .w .add .i64 z 1 = z + 1 := by rw [goAdd hg, wrap_small _ (by omega)]
      rw [h2, goSt hg]
      have hs2 := hs'.step (y := [.imm (.int .i64 a0), .fv b1 Va1, .imm (.int .i64 a2), .imm (.int .i64 a3), .imm (.int .i64 a4), .imm (.int .i64 a5), .imm (.int .i64 a6), .imm (.int .i64 a7), .imm (.bool a8), .imm (.bool a9), .imm (.int .i64 a10), .imm (.int .i64 a11), .imm (.int .i64 a12), .imm (.int .i64 a13), .imm (.int .i64 a14), .imm (.int .i64 a15), .imm (.int .i64 a16), .imm (.int .i64 a17), .imm (.int .i64 a18), .imm (.int .i64 a19), .imm (.int .i64 a20), .imm (.int .i64 a21), .imm (.int .i64 a22), .imm (.int .i64 a23), .imm (.int .i64 a24), .imm (.int .i64 a25), .imm (.int .i64 a26), .imm (.int .i64 a27), .imm (.int .i64 a28), .imm (.int .i64 a29), .imm (.int .i64 a30), .imm (.int .i64 a31), .imm (.int .i64 a32), .imm (.int .i64 a33), .imm (.int .i64 a34), .imm (.int .i64 a35), .imm (.int .i64 a36), .imm (.int .i64 a37), .imm (.int .i64 a38), .imm (.int .i64 a39), .imm (.int .i64 a40), .imm (.int .i64 a41), .imm (.int .i64 a42), .imm (.int .i64 a43), .imm (.int .i64 a44), .imm (.int .i64 a45), .imm (.int .i64 a46), .imm (.int .i64 a47), .imm (.int .i64 a48), .imm (.int .i64 a49), .imm (.int .i64 a50), .imm (.int .i64 a51), .imm (.int .i64 a52), .imm (.int .i64 a53), .imm (.int .i64 a54), .imm (.int .i64 a55), .imm (.int .i64 a56), .imm (.int .i64 a57), .imm (.int .i64 a58), .imm (.int .i64 a59), .imm (.int .i64 a60), .imm (.int .i64 a61), .imm (.bool a62), .fv b63 Va63]) hc hj hyy rfl rfl rfl q1 (by simpa [fpL, fpC] using hn) hlt
      rw [hB]
      exact ⟨(z + 1, _), hs2, by show (lenI V).toNat - (z + 1).toNat < (lenI V).toNat - z.toNat; omega, Wk.weak (wkS [0] (by decide) ⟨⟨_, rfl, rfl, bare_plainE hs2.bare⟩, trivial⟩ ⟨rfl, rfl, rfl, trivial⟩)⟩
set_option maxHeartbeats 8000000 in
theorem laws_toTree_t (x : NTree) (hs : x.small) : TCon Tryz.prog 36 [.agg x.ac] fun lo res rows => (∃ b, res = .t (.agg [.fv b (vwA NNode.ac x.nodes)]) ∧ NewB lo b) ∧ plainV res = true ∧ rows = [] := by
  obtain ⟨a0⟩ := x
  obtain ⟨sa0, ua0, -⟩ := hs
  show TCon _ _ [.agg [.view (vwA NNode.ac a0)]] (fun lo res rows => (∃ b, res = .t (.agg [.fv b (vwA NNode.ac a0)]) ∧ NewB lo b) ∧ plainV res = true ∧ rows = [])
  have c0 := laws_toNodeS_t a0 sa0 ua0
  obtain ⟨Va0, hVa0⟩ : ∃ V, V = vwA NNode.ac a0 := ⟨_, rfl⟩
  rw [← hVa0] at c0
  rw [← hVa0]
  refine tcon_run ([]) ([]) (c := body Tryz.f36) fits Tryz.func36 (by kernel_rfl) (by kernel_rfl) (by rfl) (by kernel_rfl) fun β g eff hd F heff hhd hg hF => ?_
  cbv
  refine callT0 hg c0 (dwA_same rfl) (fun lo res h1 h2 h3 ⟨b, hres, hn⟩ => ?_)
  subst hres
  clear h2 h3
  cbv
  exact finT0 hF rfl ⟨⟨b, rfl, hn.mono h1⟩, rfl, rfl⟩
end Go.Proofs.YtenbloaopcfdlaaGreat
namespace Go.Proofs.YtenbloaopcfdlaaGreat
open Go.ChangeShapes Go.WideShapes Go.ChangeAt Go.RowKit Am
set_option linter.unusedVariables false
set_option linter.unusedSimpArgs false
set_option maxRecDepth 100000
def upD (ns : List NNode) : Nat → Int → Prop
  | 0, n => isN ns n = false
  | k + 1, n => isN ns n = false ∨ upD ns k (upN ns n)
theorem upD_out {ns : List NNode} {n : Int} (h : isN ns n = false) : ∀ k, upD ns k n
  | 0 => h
  | _ + 1 => .inl h
theorem isN_zero (ns : List NNode) : isN ns 0 = false := by simp [isN, rng]
theorem upD_dep {ns : List NNode} : ∀ (f : Nat) (k n : Int), depF ns f k n ≠ 0 → upD ns f n
  | 0, k, n, h => by
    by_cases h0 : n = 0
    · subst h0; exact isN_zero ns
    · exact absurd (dep_end ns h0) h
  | f + 1, k, n, h => by
    by_cases h0 : n = 0
    · subst h0; exact .inl (isN_zero ns)
    · cases hi : isN ns n
      · exact .inl hi
      · rw [dep_step ns h0 hi] at h
        exact .inr (upD_dep f _ _ h)
theorem upD_all {ns : List NNode} (h : treeB ns = true) (n : Int) : upD ns ns.length n := by
  cases hi : isN ns n
  · exact upD_out hi _
  · obtain ⟨i1, i2, x, hx⟩ := isN_at hi
    simp only [treeB, Bool.and_eq_true] at h
    have h3 := (goT_iff ns ns 0).1 h.2 (n - 1).toNat x hx
    rw [show (0 : Int) + (((n - 1).toNat : Nat) : Int) + 1 = n by omega] at h3
    simp only [nodeOk, Bool.and_eq_true, rng, decide_eq_true_eq] at h3
    exact upD_dep _ 0 n (by show depN ns n ≠ 0; omega)
end Go.Proofs.YtenbloaopcfdlaaGreat
namespace Go.Proofs.YtenbloaopcfdlaaGreat
open Go.ChangeShapes Go.WideShapes Go.ChangeAt Go.RowKit Am
set_option linter.unusedVariables false
set_option linter.unusedSimpArgs false
set_option maxRecDepth 100000
def undF (ns : List NNode) (a : Int) : Nat → Int → Bool
  | 0, _ => false
  | k + 1, n => isN ns n && (if upN ns n = a then isN ns a else undF ns a k (upN ns n))
theorem undF_no {ns : List NNode} {a : Int} (h : isN ns a = false) : ∀ (k : Nat) (n : Int), undF ns a k n = false
  | 0, n => rfl
  | k + 1, n => by unfold undF; rw [h, undF_no h k]; simp
theorem undF_out {ns : List NNode} {a n : Int} (h : isN ns n = false) (k : Nat) : undF ns a k n = false := by cases k <;> simp [undF, h]
theorem undF_hit {ns : List NNode} {a n u : Int} (h : isN ns n = true) (hu : upN ns n = u) (hs : u = a) (k : Nat) : undF ns a (k + 1) n = isN ns a := by rw [undF, h, hu, if_pos hs]; rfl
theorem undF_up {ns : List NNode} {a n u : Int} (h : isN ns n = true) (hu : upN ns n = u) (hs : u ≠ a) (k : Nat) : undF ns a (k + 1) n = undF ns a k u := by rw [undF, h, hu, if_neg hs]; rfl
theorem undF_stable {ns : List NNode} {a : Int} : ∀ (k : Nat) (n : Int), upD ns k n → undF ns a (k + 1) n = undF ns a k n
  | 0, n, h => undF_out h 1
  | k + 1, n, h => by
    rcases h with h | h
    · rw [undF_out h, undF_out h]
    · have := undF_stable (a := a) k _ h
      show (isN ns n && (if upN ns n = a then isN ns a else undF ns a (k + 1) (upN ns n))) = (isN ns n && (if upN ns n = a then isN ns a else undF ns a k (upN ns n)))
      rw [this]
set_option maxHeartbeats 8000000 in
theorem impl_IsUnder_a (ns : List NNode) (hl : ns.length ≤ 1048576) (n0 a : Int) : PCon Tryz.prog 111 [.agg [.view (vwA NNode.ac ns)], ai n0, ai a] fun res rows => res = .t (abl (undF ns a ns.length n0)) ∧ rows = [] := by
  obtain ⟨T, hT⟩ : ∃ T, T = vwA NNode.ac ns := ⟨_, rfl⟩
  have hTx : lenI T = (ns.length : Int) := by rw [lenI_eq, hT, vwA_length]
  have hisN : ∀ n, isN ns n = rng n 1 (lenI T) := fun n => by rw [hTx]; rfl
  have hT1 : lenI T ≤ 1048576 := by omega
  have hT0 : 0 ≤ lenI T := by omega
  have hfu : ∀ z : Int, 0 ≤ z → z < lenI T → ns.length - z.toNat = (ns.length - (z + 1).toNat) + 1 := fun d h0 h1 => dep_fuel hTx h0 h1
  have hfe : ∀ z : Int, ¬ z < lenI T → ns.length - z.toNat = 0 := fun z h => by omega
  obtain ⟨R, hR⟩ : ∃ R, R = undF ns a ns.length n0 := ⟨_, rfl⟩
  have hst : undF ns a (ns.length - (0 : Int).toNat) n0 = R := by rw [hR]; rfl
  rw [← hR, ← hT]
  have ca := impl_isNode_a T a
  rw [← hisN a] at ca
  refine pcon_run (c := body Tryz.f111) fits Tryz.func111 (by kernel_rfl) (by kernel_rfl) (by rfl) (by kernel_rfl) fun g F hg hF => ?_
  cbv
  cases hia : isN ns a
  case false =>
    rw [hia] at ca
    refine call0 hg ca rfl rfl ?_
    cbv
    exact fin0b hF (by rw [hR, undF_no hia])
  rw [hia] at ca
  refine call0 hg ca rfl rfl ?_
  cbv
  have cn := impl_isNode_a T n0
  rw [← hisN n0] at cn
  cases hin : isN ns n0
  case false =>
    rw [hin] at cn
    refine call0 hg cn rfl rfl ?_
    cbv
    exact fin0b hF (by rw [hR, undF_out hin])
  rw [hin] at cn
  refine call0 hg cn rfl rfl ?_
  cbv
  refine loop_run hg fits (by kernel_rfl) (fun s : Int × Int => [(1, .t (ai s.2)), (2, .t (ai a)), (3, .t (.c (.ptr 0 0 0))), (19, .t (ai (g .ln T))), (20, .t (ai s.1))]) (fun _ => [.bx 43 1 [.view T]]) (fun s => 0 ≤ s.1 ∧ isN ns s.2 = true ∧ undF ns a (ns.length - s.1.toNat) s.2 = R) (fun s => (lenI T).toNat - s.1.toNat)
    (0, n0) [some 0] ⟨Int.le_refl 0, hin, hst⟩ (wkS [0] (by decide) ⟨⟨_, rfl, rfl, rfl⟩, trivial⟩ ⟨rfl, rfl, rfl, rfl, rfl, trivial⟩) (fun s B hs hB => ?_)
  obtain ⟨z, n⟩ := s
  obtain ⟨h0, hi, hU⟩ := hs
  simp only at h0 hi hU
  cbv
  cases hc : g .q .lss z (g .ln T)
  · rw [goLss hg, goLn hg, decide_eq_false_iff_not] at hc
    cbv
    exact fin0b hF (by rw [← hU, hfe z hc]; rfl)
  rw [goLss hg, goLn hg, decide_eq_true_eq] at hc
  cbv
  obtain ⟨i1, i2, x, hx⟩ := isN_at hi
  have hi2 : n ≤ 1048576 := Int.le_trans (hTx ▸ i2) hT1
  have htt : T[(n - 1).toNat]? = some x.ac := by rw [hT]; exact vwA_at hx
  have hun := upN_at hx
  rw [hfu z h0 hc] at hU
  obtain ⟨b0, b1, ⟨b2, b3, b4, b5, b6, b7, b8, b9, b10, b11, b12, ⟨b13, b14⟩, ⟨b15, b16⟩, ⟨b17, b18⟩, ⟨b19, b20⟩, ⟨b21, b22⟩, ⟨b23, b24⟩, ⟨b25, b26⟩, b27, ⟨⟨b28, b29⟩, ⟨b30, b31⟩, ⟨b32, b33⟩, ⟨b34, b35⟩, ⟨b36, b37⟩, ⟨b38, b39⟩⟩, ⟨⟨b40, b41⟩, ⟨b42, b43⟩, ⟨b44, b45⟩, ⟨b46, b47⟩, ⟨b48, b49⟩, ⟨b50, b51⟩⟩, ⟨b52, b53, b54, b55⟩, ⟨b56, b57, b58, b59⟩, b60, b61⟩, b62, ⟨b63⟩⟩ := x
  replace htt : T[(n - 1).toNat]? = some [.imm (.int .i64 b0), .view (vw intC b1), .imm (.int .i64 b2), .imm (.int .i64 b3), .imm (.int .i64 b4), .imm (.int .i64 b5), .imm (.int .i64 b6), .imm (.int .i64 b7), .imm (.bool b8), .imm (.bool b9), .imm (.int .i64 b10), .imm (.int .i64 b11), .imm (.int .i64 b12), .imm (.int .i64 b13), .imm (.int .i64 b14), .imm (.int .i64 b15), .imm (.int .i64 b16), .imm (.int .i64 b17), .imm (.int .i64 b18), .imm (.int .i64 b19), .imm (.int .i64 b20), .imm (.int .i64 b21), .imm (.int .i64 b22), .imm (.int .i64 b23), .imm (.int .i64 b24), .imm (.int .i64 b25), .imm (.int .i64 b26), .imm (.int .i64 b27), .imm (.int .i64 b28), .imm (.int .i64 b29), .imm (.int .i64 b30), .imm (.int .i64 b31), .imm (.int .i64 b32), .imm (.int .i64 b33), .imm (.int .i64 b34), .imm (.int .i64 b35), .imm (.int .i64 b36), .imm (.int .i64 b37), .imm (.int .i64 b38), .imm (.int .i64 b39), .imm (.int .i64 b40), .imm (.int .i64 b41), .imm (.int .i64 b42), .imm (.int .i64 b43), .imm (.int .i64 b44), .imm (.int .i64 b45), .imm (.int .i64 b46), .imm (.int .i64 b47), .imm (.int .i64 b48), .imm (.int .i64 b49), .imm (.int .i64 b50), .imm (.int .i64 b51), .imm (.int .i64 b52), .imm (.int .i64 b53), .imm (.int .i64 b54), .imm (.int .i64 b55), .imm (.int .i64 b56), .imm (.int .i64 b57), .imm (.int .i64 b58), .imm (.int .i64 b59), .imm (.int .i64 b60), .imm (.int .i64 b61), .imm (.bool b62), .view (vw GRule.c b63)] := htt
  obtain ⟨Vb1, hVb1⟩ : ∃ V, V = vw intC b1 := ⟨_, rfl⟩
  obtain ⟨Vb63, hVb63⟩ : ∃ V, V = vw GRule.c b63 := ⟨_, rfl⟩
  rw [← hVb1, ← hVb63] at htt
  simp only at hun
  refine call0 hg (impl_node_a T n i1 hi2 htt) rfl rfl ?_
  cbv
  have cb := impl_isNode_a T b0
  rw [← hisN b0] at cb
  cases hib : isN ns b0
  case false =>
    rw [hib] at cb
    refine call0 hg cb rfl rfl ?_
    cbv
    refine fin0b hF ?_
    rw [← hU, undF_up hi hun (fun h => by rw [h, hia] at hib; cases hib), undF_out hib]
  rw [hib] at cb
  refine call0 hg cb rfl rfl ?_
  cbv
  cases he : g .q .eql b0 a
  case true =>
    rw [goEql hg, beq_iff_eq] at he
    cbv
    exact fin0b hF (by rw [← hU, undF_hit hi hun he, hia])
  rw [goEql hg, beq_eq_false_iff_ne] at he
  rw [undF_up hi hun he] at hU
  cbv
  have e1 : g .w .add .i64 z 1 = z + 1 := by rw [goAdd hg, wrap_small _ (by omega)]
  rw [e1]
  exact back hB (z + 1, b0) [some 0] (wkS [0] (by decide) ⟨⟨_, rfl, rfl, rfl⟩, trivial⟩ ⟨rfl, rfl, rfl, rfl, rfl, trivial⟩) ⟨by simp only; omega, hib, hU⟩ (by show (lenI T).toNat - (z + 1).toNat < (lenI T).toNat - z.toNat; omega)
set_option maxHeartbeats 8000000 in
theorem spec_IsUnder_a (ns : List NNode) (hl : ns.length ≤ 1048576) (n0 a : Int) (hud : upD ns ns.length n0) : PCon Tryz.prog 110 [.agg [.view (vwA NNode.ac ns)], ai n0, ai a] fun res rows => res = .t (abl (undF ns a ns.length n0)) ∧ rows = [] := by
  rw [← undF_stable ns.length n0 hud]
  clear hud
  obtain ⟨T, hT⟩ : ∃ T, T = vwA NNode.ac ns := ⟨_, rfl⟩
  have hTx : lenI T = (ns.length : Int) := by rw [lenI_eq, hT, vwA_length]
  have hisN : ∀ n, isN ns n = rng n 1 (lenI T) := fun n => by rw [hTx]; rfl
  have hT1 : lenI T ≤ 1048576 := by omega
  have hT0 : 0 ≤ lenI T := by omega
  have hfu : ∀ z : Int, 0 ≤ z → z ≤ lenI T → ns.length + 1 - z.toNat = (ns.length + 1 - (z + 1).toNat) + 1 := fun d h0 h1 => by omega
  have hfe : ∀ z : Int, ¬ z ≤ lenI T → ns.length + 1 - z.toNat = 0 := fun z h => by omega
  obtain ⟨R, hR⟩ : ∃ R, R = undF ns a (ns.length + 1) n0 := ⟨_, rfl⟩
  have hst : undF ns a (ns.length + 1 - (0 : Int).toNat) n0 = R := by rw [hR]; rfl
  rw [← hR, ← hT]
  have ca := spec_l10Is_a T a
  rw [← hisN a] at ca
  refine pcon_run (c := body Tryz.f110) fits Tryz.func110 (by kernel_rfl) (by kernel_rfl) (by rfl) (by kernel_rfl) fun g F hg hF => ?_
  cbv
  refine loop_run hg fits (by kernel_rfl) (fun s : Int × Int => [(1, .t (ai s.2)), (2, .t (ai a)), (3, .t (.c (.ptr 0 0 0))), (7, .t (ai s.1))]) (fun _ => [.bx 43 1 [.view T]]) (fun s => 0 ≤ s.1 ∧ undF ns a (ns.length + 1 - s.1.toNat) s.2 = R) (fun s => (lenI T + 1).toNat - s.1.toNat)
    (0, n0) [some 0] ⟨Int.le_refl 0, hst⟩ (wkS [0] (by decide) ⟨⟨_, rfl, rfl, rfl⟩, trivial⟩ ⟨rfl, rfl, rfl, rfl, trivial⟩) (fun s B hs hB => ?_)
  obtain ⟨z, n⟩ := s
  obtain ⟨h0, hU⟩ := hs
  simp only at h0 hU
  cbv
  cases hc : g .q .leq z (g .ln T)
  · rw [goLeq hg, goLn hg, decide_eq_false_iff_not] at hc
    cbv
    exact fin0b hF (by rw [← hU, hfe z hc]; rfl)
  rw [goLeq hg, goLn hg, decide_eq_true_eq] at hc
  cbv
  have cn := spec_l10Is_a T n
  rw [← hisN n] at cn
  cases hi : isN ns n
  case false =>
    rw [hi] at cn
    refine call0 hg cn rfl rfl ?_
    cbv
    exact fin0b hF (by rw [← hU, undF_out hi])
  rw [hi] at cn
  refine call0 hg cn rfl rfl ?_
  cbv
  obtain ⟨i1, i2, x, hx⟩ := isN_at hi
  have hi2 : n ≤ 1048576 := Int.le_trans (hTx ▸ i2) hT1
  have htt : T[(n - 1).toNat]? = some x.ac := by rw [hT]; exact vwA_at hx
  have hun := upN_at hx
  rw [hfu z h0 hc] at hU
  obtain ⟨b0, b1, ⟨b2, b3, b4, b5, b6, b7, b8, b9, b10, b11, b12, ⟨b13, b14⟩, ⟨b15, b16⟩, ⟨b17, b18⟩, ⟨b19, b20⟩, ⟨b21, b22⟩, ⟨b23, b24⟩, ⟨b25, b26⟩, b27, ⟨⟨b28, b29⟩, ⟨b30, b31⟩, ⟨b32, b33⟩, ⟨b34, b35⟩, ⟨b36, b37⟩, ⟨b38, b39⟩⟩, ⟨⟨b40, b41⟩, ⟨b42, b43⟩, ⟨b44, b45⟩, ⟨b46, b47⟩, ⟨b48, b49⟩, ⟨b50, b51⟩⟩, ⟨b52, b53, b54, b55⟩, ⟨b56, b57, b58, b59⟩, b60, b61⟩, b62, ⟨b63⟩⟩ := x
  replace htt : T[(n - 1).toNat]? = some [.imm (.int .i64 b0), .view (vw intC b1), .imm (.int .i64 b2), .imm (.int .i64 b3), .imm (.int .i64 b4), .imm (.int .i64 b5), .imm (.int .i64 b6), .imm (.int .i64 b7), .imm (.bool b8), .imm (.bool b9), .imm (.int .i64 b10), .imm (.int .i64 b11), .imm (.int .i64 b12), .imm (.int .i64 b13), .imm (.int .i64 b14), .imm (.int .i64 b15), .imm (.int .i64 b16), .imm (.int .i64 b17), .imm (.int .i64 b18), .imm (.int .i64 b19), .imm (.int .i64 b20), .imm (.int .i64 b21), .imm (.int .i64 b22), .imm (.int .i64 b23), .imm (.int .i64 b24), .imm (.int .i64 b25), .imm (.int .i64 b26), .imm (.int .i64 b27), .imm (.int .i64 b28), .imm (.int .i64 b29), .imm (.int .i64 b30), .imm (.int .i64 b31), .imm (.int .i64 b32), .imm (.int .i64 b33), .imm (.int .i64 b34), .imm (.int .i64 b35), .imm (.int .i64 b36), .imm (.int .i64 b37), .imm (.int .i64 b38), .imm (.int .i64 b39), .imm (.int .i64 b40), .imm (.int .i64 b41), .imm (.int .i64 b42), .imm (.int .i64 b43), .imm (.int .i64 b44), .imm (.int .i64 b45), .imm (.int .i64 b46), .imm (.int .i64 b47), .imm (.int .i64 b48), .imm (.int .i64 b49), .imm (.int .i64 b50), .imm (.int .i64 b51), .imm (.int .i64 b52), .imm (.int .i64 b53), .imm (.int .i64 b54), .imm (.int .i64 b55), .imm (.int .i64 b56), .imm (.int .i64 b57), .imm (.int .i64 b58), .imm (.int .i64 b59), .imm (.int .i64 b60), .imm (.int .i64 b61), .imm (.bool b62), .view (vw GRule.c b63)] := htt
  obtain ⟨Vb1, hVb1⟩ : ∃ V, V = vw intC b1 := ⟨_, rfl⟩
  obtain ⟨Vb63, hVb63⟩ : ∃ V, V = vw GRule.c b63 := ⟨_, rfl⟩
  rw [← hVb1, ← hVb63] at htt
  simp only at hun
  refine call0 hg (spec_l10Node_a T n i1 hi2 htt) rfl rfl ?_
  cbv
  cases he : g .q .eql b0 a
  case true =>
    rw [goEql hg, beq_iff_eq] at he
    cbv
    refine callB hg ca rfl (fun R1 hR1 => ?_)
    cbv
    exact fin0b hF (by rw [← hU, undF_hit hi hun he, hR1])
  rw [goEql hg, beq_eq_false_iff_ne] at he
  rw [undF_up hi hun he] at hU
  cbv
  have e1 : g .w .add .i64 z 1 = z + 1 := by rw [goAdd hg, wrap_small _ (by omega)]
  rw [e1]
  exact back hB (z + 1, b0) [some 0] (wkS [0] (by decide) ⟨⟨_, rfl, rfl, rfl⟩, trivial⟩ ⟨rfl, rfl, rfl, rfl, trivial⟩) ⟨by simp only; omega, hU⟩ (by show (lenI T + 1).toNat - (z + 1).toNat < (lenI T + 1).toNat - z.toNat; omega)
end Go.Proofs.YtenbloaopcfdlaaGreat
