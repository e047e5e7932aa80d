/- Copies of trees with the blocks that they make. -/
import Derived.Test.YtenbloaopcfdlaaT1
namespace Go.Proofs.Ytenbloaopcfdlaa
open Go.ChangeShapes Go.WideShapes Go.ChangeAt Go.RowKit Am
set_option linter.unusedVariables false
set_option linter.unusedSimpArgs false
set_option maxRecDepth 100000

theorem NewB.swap {lo : Nat} {as_ bs : List Nat} (h : NewB lo (as_ ++ bs)) : NewB lo (bs ++ as_) := by
  obtain ⟨h1, h2, h3⟩ := List.nodup_append.1 h.1
  exact ⟨List.nodup_append.2 ⟨h2, h1, fun a ha b hb he => h3 b hb a ha he.symm⟩, fun b hb => h.2 b (by rcases List.mem_append.1 hb with h | h; exact List.mem_append_right _ h; exact List.mem_append_left _ h)⟩
def NNode.acT (x : NNode) (b1 b63 : List Nat) : List AC :=
  match x with
  | ⟨a0, a1, ⟨a2, a3, a4, a5, a6, a7, a8, a9, a10, a11, a12, ⟨a13, a14⟩, ⟨a15, a16⟩, ⟨a17, a18⟩, ⟨a19, a20⟩, ⟨a21, a22⟩, ⟨a23, a24⟩, ⟨a25, a26⟩, a27, ⟨⟨a28, a29⟩, ⟨a30, a31⟩, ⟨a32, a33⟩, ⟨a34, a35⟩, ⟨a36, a37⟩, ⟨a38, a39⟩⟩, ⟨⟨a40, a41⟩, ⟨a42, a43⟩, ⟨a44, a45⟩, ⟨a46, a47⟩, ⟨a48, a49⟩, ⟨a50, a51⟩⟩, ⟨a52, a53, a54, a55⟩, ⟨a56, a57, a58, a59⟩, a60, a61⟩, a62, ⟨a63⟩⟩ => [.imm (.int .i64 a0), .fv b1 (vw intC a1), .imm (.int .i64 a2), .imm (.int .i64 a3), .imm (.int .i64 a4), .imm (.int .i64 a5), .imm (.int .i64 a6), .imm (.int .i64 a7), .imm (.bool a8), .imm (.bool a9), .imm (.int .i64 a10), .imm (.int .i64 a11), .imm (.int .i64 a12), .imm (.int .i64 a13), .imm (.int .i64 a14), .imm (.int .i64 a15), .imm (.int .i64 a16), .imm (.int .i64 a17), .imm (.int .i64 a18), .imm (.int .i64 a19), .imm (.int .i64 a20), .imm (.int .i64 a21), .imm (.int .i64 a22), .imm (.int .i64 a23), .imm (.int .i64 a24), .imm (.int .i64 a25), .imm (.int .i64 a26), .imm (.int .i64 a27), .imm (.int .i64 a28), .imm (.int .i64 a29), .imm (.int .i64 a30), .imm (.int .i64 a31), .imm (.int .i64 a32), .imm (.int .i64 a33), .imm (.int .i64 a34), .imm (.int .i64 a35), .imm (.int .i64 a36), .imm (.int .i64 a37), .imm (.int .i64 a38), .imm (.int .i64 a39), .imm (.int .i64 a40), .imm (.int .i64 a41), .imm (.int .i64 a42), .imm (.int .i64 a43), .imm (.int .i64 a44), .imm (.int .i64 a45), .imm (.int .i64 a46), .imm (.int .i64 a47), .imm (.int .i64 a48), .imm (.int .i64 a49), .imm (.int .i64 a50), .imm (.int .i64 a51), .imm (.int .i64 a52), .imm (.int .i64 a53), .imm (.int .i64 a54), .imm (.int .i64 a55), .imm (.int .i64 a56), .imm (.int .i64 a57), .imm (.int .i64 a58), .imm (.int .i64 a59), .imm (.int .i64 a60), .imm (.int .i64 a61), .imm (.bool a62), .fv b63 (vw GRule.c a63)]
set_option maxHeartbeats 8000000 in
theorem laws_toTable_t (x : NTable) (hs : x.small) : TCon Try.prog 90 [.agg x.ac] fun lo res rows => (∃ b, res = .t (.agg [.fv b (vw GRule.c x.rules)]) ∧ NewB lo b) ∧ plainV res = true ∧ rows = [] := by
  obtain ⟨a0⟩ := x
  obtain ⟨sa0, -⟩ := hs
  show TCon _ _ [.agg [.view (vw GRule.c a0)]] (fun lo res rows => (∃ b, res = .t (.agg [.fv b (vw GRule.c a0)]) ∧ NewB lo b) ∧ plainV res = true ∧ rows = [])
  have c0 := toRow (laws_toRuleS_a a0 sa0)
  obtain ⟨Va0, hVa0⟩ : ∃ Va0, Va0 = vw GRule.c a0 := ⟨_, rfl⟩
  have hVa0l : Va0.length = a0.length := by rw [hVa0, vw_length]
  have iVa0 : immE Va0 = true := by rw [hVa0]; exact vw_imm _ _
  have kVa0 : ∀ y ∈ Va0, y.length = 3 := by rw [hVa0]; exact vw_k (c := GRule.c) (k := 3) fun _ => rfl
  have dVa0 : ∀ y ∈ Va0, y.all dat = true := by rw [hVa0]; exact vw_dat
  rw [← hVa0] at c0
  rw [← hVa0]
  refine tcon_run ([]) ([]) (c := body Try.f90) fits Try.func90 (by kernel_rfl) (by kernel_rfl) (by rfl) (by kernel_rfl) fun β g eff hd F heff hhd hg hF => ?_
  cbv
  repeat' (first | (refine callRow hg c0 (dat_data rfl) iVa0 ?_; cbv) | (refine callRowP hg c0 (dat_data rfl) iVa0 ?_; cbv))
  refine finTS hF fun bl hbl => ⟨[.agg [.fv (hd1 (bl 3) Va0) Va0]], .agg (.cons (ress_immRow (r := 3) (ab := ⟨_, _, Va0⟩) rfl iVa0) .nil) .nil, ⟨_, rfl, blk_new hbl (r := 3) (ab := ⟨_, _, Va0⟩) rfl⟩, rfl, rfl⟩
set_option maxHeartbeats 8000000 in
theorem laws_toNode_t (x : NNode) (hs : x.small) : TCon Try.prog 72 [.agg x.ac] fun lo res rows => (∃ b1 b63, res = .t (.agg (x.acT b1 b63)) ∧ NewB lo (b1 ++ b63)) ∧ plainV res = true ∧ rows = [] := by
  obtain ⟨a0, a1, ⟨a2, a3, a4, a5, a6, a7, a8, a9, a10, a11, a12, ⟨a13, a14⟩, ⟨a15, a16⟩, ⟨a17, a18⟩, ⟨a19, a20⟩, ⟨a21, a22⟩, ⟨a23, a24⟩, ⟨a25, a26⟩, a27, ⟨⟨a28, a29⟩, ⟨a30, a31⟩, ⟨a32, a33⟩, ⟨a34, a35⟩, ⟨a36, a37⟩, ⟨a38, a39⟩⟩, ⟨⟨a40, a41⟩, ⟨a42, a43⟩, ⟨a44, a45⟩, ⟨a46, a47⟩, ⟨a48, a49⟩, ⟨a50, a51⟩⟩, ⟨a52, a53, a54, a55⟩, ⟨a56, a57, a58, a59⟩, a60, a61⟩, a62, ⟨a63⟩⟩ := x
  obtain ⟨sa1, sa63, -⟩ := hs
  show TCon _ _ [.agg [.imm (.int .i64 a0), .view (vw intC a1), .imm (.int .i64 a2), .imm (.int .i64 a3), .imm (.int .i64 a4), .imm (.int .i64 a5), .imm (.int .i64 a6), .imm (.int .i64 a7), .imm (.bool a8), .imm (.bool a9), .imm (.int .i64 a10), .imm (.int .i64 a11), .imm (.int .i64 a12), .imm (.int .i64 a13), .imm (.int .i64 a14), .imm (.int .i64 a15), .imm (.int .i64 a16), .imm (.int .i64 a17), .imm (.int .i64 a18), .imm (.int .i64 a19), .imm (.int .i64 a20), .imm (.int .i64 a21), .imm (.int .i64 a22), .imm (.int .i64 a23), .imm (.int .i64 a24), .imm (.int .i64 a25), .imm (.int .i64 a26), .imm (.int .i64 a27), .imm (.int .i64 a28), .imm (.int .i64 a29), .imm (.int .i64 a30), .imm (.int .i64 a31), .imm (.int .i64 a32), .imm (.int .i64 a33), .imm (.int .i64 a34), .imm (.int .i64 a35), .imm (.int .i64 a36), .imm (.int .i64 a37), .imm (.int .i64 a38), .imm (.int .i64 a39), .imm (.int .i64 a40), .imm (.int .i64 a41), .imm (.int .i64 a42), .imm (.int .i64 a43), .imm (.int .i64 a44), .imm (.int .i64 a45), .imm (.int .i64 a46), .imm (.int .i64 a47), .imm (.int .i64 a48), .imm (.int .i64 a49), .imm (.int .i64 a50), .imm (.int .i64 a51), .imm (.int .i64 a52), .imm (.int .i64 a53), .imm (.int .i64 a54), .imm (.int .i64 a55), .imm (.int .i64 a56), .imm (.int .i64 a57), .imm (.int .i64 a58), .imm (.int .i64 a59), .imm (.int .i64 a60), .imm (.int .i64 a61), .imm (.bool a62), .view (vw GRule.c a63)]] (fun lo res rows => (∃ b1 b63, res = .t (.agg [.imm (.int .i64 a0), .fv b1 (vw intC a1), .imm (.int .i64 a2), .imm (.int .i64 a3), .imm (.int .i64 a4), .imm (.int .i64 a5), .imm (.int .i64 a6), .imm (.int .i64 a7), .imm (.bool a8), .imm (.bool a9), .imm (.int .i64 a10), .imm (.int .i64 a11), .imm (.int .i64 a12), .imm (.int .i64 a13), .imm (.int .i64 a14), .imm (.int .i64 a15), .imm (.int .i64 a16), .imm (.int .i64 a17), .imm (.int .i64 a18), .imm (.int .i64 a19), .imm (.int .i64 a20), .imm (.int .i64 a21), .imm (.int .i64 a22), .imm (.int .i64 a23), .imm (.int .i64 a24), .imm (.int .i64 a25), .imm (.int .i64 a26), .imm (.int .i64 a27), .imm (.int .i64 a28), .imm (.int .i64 a29), .imm (.int .i64 a30), .imm (.int .i64 a31), .imm (.int .i64 a32), .imm (.int .i64 a33), .imm (.int .i64 a34), .imm (.int .i64 a35), .imm (.int .i64 a36), .imm (.int .i64 a37), .imm (.int .i64 a38), .imm (.int .i64 a39), .imm (.int .i64 a40), .imm (.int .i64 a41), .imm (.int .i64 a42), .imm (.int .i64 a43), .imm (.int .i64 a44), .imm (.int .i64 a45), .imm (.int .i64 a46), .imm (.int .i64 a47), .imm (.int .i64 a48), .imm (.int .i64 a49), .imm (.int .i64 a50), .imm (.int .i64 a51), .imm (.int .i64 a52), .imm (.int .i64 a53), .imm (.int .i64 a54), .imm (.int .i64 a55), .imm (.int .i64 a56), .imm (.int .i64 a57), .imm (.int .i64 a58), .imm (.int .i64 a59), .imm (.int .i64 a60), .imm (.int .i64 a61), .imm (.bool a62), .fv b63 (vw GRule.c a63)]) ∧ NewB lo (b1 ++ b63)) ∧ plainV res = true ∧ rows = [])
  have c1 := toRow (laws_toIntS_a a1 sa1)
  have c63 := laws_toTable_t ⟨a63⟩ ⟨sa63, trivial⟩
  replace c63 : TCon Try.prog 90 [.agg [.view (vw GRule.c a63)]] (fun lo res rows => (∃ b, res = .t (.agg [.fv b (vw GRule.c a63)]) ∧ NewB lo b) ∧ plainV res = true ∧ rows = []) := c63
  obtain ⟨Va1, hVa1⟩ : ∃ Va1, Va1 = vw intC a1 := ⟨_, rfl⟩
  have hVa1l : Va1.length = a1.length := by rw [hVa1, vw_length]
  have iVa1 : immE Va1 = true := by rw [hVa1]; exact vw_imm _ _
  have kVa1 : ∀ y ∈ Va1, y.length = 1 := by rw [hVa1]; exact vw_k (c := intC) (k := 1) fun _ => rfl
  have dVa1 : ∀ y ∈ Va1, y.all dat = true := by rw [hVa1]; exact vw_dat
  obtain ⟨Va63, hVa63⟩ : ∃ V, V = vw GRule.c a63 := ⟨_, rfl⟩
  rw [← hVa1] at c1
  rw [← hVa63] at c63
  rw [← hVa1, ← hVa63]
  refine tcon_run ([]) ([]) (c := body Try.f72) fits Try.func72 (by kernel_rfl) (by kernel_rfl) (by rfl) (by kernel_rfl) fun β g eff hd F heff hhd hg hF => ?_
  cbv
  repeat' (first | (refine callRow hg c1 (dat_data rfl) iVa1 ?_; cbv) | (refine call0 hg (laws_toStyle_a (⟨a2, a3, a4, a5, a6, a7, a8, a9, a10, a11, a12, ⟨a13, a14⟩, ⟨a15, a16⟩, ⟨a17, a18⟩, ⟨a19, a20⟩, ⟨a21, a22⟩, ⟨a23, a24⟩, ⟨a25, a26⟩, a27, ⟨⟨a28, a29⟩, ⟨a30, a31⟩, ⟨a32, a33⟩, ⟨a34, a35⟩, ⟨a36, a37⟩, ⟨a38, a39⟩⟩, ⟨⟨a40, a41⟩, ⟨a42, a43⟩, ⟨a44, a45⟩, ⟨a46, a47⟩, ⟨a48, a49⟩, ⟨a50, a51⟩⟩, ⟨a52, a53, a54, a55⟩, ⟨a56, a57, a58, a59⟩, a60, a61⟩ : GStyle)) rfl rfl ?_; cbv))
  refine callT0 hg c63 (dwA_same rfl) (fun lo res h1 h2 h3 ⟨b63, hres, hn⟩ => ?_)
  subst hres
  clear h2 h3
  cbv
  refine finTS hF fun bl hbl => ⟨[.agg [.imm (.int .i64 a0), .fv (hd1 (bl 3) Va1) Va1, .imm (.int .i64 a2), .imm (.int .i64 a3), .imm (.int .i64 a4), .imm (.int .i64 a5), .imm (.int .i64 a6), .imm (.int .i64 a7), .imm (.bool a8), .imm (.bool a9), .imm (.int .i64 a10), .imm (.int .i64 a11), .imm (.int .i64 a12), .imm (.int .i64 a13), .imm (.int .i64 a14), .imm (.int .i64 a15), .imm (.int .i64 a16), .imm (.int .i64 a17), .imm (.int .i64 a18), .imm (.int .i64 a19), .imm (.int .i64 a20), .imm (.int .i64 a21), .imm (.int .i64 a22), .imm (.int .i64 a23), .imm (.int .i64 a24), .imm (.int .i64 a25), .imm (.int .i64 a26), .imm (.int .i64 a27), .imm (.int .i64 a28), .imm (.int .i64 a29), .imm (.int .i64 a30), .imm (.int .i64 a31), .imm (.int .i64 a32), .imm (.int .i64 a33), .imm (.int .i64 a34), .imm (.int .i64 a35), .imm (.int .i64 a36), .imm (.int .i64 a37), .imm (.int .i64 a38), .imm (.int .i64 a39), .imm (.int .i64 a40), .imm (.int .i64 a41), .imm (.int .i64 a42), .imm (.int .i64 a43), .imm (.int .i64 a44), .imm (.int .i64 a45), .imm (.int .i64 a46), .imm (.int .i64 a47), .imm (.int .i64 a48), .imm (.int .i64 a49), .imm (.int .i64 a50), .imm (.int .i64 a51), .imm (.int .i64 a52), .imm (.int .i64 a53), .imm (.int .i64 a54), .imm (.int .i64 a55), .imm (.int .i64 a56), .imm (.int .i64 a57), .imm (.int .i64 a58), .imm (.int .i64 a59), .imm (.int .i64 a60), .imm (.int .i64 a61), .imm (.bool a62), .fv b63 Va63]], .agg (by repeat' (first | exact .nil | refine .cons ?_ ?_ | exact .imm _ | exact .fv _ _ | exact ress_immRow (r := 3) (ab := ⟨_, _, Va1⟩) rfl iVa1)) .nil, ⟨_, _, rfl, (blk_tail hbl (r := 3) (ab := ⟨_, _, Va1⟩) rfl (List.mem_singleton.2 rfl) (ps := b63) (ys := Va63) (by simp [AT.cells]) (hn.mono h1)).swap⟩, rfl, rfl⟩
set_option maxHeartbeats 8000000 in
theorem laws_toNodeS_t (xs : List NNode) (hl : xs.length ≤ 1048576) (hs : ∀ y ∈ xs, y.small) : TCon Try.prog 45 [.c (.view (vwA NNode.ac xs))] fun lo res rows => (∃ bs, res = .t (.c (.fv bs (vwA NNode.ac xs))) ∧ NewB lo bs) ∧ plainV res = true ∧ rows = [] := by
  obtain ⟨V, hV⟩ : ∃ V, V = vwA NNode.ac xs := ⟨_, rfl⟩
  have hVl : V.length = xs.length := by rw [hV, vwA_length]
  have hVx : lenI V = (xs.length : Int) := by rw [lenI_eq]; omega
  have hV1 : lenI V ≤ 1048576 := by omega
  rw [← hV]
  refine tcon_run ([]) ([]) (c := body Try.f45) fits Try.func45 (by kernel_rfl) (by kernel_rfl) (by rfl) (by kernel_rfl) fun β g eff hd F heff hhd hg hF => ?_
  cbv
  refine goMk hg (by decide) (by rw [hVl]; exact hl) ?_
  cbv
  have hst : FillT 64 V (List.replicate (g .ln V).toNat [.imm (.int .i64 0), .imm (.slice none 0 0), .imm (.int .i64 0), .imm (.int .i64 0), .imm (.int .i64 0), .imm (.int .i64 0), .imm (.int .i64 0), .imm (.int .i64 0), .imm (.bool false), .imm (.bool false), .imm (.int .i64 0), .imm (.int .i64 0), .imm (.int .i64 0), .imm (.int .i64 0), .imm (.int .i64 0), .imm (.int .i64 0), .imm (.int .i64 0), .imm (.int .i64 0), .imm (.int .i64 0), .imm (.int .i64 0), .imm (.int .i64 0), .imm (.int .i64 0), .imm (.int .i64 0), .imm (.int .i64 0), .imm (.int .i64 0), .imm (.int .i64 0), .imm (.int .i64 0), .imm (.int .i64 0), .imm (.int .i64 0), .imm (.int .i64 0), .imm (.int .i64 0), .imm (.int .i64 0), .imm (.int .i64 0), .imm (.int .i64 0), .imm (.int .i64 0), .imm (.int .i64 0), .imm (.int .i64 0), .imm (.int .i64 0), .imm (.int .i64 0), .imm (.int .i64 0), .imm (.int .i64 0), .imm (.int .i64 0), .imm (.int .i64 0), .imm (.int .i64 0), .imm (.int .i64 0), .imm (.int .i64 0), .imm (.int .i64 0), .imm (.int .i64 0), .imm (.int .i64 0), .imm (.int .i64 0), .imm (.int .i64 0), .imm (.int .i64 0), .imm (.int .i64 0), .imm (.int .i64 0), .imm (.int .i64 0), .imm (.int .i64 0), .imm (.int .i64 0), .imm (.int .i64 0), .imm (.int .i64 0), .imm (.int .i64 0), .imm (.int .i64 0), .imm (.int .i64 0), .imm (.bool false), .imm (.slice none 0 0)]) 0 β.lo := FillT.start rfl rfl (goLn hg V)
  refine loop_runW4 [] [] heff hhd hg fits (by kernel_rfl) (fun s : Int × List (List AC) => [(0, .t (.c (.view V))), (3, .t (.c (.own 0))), (4, .t (ai s.1))]) (fun s => [.rw ⟨94, 64, s.2⟩]) (fun s => FillT 64 V s.2 s.1 β.lo) (fun s => (lenI V).toNat - s.1.toNat)
    (0, g .rp (g .ln V) [.imm (.int .i64 0), .imm (.slice none 0 0), .imm (.int .i64 0), .imm (.int .i64 0), .imm (.int .i64 0), .imm (.int .i64 0), .imm (.int .i64 0), .imm (.int .i64 0), .imm (.bool false), .imm (.bool false), .imm (.int .i64 0), .imm (.int .i64 0), .imm (.int .i64 0), .imm (.int .i64 0), .imm (.int .i64 0), .imm (.int .i64 0), .imm (.int .i64 0), .imm (.int .i64 0), .imm (.int .i64 0), .imm (.int .i64 0), .imm (.int .i64 0), .imm (.int .i64 0), .imm (.int .i64 0), .imm (.int .i64 0), .imm (.int .i64 0), .imm (.int .i64 0), .imm (.int .i64 0), .imm (.int .i64 0), .imm (.int .i64 0), .imm (.int .i64 0), .imm (.int .i64 0), .imm (.int .i64 0), .imm (.int .i64 0), .imm (.int .i64 0), .imm (.int .i64 0), .imm (.int .i64 0), .imm (.int .i64 0), .imm (.int .i64 0), .imm (.int .i64 0), .imm (.int .i64 0), .imm (.int .i64 0), .imm (.int .i64 0), .imm (.int .i64 0), .imm (.int .i64 0), .imm (.int .i64 0), .imm (.int .i64 0), .imm (.int .i64 0), .imm (.int .i64 0), .imm (.int .i64 0), .imm (.int .i64 0), .imm (.int .i64 0), .imm (.int .i64 0), .imm (.int .i64 0), .imm (.int .i64 0), .imm (.int .i64 0), .imm (.int .i64 0), .imm (.int .i64 0), .imm (.int .i64 0), .imm (.int .i64 0), .imm (.int .i64 0), .imm (.int .i64 0), .imm (.int .i64 0), .imm (.bool false), .imm (.slice none 0 0)]) ?_ (Wk.weak (wkS [0] (by decide) ⟨⟨_, rfl, rfl, ?_⟩, trivial⟩ ⟨rfl, rfl, rfl, trivial⟩)) (fun s B hs' hB => ?_)
  · simp only [goRp hg]; exact hst
  · simp only [goRp hg]; exact bare_plainE hst.bare
  · obtain ⟨z, es⟩ := s
    simp only at hs'
    have h0 := hs'.z0
    have h1 := hs'.z1
    have hlen := hs'.len
    cbv
    cases hc : g .q .lss z (g .ln V)
    · cbv
      rw [goLss hg, goLn hg, decide_eq_false_iff_not] at hc
      have hall := hs'.all hc
      refine finTS hF fun bl hbl => ⟨[.c (.fv (hd1 (bl 0) es ++ fpE es) V)], .c (by have := ress_bareRow (bl := bl) (h := toH [.rw ⟨94, 64, es⟩]) (r := 0) (ab := ⟨94, 64, es⟩) rfl hs'.bare; rw [hall] at this; exact this) .nil, ⟨_, rfl, blk_row hbl (r := 0) (ab := ⟨_, _, es⟩) rfl hs'.new⟩, rfl, rfl⟩
    · cbv
      rw [goLss hg, goLn hg, decide_eq_true_eq] at hc
      obtain ⟨x, hx⟩ := at_z (xs := xs) h0 (lt_viaN hVx hc)
      have hsx := hs x (List.mem_of_getElem? hx)
      have hyy : V[z.toNat]? = some x.ac := by rw [hV]; exact vwA_at hx
      have cx := laws_toNode_t x hsx
      obtain ⟨a0, a1, ⟨a2, a3, a4, a5, a6, a7, a8, a9, a10, a11, a12, ⟨a13, a14⟩, ⟨a15, a16⟩, ⟨a17, a18⟩, ⟨a19, a20⟩, ⟨a21, a22⟩, ⟨a23, a24⟩, ⟨a25, a26⟩, a27, ⟨⟨a28, a29⟩, ⟨a30, a31⟩, ⟨a32, a33⟩, ⟨a34, a35⟩, ⟨a36, a37⟩, ⟨a38, a39⟩⟩, ⟨⟨a40, a41⟩, ⟨a42, a43⟩, ⟨a44, a45⟩, ⟨a46, a47⟩, ⟨a48, a49⟩, ⟨a50, a51⟩⟩, ⟨a52, a53, a54, a55⟩, ⟨a56, a57, a58, a59⟩, a60, a61⟩, a62, ⟨a63⟩⟩ := x
      replace hyy : V[z.toNat]? = some [.imm (.int .i64 a0), .view (vw intC a1), .imm (.int .i64 a2), .imm (.int .i64 a3), .imm (.int .i64 a4), .imm (.int .i64 a5), .imm (.int .i64 a6), .imm (.int .i64 a7), .imm (.bool a8), .imm (.bool a9), .imm (.int .i64 a10), .imm (.int .i64 a11), .imm (.int .i64 a12), .imm (.int .i64 a13), .imm (.int .i64 a14), .imm (.int .i64 a15), .imm (.int .i64 a16), .imm (.int .i64 a17), .imm (.int .i64 a18), .imm (.int .i64 a19), .imm (.int .i64 a20), .imm (.int .i64 a21), .imm (.int .i64 a22), .imm (.int .i64 a23), .imm (.int .i64 a24), .imm (.int .i64 a25), .imm (.int .i64 a26), .imm (.int .i64 a27), .imm (.int .i64 a28), .imm (.int .i64 a29), .imm (.int .i64 a30), .imm (.int .i64 a31), .imm (.int .i64 a32), .imm (.int .i64 a33), .imm (.int .i64 a34), .imm (.int .i64 a35), .imm (.int .i64 a36), .imm (.int .i64 a37), .imm (.int .i64 a38), .imm (.int .i64 a39), .imm (.int .i64 a40), .imm (.int .i64 a41), .imm (.int .i64 a42), .imm (.int .i64 a43), .imm (.int .i64 a44), .imm (.int .i64 a45), .imm (.int .i64 a46), .imm (.int .i64 a47), .imm (.int .i64 a48), .imm (.int .i64 a49), .imm (.int .i64 a50), .imm (.int .i64 a51), .imm (.int .i64 a52), .imm (.int .i64 a53), .imm (.int .i64 a54), .imm (.int .i64 a55), .imm (.int .i64 a56), .imm (.int .i64 a57), .imm (.int .i64 a58), .imm (.int .i64 a59), .imm (.int .i64 a60), .imm (.int .i64 a61), .imm (.bool a62), .view (vw GRule.c a63)] := hyy
      replace cx : TCon _ _ [.agg [.imm (.int .i64 a0), .view (vw intC a1), .imm (.int .i64 a2), .imm (.int .i64 a3), .imm (.int .i64 a4), .imm (.int .i64 a5), .imm (.int .i64 a6), .imm (.int .i64 a7), .imm (.bool a8), .imm (.bool a9), .imm (.int .i64 a10), .imm (.int .i64 a11), .imm (.int .i64 a12), .imm (.int .i64 a13), .imm (.int .i64 a14), .imm (.int .i64 a15), .imm (.int .i64 a16), .imm (.int .i64 a17), .imm (.int .i64 a18), .imm (.int .i64 a19), .imm (.int .i64 a20), .imm (.int .i64 a21), .imm (.int .i64 a22), .imm (.int .i64 a23), .imm (.int .i64 a24), .imm (.int .i64 a25), .imm (.int .i64 a26), .imm (.int .i64 a27), .imm (.int .i64 a28), .imm (.int .i64 a29), .imm (.int .i64 a30), .imm (.int .i64 a31), .imm (.int .i64 a32), .imm (.int .i64 a33), .imm (.int .i64 a34), .imm (.int .i64 a35), .imm (.int .i64 a36), .imm (.int .i64 a37), .imm (.int .i64 a38), .imm (.int .i64 a39), .imm (.int .i64 a40), .imm (.int .i64 a41), .imm (.int .i64 a42), .imm (.int .i64 a43), .imm (.int .i64 a44), .imm (.int .i64 a45), .imm (.int .i64 a46), .imm (.int .i64 a47), .imm (.int .i64 a48), .imm (.int .i64 a49), .imm (.int .i64 a50), .imm (.int .i64 a51), .imm (.int .i64 a52), .imm (.int .i64 a53), .imm (.int .i64 a54), .imm (.int .i64 a55), .imm (.int .i64 a56), .imm (.int .i64 a57), .imm (.int .i64 a58), .imm (.int .i64 a59), .imm (.int .i64 a60), .imm (.int .i64 a61), .imm (.bool a62), .view (vw GRule.c a63)]] (fun lo res rows => (∃ b1 b63, res = .t (.agg [.imm (.int .i64 a0), .fv b1 (vw intC a1), .imm (.int .i64 a2), .imm (.int .i64 a3), .imm (.int .i64 a4), .imm (.int .i64 a5), .imm (.int .i64 a6), .imm (.int .i64 a7), .imm (.bool a8), .imm (.bool a9), .imm (.int .i64 a10), .imm (.int .i64 a11), .imm (.int .i64 a12), .imm (.int .i64 a13), .imm (.int .i64 a14), .imm (.int .i64 a15), .imm (.int .i64 a16), .imm (.int .i64 a17), .imm (.int .i64 a18), .imm (.int .i64 a19), .imm (.int .i64 a20), .imm (.int .i64 a21), .imm (.int .i64 a22), .imm (.int .i64 a23), .imm (.int .i64 a24), .imm (.int .i64 a25), .imm (.int .i64 a26), .imm (.int .i64 a27), .imm (.int .i64 a28), .imm (.int .i64 a29), .imm (.int .i64 a30), .imm (.int .i64 a31), .imm (.int .i64 a32), .imm (.int .i64 a33), .imm (.int .i64 a34), .imm (.int .i64 a35), .imm (.int .i64 a36), .imm (.int .i64 a37), .imm (.int .i64 a38), .imm (.int .i64 a39), .imm (.int .i64 a40), .imm (.int .i64 a41), .imm (.int .i64 a42), .imm (.int .i64 a43), .imm (.int .i64 a44), .imm (.int .i64 a45), .imm (.int .i64 a46), .imm (.int .i64 a47), .imm (.int .i64 a48), .imm (.int .i64 a49), .imm (.int .i64 a50), .imm (.int .i64 a51), .imm (.int .i64 a52), .imm (.int .i64 a53), .imm (.int .i64 a54), .imm (.int .i64 a55), .imm (.int .i64 a56), .imm (.int .i64 a57), .imm (.int .i64 a58), .imm (.int .i64 a59), .imm (.int .i64 a60), .imm (.int .i64 a61), .imm (.bool a62), .fv b63 (vw GRule.c a63)]) ∧ NewB lo (b1 ++ b63)) ∧ plainV res = true ∧ rows = []) := cx
      obtain ⟨Va1, hVa1⟩ : ∃ V, V = vw intC a1 := ⟨_, rfl⟩
      obtain ⟨Va63, hVa63⟩ : ∃ V, V = vw GRule.c a63 := ⟨_, rfl⟩
      rw [← hVa1, ← hVa63] at hyy cx
      refine goX hg _ h0 hyy rfl ?_
      cbv
      refine callT0 hg cx (dwA_same rfl) (fun lo res q1 q2 q3 ⟨b1, b63, hres, hn⟩ => ?_)
      subst hres
      have hlt : ∀ b ∈ fpE es, b < lo := fun b hb => q2 b (List.mem_append_left _ hb)
      clear q2 q3
      cbv
      obtain ⟨j, hj⟩ : ∃ j, j = z.toNat := ⟨_, rfl⟩
      refine goYt hg h0 hj (lt_lenJ h0 (lt_eqI hlen hc) hj) ?_
      cbv
      refine goN hg (hs'.mem (lt_lenJ h0 (lt_eqI hlen hc) hj)) ?_
      cbv
      have h2 : g .w .add .i64 z 1 = z + 1 := by rw [goAdd hg, wrap_small _ (by omega)]
      rw [h2, goSt hg]
      have hs2 := hs'.step (y := [.imm (.int .i64 a0), .fv b1 Va1, .imm (.int .i64 a2), .imm (.int .i64 a3), .imm (.int .i64 a4), .imm (.int .i64 a5), .imm (.int .i64 a6), .imm (.int .i64 a7), .imm (.bool a8), .imm (.bool a9), .imm (.int .i64 a10), .imm (.int .i64 a11), .imm (.int .i64 a12), .imm (.int .i64 a13), .imm (.int .i64 a14), .imm (.int .i64 a15), .imm (.int .i64 a16), .imm (.int .i64 a17), .imm (.int .i64 a18), .imm (.int .i64 a19), .imm (.int .i64 a20), .imm (.int .i64 a21), .imm (.int .i64 a22), .imm (.int .i64 a23), .imm (.int .i64 a24), .imm (.int .i64 a25), .imm (.int .i64 a26), .imm (.int .i64 a27), .imm (.int .i64 a28), .imm (.int .i64 a29), .imm (.int .i64 a30), .imm (.int .i64 a31), .imm (.int .i64 a32), .imm (.int .i64 a33), .imm (.int .i64 a34), .imm (.int .i64 a35), .imm (.int .i64 a36), .imm (.int .i64 a37), .imm (.int .i64 a38), .imm (.int .i64 a39), .imm (.int .i64 a40), .imm (.int .i64 a41), .imm (.int .i64 a42), .imm (.int .i64 a43), .imm (.int .i64 a44), .imm (.int .i64 a45), .imm (.int .i64 a46), .imm (.int .i64 a47), .imm (.int .i64 a48), .imm (.int .i64 a49), .imm (.int .i64 a50), .imm (.int .i64 a51), .imm (.int .i64 a52), .imm (.int .i64 a53), .imm (.int .i64 a54), .imm (.int .i64 a55), .imm (.int .i64 a56), .imm (.int .i64 a57), .imm (.int .i64 a58), .imm (.int .i64 a59), .imm (.int .i64 a60), .imm (.int .i64 a61), .imm (.bool a62), .fv b63 Va63]) hc hj hyy rfl rfl rfl q1 (by simpa [fpL, fpC] using hn) hlt
      rw [hB]
      exact ⟨(z + 1, _), hs2, by show (lenI V).toNat - (z + 1).toNat < (lenI V).toNat - z.toNat; omega, Wk.weak (wkS [0] (by decide) ⟨⟨_, rfl, rfl, bare_plainE hs2.bare⟩, trivial⟩ ⟨rfl, rfl, rfl, trivial⟩)⟩
set_option maxHeartbeats 8000000 in
theorem laws_toTree_t (x : NTree) (hs : x.small) : TCon Try.prog 19 [.agg x.ac] fun lo res rows => (∃ b, res = .t (.agg [.fv b (vwA NNode.ac x.nodes)]) ∧ NewB lo b) ∧ plainV res = true ∧ rows = [] := by
  obtain ⟨a0⟩ := x
  obtain ⟨sa0, ua0, -⟩ := hs
  show TCon _ _ [.agg [.view (vwA NNode.ac a0)]] (fun lo res rows => (∃ b, res = .t (.agg [.fv b (vwA NNode.ac a0)]) ∧ NewB lo b) ∧ plainV res = true ∧ rows = [])
  have c0 := laws_toNodeS_t a0 sa0 ua0
  obtain ⟨Va0, hVa0⟩ : ∃ V, V = vwA NNode.ac a0 := ⟨_, rfl⟩
  rw [← hVa0] at c0
  rw [← hVa0]
  refine tcon_run ([]) ([]) (c := body Try.f19) fits Try.func19 (by kernel_rfl) (by kernel_rfl) (by rfl) (by kernel_rfl) fun β g eff hd F heff hhd hg hF => ?_
  cbv
  refine callT0 hg c0 (dwA_same rfl) (fun lo res h1 h2 h3 ⟨b, hres, hn⟩ => ?_)
  subst hres
  clear h2 h3
  cbv
  exact finT0 hF rfl ⟨⟨b, rfl, hn.mono h1⟩, rfl, rfl⟩

end Go.Proofs.Ytenbloaopcfdlaa
