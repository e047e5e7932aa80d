/- The law of MemoFor: what is kept is copied, marked, and the answers stay. -/
import Derived.Test.YtenbloaopcfdlaaGreatIan
namespace Go.Proofs.YtenbloaopcfdlaaGreat
open Go.ChangeShapes Go.WideShapes Go.ChangeAt Go.RowKit Am
set_option linter.unusedVariables false
set_option linter.unusedSimpArgs false
set_option maxRecDepth 100000
set_option maxHeartbeats 8000000 in
theorem laws_toTable_n (x : NTable) (hs : x.small) : PCon Tryz.prog 23 [.agg x.ac] fun res rows => res = .t (.agg x.ac) ∧ rows = [] := by
  obtain ⟨a0⟩ := x
  obtain ⟨sa0, -⟩ := hs
  show PCon _ _ [.agg [.view (vw GRule.c a0)]] (fun res rows => res = .t (.agg [.view (vw GRule.c a0)]) ∧ rows = [])
  have c0 := toRow (laws_toRuleS_a a0 sa0)
  obtain ⟨Va0, hVa0⟩ : ∃ Va0, Va0 = vw GRule.c a0 := ⟨_, rfl⟩
  have hVa0l : Va0.length = a0.length := by rw [hVa0, vw_length]
  have iVa0 : immE Va0 = true := by rw [hVa0]; exact vw_imm _ _
  have kVa0 : ∀ y ∈ Va0, y.length = 3 := by rw [hVa0]; exact vw_k (c := GRule.c) (k := 3) fun _ => rfl
  have dVa0 : ∀ y ∈ Va0, y.all dat = true := by rw [hVa0]; exact vw_dat
  rw [← hVa0] at c0
  rw [← hVa0]
  refine pcon_run (c := body Tryz.f23) fits Tryz.func23 (by kernel_rfl) (by kernel_rfl) (by rfl) (by kernel_rfl) fun g F hg hF => ?_
  cbv
  repeat' (first | (refine callRow hg c0 (dat_data rfl) iVa0 ?_; cbv) | (refine callRowP hg c0 (dat_data rfl) iVa0 ?_; cbv))
  exact finFrz [.agg [.view Va0]] hF (.agg (by repeat' (first | exact .nil | refine .cons ?_ ?_ | exact .imm _ | exact .view _ | exact resRow (ab := ⟨_, _, Va0⟩) rfl kVa0 dVa0)) .nil) ⟨rfl, rfl⟩
set_option maxHeartbeats 8000000 in
theorem laws_eqTable_n (x : NTable) (hs : x.small) : PCon Tryz.prog 25 [.agg x.ac, .agg x.ac] fun res rows => res = .t (abl true) ∧ rows = [] := by
  obtain ⟨a0⟩ := x
  obtain ⟨sa0, -⟩ := hs
  show PCon _ _ [.agg [.view (vw GRule.c a0)], .agg [.view (vw GRule.c a0)]] (fun res rows => res = .t (abl true) ∧ rows = [])
  have c0 := laws_eqRuleS_a a0 a0 sa0
  rw [decide_eq_true rfl] at c0
  obtain ⟨Va0, hVa0⟩ : ∃ Va0, Va0 = vw GRule.c a0 := ⟨_, rfl⟩
  have hVa0l : Va0.length = a0.length := by rw [hVa0, vw_length]
  have iVa0 : immE Va0 = true := by rw [hVa0]; exact vw_imm _ _
  have kVa0 : ∀ y ∈ Va0, y.length = 3 := by rw [hVa0]; exact vw_k (c := GRule.c) (k := 3) fun _ => rfl
  have dVa0 : ∀ y ∈ Va0, y.all dat = true := by rw [hVa0]; exact vw_dat
  rw [← hVa0] at c0
  rw [← hVa0]
  refine pcon_run (c := body Tryz.f25) fits Tryz.func25 (by kernel_rfl) (by kernel_rfl) (by rfl) (by kernel_rfl) fun g F hg hF => ?_
  cbv
  have q : ∀ a : Int, g .q .neq a a = false := fun a => by rw [goNeq hg]; simp
  have qb : ∀ a : Bool, g .qb .neq a a = false := fun a => by rw [goNeqB hg]; simp
  repeat' (first | (rw [q]; cbv) | (rw [qb]; cbv) | (refine call0 hg c0 rfl rfl ?_; cbv) | (refine call0P hg c0 rfl rfl ?_; cbv))
  exact fin0b hF rfl
set_option maxHeartbeats 8000000 in
theorem laws_szTable_n (x : NTable) (L : Int) (hf : x.fit) (h0 : 0 ≤ L) (h1 : L ≤ 1048576) : PCon Tryz.prog 21 [.agg x.ac, ai L] fun res rows => ∃ R : Int, res = .t (ai R) ∧ rows = [] ∧ (R ≤ L ∨ R < 0) ∧ (0 ≤ R → x.small) := by
  obtain ⟨a0⟩ := x
  obtain ⟨sa0, -⟩ := hf
  show PCon _ _ [.agg [.view (vw GRule.c a0)], ai L] (fun res rows => ∃ R : Int, res = .t (ai R) ∧ rows = [] ∧ (R ≤ L ∨ R < 0) ∧ (0 ≤ R → NTable.small ⟨a0⟩))
  have c0 := fun (M : Int) (h0 : 0 ≤ M) (h1 : M ≤ 1048576) => szZ (laws_szRuleS_b (vw GRule.c a0) M (by rw [vw_length]; exact sa0) h0 h1)
  obtain ⟨Va0, hVa0⟩ : ∃ Va0, Va0 = vw GRule.c a0 := ⟨_, rfl⟩
  have hVa0l : Va0.length = a0.length := by rw [hVa0, vw_length]
  have iVa0 : immE Va0 = true := by rw [hVa0]; exact vw_imm _ _
  have kVa0 : ∀ y ∈ Va0, y.length = 3 := by rw [hVa0]; exact vw_k (c := GRule.c) (k := 3) fun _ => rfl
  have dVa0 : ∀ y ∈ Va0, y.all dat = true := by rw [hVa0]; exact vw_dat
  have c0' : ∀ (M : Int), 0 ≤ M → M ≤ 1048576 → PCon _ _ [.c (.view Va0), ai M] (fun res rows => ∃ R : Int, res = .t (ai R) ∧ rows = [] ∧ (R ≤ M ∨ R < 0) ∧ (0 ≤ R → ((Va0.length : Nat) : Int) ≤ M)) := fun M h0 h1 => by have := c0 M h0 h1; rw [← hVa0] at this; exact this
  rw [← hVa0]
  refine pcon_run (c := body Tryz.f21) fits Tryz.func21 (by kernel_rfl) (by kernel_rfl) (by rfl) (by kernel_rfl) fun g F hg hF => ?_
  cbv
  refine callZ hg (c0' L h0 h1) rfl (fun R0 hR0 => ?_)
  obtain ⟨hR0, hB0⟩ := hR0
  cbv
  cases e0 : g .q .lss R0 0
  case true =>
    cbv
    exact finZ hF ⟨.inr (by decide), fun h => absurd h (by decide)⟩
  rw [goLss hg, decide_eq_false_iff_not] at e0
  have p0 : 0 ≤ R0 := by omega
  have r0 : R0 ≤ 1048576 := by omega
  cbv
  exact finZ hF ⟨.inl (by omega), fun _ => ⟨small_of hVa0l (hB0 p0) h1, trivial⟩⟩
set_option maxHeartbeats 8000000 in
theorem laws_toNode_n (x : NNode) (hs : x.small) : PCon Tryz.prog 119 [.agg x.ac] fun res rows => res = .t (.agg x.ac) ∧ rows = [] := by
  obtain ⟨a0, a1, ⟨a2, a3, a4, a5, a6, a7, a8, a9, a10, a11, a12, ⟨a13, a14⟩, ⟨a15, a16⟩, ⟨a17, a18⟩, ⟨a19, a20⟩, ⟨a21, a22⟩, ⟨a23, a24⟩, ⟨a25, a26⟩, a27, ⟨⟨a28, a29⟩, ⟨a30, a31⟩, ⟨a32, a33⟩, ⟨a34, a35⟩, ⟨a36, a37⟩, ⟨a38, a39⟩⟩, ⟨⟨a40, a41⟩, ⟨a42, a43⟩, ⟨a44, a45⟩, ⟨a46, a47⟩, ⟨a48, a49⟩, ⟨a50, a51⟩⟩, ⟨a52, a53, a54, a55⟩, ⟨a56, a57, a58, a59⟩, a60, a61⟩, a62, ⟨a63⟩⟩ := x
  obtain ⟨sa1, sa63, -⟩ := hs
  show PCon _ _ [.agg [.imm (.int .i64 a0), .view (vw intC a1), .imm (.int .i64 a2), .imm (.int .i64 a3), .imm (.int .i64 a4), .imm (.int .i64 a5), .imm (.int .i64 a6), .imm (.int .i64 a7), .imm (.bool a8), .imm (.bool a9), .imm (.int .i64 a10), .imm (.int .i64 a11), .imm (.int .i64 a12), .imm (.int .i64 a13), .imm (.int .i64 a14), .imm (.int .i64 a15), .imm (.int .i64 a16), .imm (.int .i64 a17), .imm (.int .i64 a18), .imm (.int .i64 a19), .imm (.int .i64 a20), .imm (.int .i64 a21), .imm (.int .i64 a22), .imm (.int .i64 a23), .imm (.int .i64 a24), .imm (.int .i64 a25), .imm (.int .i64 a26), .imm (.int .i64 a27), .imm (.int .i64 a28), .imm (.int .i64 a29), .imm (.int .i64 a30), .imm (.int .i64 a31), .imm (.int .i64 a32), .imm (.int .i64 a33), .imm (.int .i64 a34), .imm (.int .i64 a35), .imm (.int .i64 a36), .imm (.int .i64 a37), .imm (.int .i64 a38), .imm (.int .i64 a39), .imm (.int .i64 a40), .imm (.int .i64 a41), .imm (.int .i64 a42), .imm (.int .i64 a43), .imm (.int .i64 a44), .imm (.int .i64 a45), .imm (.int .i64 a46), .imm (.int .i64 a47), .imm (.int .i64 a48), .imm (.int .i64 a49), .imm (.int .i64 a50), .imm (.int .i64 a51), .imm (.int .i64 a52), .imm (.int .i64 a53), .imm (.int .i64 a54), .imm (.int .i64 a55), .imm (.int .i64 a56), .imm (.int .i64 a57), .imm (.int .i64 a58), .imm (.int .i64 a59), .imm (.int .i64 a60), .imm (.int .i64 a61), .imm (.bool a62), .view (vw GRule.c a63)]] (fun res rows => res = .t (.agg [.imm (.int .i64 a0), .view (vw intC a1), .imm (.int .i64 a2), .imm (.int .i64 a3), .imm (.int .i64 a4), .imm (.int .i64 a5), .imm (.int .i64 a6), .imm (.int .i64 a7), .imm (.bool a8), .imm (.bool a9), .imm (.int .i64 a10), .imm (.int .i64 a11), .imm (.int .i64 a12), .imm (.int .i64 a13), .imm (.int .i64 a14), .imm (.int .i64 a15), .imm (.int .i64 a16), .imm (.int .i64 a17), .imm (.int .i64 a18), .imm (.int .i64 a19), .imm (.int .i64 a20), .imm (.int .i64 a21), .imm (.int .i64 a22), .imm (.int .i64 a23), .imm (.int .i64 a24), .imm (.int .i64 a25), .imm (.int .i64 a26), .imm (.int .i64 a27), .imm (.int .i64 a28), .imm (.int .i64 a29), .imm (.int .i64 a30), .imm (.int .i64 a31), .imm (.int .i64 a32), .imm (.int .i64 a33), .imm (.int .i64 a34), .imm (.int .i64 a35), .imm (.int .i64 a36), .imm (.int .i64 a37), .imm (.int .i64 a38), .imm (.int .i64 a39), .imm (.int .i64 a40), .imm (.int .i64 a41), .imm (.int .i64 a42), .imm (.int .i64 a43), .imm (.int .i64 a44), .imm (.int .i64 a45), .imm (.int .i64 a46), .imm (.int .i64 a47), .imm (.int .i64 a48), .imm (.int .i64 a49), .imm (.int .i64 a50), .imm (.int .i64 a51), .imm (.int .i64 a52), .imm (.int .i64 a53), .imm (.int .i64 a54), .imm (.int .i64 a55), .imm (.int .i64 a56), .imm (.int .i64 a57), .imm (.int .i64 a58), .imm (.int .i64 a59), .imm (.int .i64 a60), .imm (.int .i64 a61), .imm (.bool a62), .view (vw GRule.c a63)]) ∧ rows = [])
  have c1 := toRow (laws_toIntS_a a1 sa1)
  have c63 : PCon Tryz.prog 23 [.agg [.view (vw GRule.c a63)]] (fun res rows => res = .t (.agg [.view (vw GRule.c a63)]) ∧ rows = []) := laws_toTable_n ⟨a63⟩ ⟨sa63, trivial⟩
  obtain ⟨Va1, hVa1⟩ : ∃ Va1, Va1 = vw intC a1 := ⟨_, rfl⟩
  have hVa1l : Va1.length = a1.length := by rw [hVa1, vw_length]
  have iVa1 : immE Va1 = true := by rw [hVa1]; exact vw_imm _ _
  have kVa1 : ∀ y ∈ Va1, y.length = 1 := by rw [hVa1]; exact vw_k (c := intC) (k := 1) fun _ => rfl
  have dVa1 : ∀ y ∈ Va1, y.all dat = true := by rw [hVa1]; exact vw_dat
  obtain ⟨Va63, hVa63⟩ : ∃ Va63, Va63 = vw GRule.c a63 := ⟨_, rfl⟩
  have hVa63l : Va63.length = a63.length := by rw [hVa63, vw_length]
  have iVa63 : immE Va63 = true := by rw [hVa63]; exact vw_imm _ _
  have kVa63 : ∀ y ∈ Va63, y.length = 3 := by rw [hVa63]; exact vw_k (c := GRule.c) (k := 3) fun _ => rfl
  have dVa63 : ∀ y ∈ Va63, y.all dat = true := by rw [hVa63]; exact vw_dat
  rw [← hVa1] at c1
  rw [← hVa63] at c63
  rw [← hVa1, ← hVa63]
  refine pcon_run (c := body Tryz.f119) fits Tryz.func119 (by kernel_rfl) (by kernel_rfl) (by rfl) (by kernel_rfl) fun g F hg hF => ?_
  cbv
  repeat' (first | (refine callRow hg c1 (dat_data rfl) iVa1 ?_; cbv) | (refine callRowP hg c1 (dat_data rfl) iVa1 ?_; cbv) | (refine call0 hg (laws_toStyle_a (⟨a2, a3, a4, a5, a6, a7, a8, a9, a10, a11, a12, ⟨a13, a14⟩, ⟨a15, a16⟩, ⟨a17, a18⟩, ⟨a19, a20⟩, ⟨a21, a22⟩, ⟨a23, a24⟩, ⟨a25, a26⟩, a27, ⟨⟨a28, a29⟩, ⟨a30, a31⟩, ⟨a32, a33⟩, ⟨a34, a35⟩, ⟨a36, a37⟩, ⟨a38, a39⟩⟩, ⟨⟨a40, a41⟩, ⟨a42, a43⟩, ⟨a44, a45⟩, ⟨a46, a47⟩, ⟨a48, a49⟩, ⟨a50, a51⟩⟩, ⟨a52, a53, a54, a55⟩, ⟨a56, a57, a58, a59⟩, a60, a61⟩ : GStyle)) rfl rfl ?_; cbv) | (refine call0P hg (laws_toStyle_a (⟨a2, a3, a4, a5, a6, a7, a8, a9, a10, a11, a12, ⟨a13, a14⟩, ⟨a15, a16⟩, ⟨a17, a18⟩, ⟨a19, a20⟩, ⟨a21, a22⟩, ⟨a23, a24⟩, ⟨a25, a26⟩, a27, ⟨⟨a28, a29⟩, ⟨a30, a31⟩, ⟨a32, a33⟩, ⟨a34, a35⟩, ⟨a36, a37⟩, ⟨a38, a39⟩⟩, ⟨⟨a40, a41⟩, ⟨a42, a43⟩, ⟨a44, a45⟩, ⟨a46, a47⟩, ⟨a48, a49⟩, ⟨a50, a51⟩⟩, ⟨a52, a53, a54, a55⟩, ⟨a56, a57, a58, a59⟩, a60, a61⟩ : GStyle)) rfl rfl ?_; cbv) | (refine call0 hg c63 rfl rfl ?_; cbv) | (refine call0P hg c63 rfl rfl ?_; cbv))
  exact finFrz [.agg [.imm (.int .i64 a0), .view Va1, .imm (.int .i64 a2), .imm (.int .i64 a3), .imm (.int .i64 a4), .imm (.int .i64 a5), .imm (.int .i64 a6), .imm (.int .i64 a7), .imm (.bool a8), .imm (.bool a9), .imm (.int .i64 a10), .imm (.int .i64 a11), .imm (.int .i64 a12), .imm (.int .i64 a13), .imm (.int .i64 a14), .imm (.int .i64 a15), .imm (.int .i64 a16), .imm (.int .i64 a17), .imm (.int .i64 a18), .imm (.int .i64 a19), .imm (.int .i64 a20), .imm (.int .i64 a21), .imm (.int .i64 a22), .imm (.int .i64 a23), .imm (.int .i64 a24), .imm (.int .i64 a25), .imm (.int .i64 a26), .imm (.int .i64 a27), .imm (.int .i64 a28), .imm (.int .i64 a29), .imm (.int .i64 a30), .imm (.int .i64 a31), .imm (.int .i64 a32), .imm (.int .i64 a33), .imm (.int .i64 a34), .imm (.int .i64 a35), .imm (.int .i64 a36), .imm (.int .i64 a37), .imm (.int .i64 a38), .imm (.int .i64 a39), .imm (.int .i64 a40), .imm (.int .i64 a41), .imm (.int .i64 a42), .imm (.int .i64 a43), .imm (.int .i64 a44), .imm (.int .i64 a45), .imm (.int .i64 a46), .imm (.int .i64 a47), .imm (.int .i64 a48), .imm (.int .i64 a49), .imm (.int .i64 a50), .imm (.int .i64 a51), .imm (.int .i64 a52), .imm (.int .i64 a53), .imm (.int .i64 a54), .imm (.int .i64 a55), .imm (.int .i64 a56), .imm (.int .i64 a57), .imm (.int .i64 a58), .imm (.int .i64 a59), .imm (.int .i64 a60), .imm (.int .i64 a61), .imm (.bool a62), .view Va63]] hF (.agg (by repeat' (first | exact .nil | refine .cons ?_ ?_ | exact .imm _ | exact .view _ | exact resRow (ab := ⟨_, _, Va1⟩) rfl kVa1 dVa1 | exact resRow (ab := ⟨_, _, Va63⟩) rfl kVa63 dVa63)) .nil) ⟨rfl, rfl⟩
set_option maxHeartbeats 8000000 in
theorem laws_eqNode_n (x : NNode) (hs : x.small) : PCon Tryz.prog 126 [.agg x.ac, .agg x.ac] fun res rows => res = .t (abl true) ∧ rows = [] := by
  obtain ⟨a0, a1, ⟨a2, a3, a4, a5, a6, a7, a8, a9, a10, a11, a12, ⟨a13, a14⟩, ⟨a15, a16⟩, ⟨a17, a18⟩, ⟨a19, a20⟩, ⟨a21, a22⟩, ⟨a23, a24⟩, ⟨a25, a26⟩, a27, ⟨⟨a28, a29⟩, ⟨a30, a31⟩, ⟨a32, a33⟩, ⟨a34, a35⟩, ⟨a36, a37⟩, ⟨a38, a39⟩⟩, ⟨⟨a40, a41⟩, ⟨a42, a43⟩, ⟨a44, a45⟩, ⟨a46, a47⟩, ⟨a48, a49⟩, ⟨a50, a51⟩⟩, ⟨a52, a53, a54, a55⟩, ⟨a56, a57, a58, a59⟩, a60, a61⟩, a62, ⟨a63⟩⟩ := x
  obtain ⟨sa1, sa63, -⟩ := hs
  show PCon _ _ [.agg [.imm (.int .i64 a0), .view (vw intC a1), .imm (.int .i64 a2), .imm (.int .i64 a3), .imm (.int .i64 a4), .imm (.int .i64 a5), .imm (.int .i64 a6), .imm (.int .i64 a7), .imm (.bool a8), .imm (.bool a9), .imm (.int .i64 a10), .imm (.int .i64 a11), .imm (.int .i64 a12), .imm (.int .i64 a13), .imm (.int .i64 a14), .imm (.int .i64 a15), .imm (.int .i64 a16), .imm (.int .i64 a17), .imm (.int .i64 a18), .imm (.int .i64 a19), .imm (.int .i64 a20), .imm (.int .i64 a21), .imm (.int .i64 a22), .imm (.int .i64 a23), .imm (.int .i64 a24), .imm (.int .i64 a25), .imm (.int .i64 a26), .imm (.int .i64 a27), .imm (.int .i64 a28), .imm (.int .i64 a29), .imm (.int .i64 a30), .imm (.int .i64 a31), .imm (.int .i64 a32), .imm (.int .i64 a33), .imm (.int .i64 a34), .imm (.int .i64 a35), .imm (.int .i64 a36), .imm (.int .i64 a37), .imm (.int .i64 a38), .imm (.int .i64 a39), .imm (.int .i64 a40), .imm (.int .i64 a41), .imm (.int .i64 a42), .imm (.int .i64 a43), .imm (.int .i64 a44), .imm (.int .i64 a45), .imm (.int .i64 a46), .imm (.int .i64 a47), .imm (.int .i64 a48), .imm (.int .i64 a49), .imm (.int .i64 a50), .imm (.int .i64 a51), .imm (.int .i64 a52), .imm (.int .i64 a53), .imm (.int .i64 a54), .imm (.int .i64 a55), .imm (.int .i64 a56), .imm (.int .i64 a57), .imm (.int .i64 a58), .imm (.int .i64 a59), .imm (.int .i64 a60), .imm (.int .i64 a61), .imm (.bool a62), .view (vw GRule.c a63)], .agg [.imm (.int .i64 a0), .view (vw intC a1), .imm (.int .i64 a2), .imm (.int .i64 a3), .imm (.int .i64 a4), .imm (.int .i64 a5), .imm (.int .i64 a6), .imm (.int .i64 a7), .imm (.bool a8), .imm (.bool a9), .imm (.int .i64 a10), .imm (.int .i64 a11), .imm (.int .i64 a12), .imm (.int .i64 a13), .imm (.int .i64 a14), .imm (.int .i64 a15), .imm (.int .i64 a16), .imm (.int .i64 a17), .imm (.int .i64 a18), .imm (.int .i64 a19), .imm (.int .i64 a20), .imm (.int .i64 a21), .imm (.int .i64 a22), .imm (.int .i64 a23), .imm (.int .i64 a24), .imm (.int .i64 a25), .imm (.int .i64 a26), .imm (.int .i64 a27), .imm (.int .i64 a28), .imm (.int .i64 a29), .imm (.int .i64 a30), .imm (.int .i64 a31), .imm (.int .i64 a32), .imm (.int .i64 a33), .imm (.int .i64 a34), .imm (.int .i64 a35), .imm (.int .i64 a36), .imm (.int .i64 a37), .imm (.int .i64 a38), .imm (.int .i64 a39), .imm (.int .i64 a40), .imm (.int .i64 a41), .imm (.int .i64 a42), .imm (.int .i64 a43), .imm (.int .i64 a44), .imm (.int .i64 a45), .imm (.int .i64 a46), .imm (.int .i64 a47), .imm (.int .i64 a48), .imm (.int .i64 a49), .imm (.int .i64 a50), .imm (.int .i64 a51), .imm (.int .i64 a52), .imm (.int .i64 a53), .imm (.int .i64 a54), .imm (.int .i64 a55), .imm (.int .i64 a56), .imm (.int .i64 a57), .imm (.int .i64 a58), .imm (.int .i64 a59), .imm (.int .i64 a60), .imm (.int .i64 a61), .imm (.bool a62), .view (vw GRule.c a63)]] (fun res rows => res = .t (abl true) ∧ rows = [])
  have c1 := laws_eqIntS_a a1 a1 sa1
  rw [decide_eq_true rfl] at c1
  have c2 : PCon Tryz.prog 140 [.agg [.imm (.int .i64 a2), .imm (.int .i64 a3), .imm (.int .i64 a4), .imm (.int .i64 a5), .imm (.int .i64 a6), .imm (.int .i64 a7), .imm (.bool a8), .imm (.bool a9), .imm (.int .i64 a10), .imm (.int .i64 a11), .imm (.int .i64 a12), .imm (.int .i64 a13), .imm (.int .i64 a14), .imm (.int .i64 a15), .imm (.int .i64 a16), .imm (.int .i64 a17), .imm (.int .i64 a18), .imm (.int .i64 a19), .imm (.int .i64 a20), .imm (.int .i64 a21), .imm (.int .i64 a22), .imm (.int .i64 a23), .imm (.int .i64 a24), .imm (.int .i64 a25), .imm (.int .i64 a26), .imm (.int .i64 a27), .imm (.int .i64 a28), .imm (.int .i64 a29), .imm (.int .i64 a30), .imm (.int .i64 a31), .imm (.int .i64 a32), .imm (.int .i64 a33), .imm (.int .i64 a34), .imm (.int .i64 a35), .imm (.int .i64 a36), .imm (.int .i64 a37), .imm (.int .i64 a38), .imm (.int .i64 a39), .imm (.int .i64 a40), .imm (.int .i64 a41), .imm (.int .i64 a42), .imm (.int .i64 a43), .imm (.int .i64 a44), .imm (.int .i64 a45), .imm (.int .i64 a46), .imm (.int .i64 a47), .imm (.int .i64 a48), .imm (.int .i64 a49), .imm (.int .i64 a50), .imm (.int .i64 a51), .imm (.int .i64 a52), .imm (.int .i64 a53), .imm (.int .i64 a54), .imm (.int .i64 a55), .imm (.int .i64 a56), .imm (.int .i64 a57), .imm (.int .i64 a58), .imm (.int .i64 a59), .imm (.int .i64 a60), .imm (.int .i64 a61)], .agg [.imm (.int .i64 a2), .imm (.int .i64 a3), .imm (.int .i64 a4), .imm (.int .i64 a5), .imm (.int .i64 a6), .imm (.int .i64 a7), .imm (.bool a8), .imm (.bool a9), .imm (.int .i64 a10), .imm (.int .i64 a11), .imm (.int .i64 a12), .imm (.int .i64 a13), .imm (.int .i64 a14), .imm (.int .i64 a15), .imm (.int .i64 a16), .imm (.int .i64 a17), .imm (.int .i64 a18), .imm (.int .i64 a19), .imm (.int .i64 a20), .imm (.int .i64 a21), .imm (.int .i64 a22), .imm (.int .i64 a23), .imm (.int .i64 a24), .imm (.int .i64 a25), .imm (.int .i64 a26), .imm (.int .i64 a27), .imm (.int .i64 a28), .imm (.int .i64 a29), .imm (.int .i64 a30), .imm (.int .i64 a31), .imm (.int .i64 a32), .imm (.int .i64 a33), .imm (.int .i64 a34), .imm (.int .i64 a35), .imm (.int .i64 a36), .imm (.int .i64 a37), .imm (.int .i64 a38), .imm (.int .i64 a39), .imm (.int .i64 a40), .imm (.int .i64 a41), .imm (.int .i64 a42), .imm (.int .i64 a43), .imm (.int .i64 a44), .imm (.int .i64 a45), .imm (.int .i64 a46), .imm (.int .i64 a47), .imm (.int .i64 a48), .imm (.int .i64 a49), .imm (.int .i64 a50), .imm (.int .i64 a51), .imm (.int .i64 a52), .imm (.int .i64 a53), .imm (.int .i64 a54), .imm (.int .i64 a55), .imm (.int .i64 a56), .imm (.int .i64 a57), .imm (.int .i64 a58), .imm (.int .i64 a59), .imm (.int .i64 a60), .imm (.int .i64 a61)]] (fun res rows => res = .t (abl (decide ((⟨a2, a3, a4, a5, a6, a7, a8, a9, a10, a11, a12, ⟨a13, a14⟩, ⟨a15, a16⟩, ⟨a17, a18⟩, ⟨a19, a20⟩, ⟨a21, a22⟩, ⟨a23, a24⟩, ⟨a25, a26⟩, a27, ⟨⟨a28, a29⟩, ⟨a30, a31⟩, ⟨a32, a33⟩, ⟨a34, a35⟩, ⟨a36, a37⟩, ⟨a38, a39⟩⟩, ⟨⟨a40, a41⟩, ⟨a42, a43⟩, ⟨a44, a45⟩, ⟨a46, a47⟩, ⟨a48, a49⟩, ⟨a50, a51⟩⟩, ⟨a52, a53, a54, a55⟩, ⟨a56, a57, a58, a59⟩, a60, a61⟩ : GStyle) = ⟨a2, a3, a4, a5, a6, a7, a8, a9, a10, a11, a12, ⟨a13, a14⟩, ⟨a15, a16⟩, ⟨a17, a18⟩, ⟨a19, a20⟩, ⟨a21, a22⟩, ⟨a23, a24⟩, ⟨a25, a26⟩, a27, ⟨⟨a28, a29⟩, ⟨a30, a31⟩, ⟨a32, a33⟩, ⟨a34, a35⟩, ⟨a36, a37⟩, ⟨a38, a39⟩⟩, ⟨⟨a40, a41⟩, ⟨a42, a43⟩, ⟨a44, a45⟩, ⟨a46, a47⟩, ⟨a48, a49⟩, ⟨a50, a51⟩⟩, ⟨a52, a53, a54, a55⟩, ⟨a56, a57, a58, a59⟩, a60, a61⟩))) ∧ rows = []) := laws_eqStyle_a ⟨a2, a3, a4, a5, a6, a7, a8, a9, a10, a11, a12, ⟨a13, a14⟩, ⟨a15, a16⟩, ⟨a17, a18⟩, ⟨a19, a20⟩, ⟨a21, a22⟩, ⟨a23, a24⟩, ⟨a25, a26⟩, a27, ⟨⟨a28, a29⟩, ⟨a30, a31⟩, ⟨a32, a33⟩, ⟨a34, a35⟩, ⟨a36, a37⟩, ⟨a38, a39⟩⟩, ⟨⟨a40, a41⟩, ⟨a42, a43⟩, ⟨a44, a45⟩, ⟨a46, a47⟩, ⟨a48, a49⟩, ⟨a50, a51⟩⟩, ⟨a52, a53, a54, a55⟩, ⟨a56, a57, a58, a59⟩, a60, a61⟩ ⟨a2, a3, a4, a5, a6, a7, a8, a9, a10, a11, a12, ⟨a13, a14⟩, ⟨a15, a16⟩, ⟨a17, a18⟩, ⟨a19, a20⟩, ⟨a21, a22⟩, ⟨a23, a24⟩, ⟨a25, a26⟩, a27, ⟨⟨a28, a29⟩, ⟨a30, a31⟩, ⟨a32, a33⟩, ⟨a34, a35⟩, ⟨a36, a37⟩, ⟨a38, a39⟩⟩, ⟨⟨a40, a41⟩, ⟨a42, a43⟩, ⟨a44, a45⟩, ⟨a46, a47⟩, ⟨a48, a49⟩, ⟨a50, a51⟩⟩, ⟨a52, a53, a54, a55⟩, ⟨a56, a57, a58, a59⟩, a60, a61⟩
  rw [decide_eq_true rfl] at c2
  have c63 : PCon Tryz.prog 25 [.agg [.view (vw GRule.c a63)], .agg [.view (vw GRule.c a63)]] (fun res rows => res = .t (abl true) ∧ rows = []) := laws_eqTable_n ⟨a63⟩ ⟨sa63, trivial⟩
  obtain ⟨Va1, hVa1⟩ : ∃ Va1, Va1 = vw intC a1 := ⟨_, rfl⟩
  have hVa1l : Va1.length = a1.length := by rw [hVa1, vw_length]
  have iVa1 : immE Va1 = true := by rw [hVa1]; exact vw_imm _ _
  have kVa1 : ∀ y ∈ Va1, y.length = 1 := by rw [hVa1]; exact vw_k (c := intC) (k := 1) fun _ => rfl
  have dVa1 : ∀ y ∈ Va1, y.all dat = true := by rw [hVa1]; exact vw_dat
  obtain ⟨Va63, hVa63⟩ : ∃ Va63, Va63 = vw GRule.c a63 := ⟨_, rfl⟩
  have hVa63l : Va63.length = a63.length := by rw [hVa63, vw_length]
  have iVa63 : immE Va63 = true := by rw [hVa63]; exact vw_imm _ _
  have kVa63 : ∀ y ∈ Va63, y.length = 3 := by rw [hVa63]; exact vw_k (c := GRule.c) (k := 3) fun _ => rfl
  have dVa63 : ∀ y ∈ Va63, y.all dat = true := by rw [hVa63]; exact vw_dat
  rw [← hVa1] at c1
  rw [← hVa63] at c63
  rw [← hVa1, ← hVa63]
  refine pcon_run (c := body Tryz.f126) fits Tryz.func126 (by kernel_rfl) (by kernel_rfl) (by rfl) (by kernel_rfl) fun g F hg hF => ?_
  cbv
  have q : ∀ a : Int, g .q .neq a a = false := fun a => by rw [goNeq hg]; simp
  have qb : ∀ a : Bool, g .qb .neq a a = false := fun a => by rw [goNeqB hg]; simp
  repeat' (first | (rw [q]; cbv) | (rw [qb]; cbv) | (refine call0 hg c1 rfl rfl ?_; cbv) | (refine call0P hg c1 rfl rfl ?_; cbv) | (refine call0 hg c2 rfl rfl ?_; cbv) | (refine call0P hg c2 rfl rfl ?_; cbv) | (refine call0 hg c63 rfl rfl ?_; cbv) | (refine call0P hg c63 rfl rfl ?_; cbv))
  exact fin0b hF rfl
set_option maxHeartbeats 8000000 in
theorem laws_szNode_n (x : NNode) (L : Int) (hf : x.fit) (h0 : 0 ≤ L) (h1 : L ≤ 1048576) : PCon Tryz.prog 113 [.agg x.ac, ai L] fun res rows => ∃ R : Int, res = .t (ai R) ∧ rows = [] ∧ (R ≤ L ∨ R < 0) ∧ (0 ≤ R → x.small) := by
  obtain ⟨a0, a1, ⟨a2, a3, a4, a5, a6, a7, a8, a9, a10, a11, a12, ⟨a13, a14⟩, ⟨a15, a16⟩, ⟨a17, a18⟩, ⟨a19, a20⟩, ⟨a21, a22⟩, ⟨a23, a24⟩, ⟨a25, a26⟩, a27, ⟨⟨a28, a29⟩, ⟨a30, a31⟩, ⟨a32, a33⟩, ⟨a34, a35⟩, ⟨a36, a37⟩, ⟨a38, a39⟩⟩, ⟨⟨a40, a41⟩, ⟨a42, a43⟩, ⟨a44, a45⟩, ⟨a46, a47⟩, ⟨a48, a49⟩, ⟨a50, a51⟩⟩, ⟨a52, a53, a54, a55⟩, ⟨a56, a57, a58, a59⟩, a60, a61⟩, a62, ⟨a63⟩⟩ := x
  obtain ⟨sa1, sa63, -⟩ := hf
  show PCon _ _ [.agg [.imm (.int .i64 a0), .view (vw intC a1), .imm (.int .i64 a2), .imm (.int .i64 a3), .imm (.int .i64 a4), .imm (.int .i64 a5), .imm (.int .i64 a6), .imm (.int .i64 a7), .imm (.bool a8), .imm (.bool a9), .imm (.int .i64 a10), .imm (.int .i64 a11), .imm (.int .i64 a12), .imm (.int .i64 a13), .imm (.int .i64 a14), .imm (.int .i64 a15), .imm (.int .i64 a16), .imm (.int .i64 a17), .imm (.int .i64 a18), .imm (.int .i64 a19), .imm (.int .i64 a20), .imm (.int .i64 a21), .imm (.int .i64 a22), .imm (.int .i64 a23), .imm (.int .i64 a24), .imm (.int .i64 a25), .imm (.int .i64 a26), .imm (.int .i64 a27), .imm (.int .i64 a28), .imm (.int .i64 a29), .imm (.int .i64 a30), .imm (.int .i64 a31), .imm (.int .i64 a32), .imm (.int .i64 a33), .imm (.int .i64 a34), .imm (.int .i64 a35), .imm (.int .i64 a36), .imm (.int .i64 a37), .imm (.int .i64 a38), .imm (.int .i64 a39), .imm (.int .i64 a40), .imm (.int .i64 a41), .imm (.int .i64 a42), .imm (.int .i64 a43), .imm (.int .i64 a44), .imm (.int .i64 a45), .imm (.int .i64 a46), .imm (.int .i64 a47), .imm (.int .i64 a48), .imm (.int .i64 a49), .imm (.int .i64 a50), .imm (.int .i64 a51), .imm (.int .i64 a52), .imm (.int .i64 a53), .imm (.int .i64 a54), .imm (.int .i64 a55), .imm (.int .i64 a56), .imm (.int .i64 a57), .imm (.int .i64 a58), .imm (.int .i64 a59), .imm (.int .i64 a60), .imm (.int .i64 a61), .imm (.bool a62), .view (vw GRule.c a63)], ai L] (fun res rows => ∃ R : Int, res = .t (ai R) ∧ rows = [] ∧ (R ≤ L ∨ R < 0) ∧ (0 ≤ R → NNode.small ⟨a0, a1, ⟨a2, a3, a4, a5, a6, a7, a8, a9, a10, a11, a12, ⟨a13, a14⟩, ⟨a15, a16⟩, ⟨a17, a18⟩, ⟨a19, a20⟩, ⟨a21, a22⟩, ⟨a23, a24⟩, ⟨a25, a26⟩, a27, ⟨⟨a28, a29⟩, ⟨a30, a31⟩, ⟨a32, a33⟩, ⟨a34, a35⟩, ⟨a36, a37⟩, ⟨a38, a39⟩⟩, ⟨⟨a40, a41⟩, ⟨a42, a43⟩, ⟨a44, a45⟩, ⟨a46, a47⟩, ⟨a48, a49⟩, ⟨a50, a51⟩⟩, ⟨a52, a53, a54, a55⟩, ⟨a56, a57, a58, a59⟩, a60, a61⟩, a62, ⟨a63⟩⟩))
  have c1 := fun (M : Int) (h0 : 0 ≤ M) (h1 : M ≤ 1048576) => szZ (laws_szIntS_b (vw intC a1) M (by rw [vw_length]; exact sa1) h0 h1)
  have c63 : ∀ (M : Int) (h0 : 0 ≤ M) (h1 : M ≤ 1048576), PCon Tryz.prog 21 [.agg [.view (vw GRule.c a63)], ai M] (fun res rows => ∃ R : Int, res = .t (ai R) ∧ rows = [] ∧ (R ≤ M ∨ R < 0) ∧ (0 ≤ R → NTable.small ⟨a63⟩)) := fun M h0 h1 => laws_szTable_n ⟨a63⟩ M ⟨sa63, trivial⟩ h0 h1
  obtain ⟨Va1, hVa1⟩ : ∃ Va1, Va1 = vw intC a1 := ⟨_, rfl⟩
  have hVa1l : Va1.length = a1.length := by rw [hVa1, vw_length]
  have iVa1 : immE Va1 = true := by rw [hVa1]; exact vw_imm _ _
  have kVa1 : ∀ y ∈ Va1, y.length = 1 := by rw [hVa1]; exact vw_k (c := intC) (k := 1) fun _ => rfl
  have dVa1 : ∀ y ∈ Va1, y.all dat = true := by rw [hVa1]; exact vw_dat
  obtain ⟨Va63, hVa63⟩ : ∃ Va63, Va63 = vw GRule.c a63 := ⟨_, rfl⟩
  have hVa63l : Va63.length = a63.length := by rw [hVa63, vw_length]
  have iVa63 : immE Va63 = true := by rw [hVa63]; exact vw_imm _ _
  have kVa63 : ∀ y ∈ Va63, y.length = 3 := by rw [hVa63]; exact vw_k (c := GRule.c) (k := 3) fun _ => rfl
  have dVa63 : ∀ y ∈ Va63, y.all dat = true := by rw [hVa63]; exact vw_dat
  have c1' : ∀ (M : Int), 0 ≤ M → M ≤ 1048576 → PCon _ _ [.c (.view Va1), ai M] (fun res rows => ∃ R : Int, res = .t (ai R) ∧ rows = [] ∧ (R ≤ M ∨ R < 0) ∧ (0 ≤ R → ((Va1.length : Nat) : Int) ≤ M)) := fun M h0 h1 => by have := c1 M h0 h1; rw [← hVa1] at this; exact this
  simp only [← hVa63] at c63
  rw [← hVa1, ← hVa63]
  refine pcon_run (c := body Tryz.f113) fits Tryz.func113 (by kernel_rfl) (by kernel_rfl) (by rfl) (by kernel_rfl) fun g F hg hF => ?_
  cbv
  refine callZ hg (c1' L h0 h1) rfl (fun R0 hR0 => ?_)
  obtain ⟨hR0, hB0⟩ := hR0
  cbv
  cases e0 : g .q .lss R0 0
  case true =>
    cbv
    exact finZ hF ⟨.inr (by decide), fun h => absurd h (by decide)⟩
  rw [goLss hg, decide_eq_false_iff_not] at e0
  have p0 : 0 ≤ R0 := by omega
  have r0 : R0 ≤ 1048576 := by omega
  cbv
  refine callZ hg (c63 R0 p0 r0) rfl (fun R1 hR1 => ?_)
  obtain ⟨hR1, hB1⟩ := hR1
  cbv
  cases e1 : g .q .lss R1 0
  case true =>
    cbv
    exact finZ hF ⟨.inr (by decide), fun h => absurd h (by decide)⟩
  rw [goLss hg, decide_eq_false_iff_not] at e1
  have p1 : 0 ≤ R1 := by omega
  have r1 : R1 ≤ 1048576 := by omega
  cbv
  exact finZ hF ⟨.inl (by omega), fun _ => ⟨small_of hVa1l (hB0 p0) h1, (hB1 p1).1, trivial⟩⟩
set_option maxHeartbeats 8000000 in
theorem laws_toNodeS_n (xs : List NNode) (hl : xs.length ≤ 1048576) (hs : ∀ y ∈ xs, y.small) : PCon Tryz.prog 80 [.c (.view (vwA NNode.ac xs))] fun res rows => res = .t (.c (.view (vwA NNode.ac xs))) ∧ rows = [] := by
  obtain ⟨V, hV⟩ : ∃ V, V = vwA NNode.ac xs := ⟨_, rfl⟩
  have hVl : V.length = xs.length := by rw [hV, vwA_length]
  have kV : ∀ y ∈ V, y.length = 64 := by rw [hV]; exact vwA_k NNode.len
  have dV : ∀ y ∈ V, y.all dat = true := by rw [hV]; exact vwA_dat NNode.dat
  have hVx : lenI V = (xs.length : Int) := by rw [lenI_eq]; omega
  have hV1 : lenI V ≤ 1048576 := by omega
  have hV0 : 0 ≤ lenI V := by omega
  rw [← hV]
  refine pcon_run (c := body Tryz.f80) fits Tryz.func80 (by kernel_rfl) (by kernel_rfl) (by rfl) (by kernel_rfl) fun g F hg hF => ?_
  cbv
  refine goMk hg (by decide) (by rw [hVl]; exact hl) ?_
  cbv
  have hst : Fill 64 V (List.replicate (g .ln V).toNat [.imm (.int .i64 0), .imm (.slice none 0 0), .imm (.int .i64 0), .imm (.int .i64 0), .imm (.int .i64 0), .imm (.int .i64 0), .imm (.int .i64 0), .imm (.int .i64 0), .imm (.bool false), .imm (.bool false), .imm (.int .i64 0), .imm (.int .i64 0), .imm (.int .i64 0), .imm (.int .i64 0), .imm (.int .i64 0), .imm (.int .i64 0), .imm (.int .i64 0), .imm (.int .i64 0), .imm (.int .i64 0), .imm (.int .i64 0), .imm (.int .i64 0), .imm (.int .i64 0), .imm (.int .i64 0), .imm (.int .i64 0), .imm (.int .i64 0), .imm (.int .i64 0), .imm (.int .i64 0), .imm (.int .i64 0), .imm (.int .i64 0), .imm (.int .i64 0), .imm (.int .i64 0), .imm (.int .i64 0), .imm (.int .i64 0), .imm (.int .i64 0), .imm (.int .i64 0), .imm (.int .i64 0), .imm (.int .i64 0), .imm (.int .i64 0), .imm (.int .i64 0), .imm (.int .i64 0), .imm (.int .i64 0), .imm (.int .i64 0), .imm (.int .i64 0), .imm (.int .i64 0), .imm (.int .i64 0), .imm (.int .i64 0), .imm (.int .i64 0), .imm (.int .i64 0), .imm (.int .i64 0), .imm (.int .i64 0), .imm (.int .i64 0), .imm (.int .i64 0), .imm (.int .i64 0), .imm (.int .i64 0), .imm (.int .i64 0), .imm (.int .i64 0), .imm (.int .i64 0), .imm (.int .i64 0), .imm (.int .i64 0), .imm (.int .i64 0), .imm (.int .i64 0), .imm (.int .i64 0), .imm (.bool false), .imm (.slice none 0 0)]) 0 := Fill.start (k := 64) (z := [.imm (.int .i64 0), .imm (.slice none 0 0), .imm (.int .i64 0), .imm (.int .i64 0), .imm (.int .i64 0), .imm (.int .i64 0), .imm (.int .i64 0), .imm (.int .i64 0), .imm (.bool false), .imm (.bool false), .imm (.int .i64 0), .imm (.int .i64 0), .imm (.int .i64 0), .imm (.int .i64 0), .imm (.int .i64 0), .imm (.int .i64 0), .imm (.int .i64 0), .imm (.int .i64 0), .imm (.int .i64 0), .imm (.int .i64 0), .imm (.int .i64 0), .imm (.int .i64 0), .imm (.int .i64 0), .imm (.int .i64 0), .imm (.int .i64 0), .imm (.int .i64 0), .imm (.int .i64 0), .imm (.int .i64 0), .imm (.int .i64 0), .imm (.int .i64 0), .imm (.int .i64 0), .imm (.int .i64 0), .imm (.int .i64 0), .imm (.int .i64 0), .imm (.int .i64 0), .imm (.int .i64 0), .imm (.int .i64 0), .imm (.int .i64 0), .imm (.int .i64 0), .imm (.int .i64 0), .imm (.int .i64 0), .imm (.int .i64 0), .imm (.int .i64 0), .imm (.int .i64 0), .imm (.int .i64 0), .imm (.int .i64 0), .imm (.int .i64 0), .imm (.int .i64 0), .imm (.int .i64 0), .imm (.int .i64 0), .imm (.int .i64 0), .imm (.int .i64 0), .imm (.int .i64 0), .imm (.int .i64 0), .imm (.int .i64 0), .imm (.int .i64 0), .imm (.int .i64 0), .imm (.int .i64 0), .imm (.int .i64 0), .imm (.int .i64 0), .imm (.int .i64 0), .imm (.int .i64 0), .imm (.bool false), .imm (.slice none 0 0)]) rfl rfl (goLn hg V)
  refine loop_run hg fits (by kernel_rfl) (fun s : Int × List (List AC) => [(0, .t (.c (.view V))), (3, .t (.c (.own 0))), (4, .t (ai s.1))]) (fun s => [.rw ⟨106, 64, s.2⟩]) (fun s => Fill 64 V s.2 s.1) (fun s => (lenI V).toNat - s.1.toNat)
    (0, g .rp (g .ln V) [.imm (.int .i64 0), .imm (.slice none 0 0), .imm (.int .i64 0), .imm (.int .i64 0), .imm (.int .i64 0), .imm (.int .i64 0), .imm (.int .i64 0), .imm (.int .i64 0), .imm (.bool false), .imm (.bool false), .imm (.int .i64 0), .imm (.int .i64 0), .imm (.int .i64 0), .imm (.int .i64 0), .imm (.int .i64 0), .imm (.int .i64 0), .imm (.int .i64 0), .imm (.int .i64 0), .imm (.int .i64 0), .imm (.int .i64 0), .imm (.int .i64 0), .imm (.int .i64 0), .imm (.int .i64 0), .imm (.int .i64 0), .imm (.int .i64 0), .imm (.int .i64 0), .imm (.int .i64 0), .imm (.int .i64 0), .imm (.int .i64 0), .imm (.int .i64 0), .imm (.int .i64 0), .imm (.int .i64 0), .imm (.int .i64 0), .imm (.int .i64 0), .imm (.int .i64 0), .imm (.int .i64 0), .imm (.int .i64 0), .imm (.int .i64 0), .imm (.int .i64 0), .imm (.int .i64 0), .imm (.int .i64 0), .imm (.int .i64 0), .imm (.int .i64 0), .imm (.int .i64 0), .imm (.int .i64 0), .imm (.int .i64 0), .imm (.int .i64 0), .imm (.int .i64 0), .imm (.int .i64 0), .imm (.int .i64 0), .imm (.int .i64 0), .imm (.int .i64 0), .imm (.int .i64 0), .imm (.int .i64 0), .imm (.int .i64 0), .imm (.int .i64 0), .imm (.int .i64 0), .imm (.int .i64 0), .imm (.int .i64 0), .imm (.int .i64 0), .imm (.int .i64 0), .imm (.int .i64 0), .imm (.bool false), .imm (.slice none 0 0)]) [some 0] ?_ (wkS [0] (by decide) ⟨⟨_, rfl, rfl, ?_⟩, trivial⟩ ⟨rfl, rfl, rfl, trivial⟩) (fun s B hs' hB => ?_)
  · simp only [goRp hg]; exact hst
  · simp only [goRp hg]; exact hst.pl
  · obtain ⟨z, es⟩ := s
    simp only at hs'
    have h0 := hs'.z0
    have h1 := hs'.z1
    have hlen := hs'.len
    cbv
    cases hc : g .q .lss z (g .ln V)
    · cbv
      rw [goLss hg, goLn hg, decide_eq_false_iff_not] at hc
      obtain rfl := hs'.done hc
      exact finFrz [.c (.view es)] hF (.c (resRow (ab := ⟨_, _, es⟩) rfl kV dV) .nil) ⟨rfl, rfl⟩
    · cbv
      rw [goLss hg, goLn hg, decide_eq_true_eq] at hc
      obtain ⟨x, hx⟩ := at_z (xs := xs) h0 (lt_viaN hVx hc)
      have hsx := hs x (List.mem_of_getElem? hx)
      have hyy : V[z.toNat]? = some x.ac := by rw [hV]; exact vwA_at hx
      have cx := laws_toNode_n x hsx
      obtain ⟨a0, a1, ⟨a2, a3, a4, a5, a6, a7, a8, a9, a10, a11, a12, ⟨a13, a14⟩, ⟨a15, a16⟩, ⟨a17, a18⟩, ⟨a19, a20⟩, ⟨a21, a22⟩, ⟨a23, a24⟩, ⟨a25, a26⟩, a27, ⟨⟨a28, a29⟩, ⟨a30, a31⟩, ⟨a32, a33⟩, ⟨a34, a35⟩, ⟨a36, a37⟩, ⟨a38, a39⟩⟩, ⟨⟨a40, a41⟩, ⟨a42, a43⟩, ⟨a44, a45⟩, ⟨a46, a47⟩, ⟨a48, a49⟩, ⟨a50, a51⟩⟩, ⟨a52, a53, a54, a55⟩, ⟨a56, a57, a58, a59⟩, a60, a61⟩, a62, ⟨a63⟩⟩ := x
      replace hyy : V[z.toNat]? = some [.imm (.int .i64 a0), .view (vw intC a1), .imm (.int .i64 a2), .imm (.int .i64 a3), .imm (.int .i64 a4), .imm (.int .i64 a5), .imm (.int .i64 a6), .imm (.int .i64 a7), .imm (.bool a8), .imm (.bool a9), .imm (.int .i64 a10), .imm (.int .i64 a11), .imm (.int .i64 a12), .imm (.int .i64 a13), .imm (.int .i64 a14), .imm (.int .i64 a15), .imm (.int .i64 a16), .imm (.int .i64 a17), .imm (.int .i64 a18), .imm (.int .i64 a19), .imm (.int .i64 a20), .imm (.int .i64 a21), .imm (.int .i64 a22), .imm (.int .i64 a23), .imm (.int .i64 a24), .imm (.int .i64 a25), .imm (.int .i64 a26), .imm (.int .i64 a27), .imm (.int .i64 a28), .imm (.int .i64 a29), .imm (.int .i64 a30), .imm (.int .i64 a31), .imm (.int .i64 a32), .imm (.int .i64 a33), .imm (.int .i64 a34), .imm (.int .i64 a35), .imm (.int .i64 a36), .imm (.int .i64 a37), .imm (.int .i64 a38), .imm (.int .i64 a39), .imm (.int .i64 a40), .imm (.int .i64 a41), .imm (.int .i64 a42), .imm (.int .i64 a43), .imm (.int .i64 a44), .imm (.int .i64 a45), .imm (.int .i64 a46), .imm (.int .i64 a47), .imm (.int .i64 a48), .imm (.int .i64 a49), .imm (.int .i64 a50), .imm (.int .i64 a51), .imm (.int .i64 a52), .imm (.int .i64 a53), .imm (.int .i64 a54), .imm (.int .i64 a55), .imm (.int .i64 a56), .imm (.int .i64 a57), .imm (.int .i64 a58), .imm (.int .i64 a59), .imm (.int .i64 a60), .imm (.int .i64 a61), .imm (.bool a62), .view (vw GRule.c a63)] := hyy
      replace cx : PCon _ _ [.agg [.imm (.int .i64 a0), .view (vw intC a1), .imm (.int .i64 a2), .imm (.int .i64 a3), .imm (.int .i64 a4), .imm (.int .i64 a5), .imm (.int .i64 a6), .imm (.int .i64 a7), .imm (.bool a8), .imm (.bool a9), .imm (.int .i64 a10), .imm (.int .i64 a11), .imm (.int .i64 a12), .imm (.int .i64 a13), .imm (.int .i64 a14), .imm (.int .i64 a15), .imm (.int .i64 a16), .imm (.int .i64 a17), .imm (.int .i64 a18), .imm (.int .i64 a19), .imm (.int .i64 a20), .imm (.int .i64 a21), .imm (.int .i64 a22), .imm (.int .i64 a23), .imm (.int .i64 a24), .imm (.int .i64 a25), .imm (.int .i64 a26), .imm (.int .i64 a27), .imm (.int .i64 a28), .imm (.int .i64 a29), .imm (.int .i64 a30), .imm (.int .i64 a31), .imm (.int .i64 a32), .imm (.int .i64 a33), .imm (.int .i64 a34), .imm (.int .i64 a35), .imm (.int .i64 a36), .imm (.int .i64 a37), .imm (.int .i64 a38), .imm (.int .i64 a39), .imm (.int .i64 a40), .imm (.int .i64 a41), .imm (.int .i64 a42), .imm (.int .i64 a43), .imm (.int .i64 a44), .imm (.int .i64 a45), .imm (.int .i64 a46), .imm (.int .i64 a47), .imm (.int .i64 a48), .imm (.int .i64 a49), .imm (.int .i64 a50), .imm (.int .i64 a51), .imm (.int .i64 a52), .imm (.int .i64 a53), .imm (.int .i64 a54), .imm (.int .i64 a55), .imm (.int .i64 a56), .imm (.int .i64 a57), .imm (.int .i64 a58), .imm (.int .i64 a59), .imm (.int .i64 a60), .imm (.int .i64 a61), .imm (.bool a62), .view (vw GRule.c a63)]] (fun res rows => res = .t (.agg [.imm (.int .i64 a0), .view (vw intC a1), .imm (.int .i64 a2), .imm (.int .i64 a3), .imm (.int .i64 a4), .imm (.int .i64 a5), .imm (.int .i64 a6), .imm (.int .i64 a7), .imm (.bool a8), .imm (.bool a9), .imm (.int .i64 a10), .imm (.int .i64 a11), .imm (.int .i64 a12), .imm (.int .i64 a13), .imm (.int .i64 a14), .imm (.int .i64 a15), .imm (.int .i64 a16), .imm (.int .i64 a17), .imm (.int .i64 a18), .imm (.int .i64 a19), .imm (.int .i64 a20), .imm (.int .i64 a21), .imm (.int .i64 a22), .imm (.int .i64 a23), .imm (.int .i64 a24), .imm (.int .i64 a25), .imm (.int .i64 a26), .imm (.int .i64 a27), .imm (.int .i64 a28), .imm (.int .i64 a29), .imm (.int .i64 a30), .imm (.int .i64 a31), .imm (.int .i64 a32), .imm (.int .i64 a33), .imm (.int .i64 a34), .imm (.int .i64 a35), .imm (.int .i64 a36), .imm (.int .i64 a37), .imm (.int .i64 a38), .imm (.int .i64 a39), .imm (.int .i64 a40), .imm (.int .i64 a41), .imm (.int .i64 a42), .imm (.int .i64 a43), .imm (.int .i64 a44), .imm (.int .i64 a45), .imm (.int .i64 a46), .imm (.int .i64 a47), .imm (.int .i64 a48), .imm (.int .i64 a49), .imm (.int .i64 a50), .imm (.int .i64 a51), .imm (.int .i64 a52), .imm (.int .i64 a53), .imm (.int .i64 a54), .imm (.int .i64 a55), .imm (.int .i64 a56), .imm (.int .i64 a57), .imm (.int .i64 a58), .imm (.int .i64 a59), .imm (.int .i64 a60), .imm (.int .i64 a61), .imm (.bool a62), .view (vw GRule.c a63)]) ∧ rows = []) := cx
      obtain ⟨Va1, hVa1⟩ : ∃ V, V = vw intC a1 := ⟨_, rfl⟩
      obtain ⟨Va63, hVa63⟩ : ∃ V, V = vw GRule.c a63 := ⟨_, rfl⟩
      rw [← hVa1, ← hVa63] at hyy cx
      refine goX hg _ h0 hyy rfl ?_
      cbv
      refine call0 hg cx rfl rfl ?_
      cbv
      obtain ⟨j, hj⟩ : ∃ j, j = z.toNat := ⟨_, rfl⟩
      refine goYk hg h0 hj (lt_lenJ h0 (lt_eqI hlen hc) hj) ?_
      cbv
      refine goN hg (hs'.mem (lt_lenJ h0 (lt_eqI hlen hc) hj)) ?_
      cbv
      have h2 : g .w .add .i64 z 1 = z + 1 := by rw [goAdd hg, wrap_small _ (by omega)]
      rw [h2, goSt hg]
      have hs2 := hs'.step hc hj hyy rfl rfl
      exact back hB (z + 1, _) [some 0] (wkS [0] (by decide) ⟨⟨_, rfl, rfl, hs2.pl⟩, trivial⟩ ⟨rfl, rfl, rfl, trivial⟩) hs2 (by show (lenI V).toNat - (z + 1).toNat < (lenI V).toNat - z.toNat; omega)
set_option maxHeartbeats 8000000 in
theorem laws_eqNodeS_n (xs : List NNode) (hl : xs.length ≤ 1048576) (hs : ∀ y ∈ xs, y.small) : PCon Tryz.prog 87 [.c (.view (vwA NNode.ac xs)), .c (.view (vwA NNode.ac xs))] fun res rows => res = .t (abl true) ∧ rows = [] := by
  obtain ⟨V, hV⟩ : ∃ V, V = vwA NNode.ac xs := ⟨_, rfl⟩
  have hVl : V.length = xs.length := by rw [hV, vwA_length]
  have hVx : lenI V = (xs.length : Int) := by rw [lenI_eq]; omega
  have hV1 : lenI V ≤ 1048576 := by omega
  have hV0 : 0 ≤ lenI V := by omega
  rw [← hV]
  refine pcon_run (c := body Tryz.f87) fits Tryz.func87 (by kernel_rfl) (by kernel_rfl) (by rfl) (by kernel_rfl) fun g F hg hF => ?_
  cbv
  have q : ∀ a : Int, g .q .neq a a = false := fun a => by rw [goNeq hg]; simp
  rw [q]
  cbv
  refine loop_run hg fits (by kernel_rfl) (fun z : Int => [(0, .t (.c (.view V))), (1, .t (.c (.view V))), (5, .t (ai z))]) (fun _ => []) (fun z => 0 ≤ z ∧ z ≤ lenI V) (fun z => (lenI V).toNat - z.toNat)
    0 [] ⟨Int.le_refl 0, hV0⟩ (wk0 ⟨rfl, rfl, rfl, trivial⟩) (fun z B hs' hB => ?_)
  obtain ⟨h0, h1⟩ := hs'
  cbv
  cases hc : g .q .lss z (g .ln V)
  · cbv
    exact fin0b hF rfl
  · rw [goLss hg, goLn hg, decide_eq_true_eq] at hc
    cbv
    obtain ⟨x, hx⟩ := at_z (xs := xs) h0 (lt_viaN hVx hc)
    have hsx := hs x (List.mem_of_getElem? hx)
    have hyy : V[z.toNat]? = some x.ac := by rw [hV]; exact vwA_at hx
    have cx := laws_eqNode_n x hsx
    obtain ⟨a0, a1, ⟨a2, a3, a4, a5, a6, a7, a8, a9, a10, a11, a12, ⟨a13, a14⟩, ⟨a15, a16⟩, ⟨a17, a18⟩, ⟨a19, a20⟩, ⟨a21, a22⟩, ⟨a23, a24⟩, ⟨a25, a26⟩, a27, ⟨⟨a28, a29⟩, ⟨a30, a31⟩, ⟨a32, a33⟩, ⟨a34, a35⟩, ⟨a36, a37⟩, ⟨a38, a39⟩⟩, ⟨⟨a40, a41⟩, ⟨a42, a43⟩, ⟨a44, a45⟩, ⟨a46, a47⟩, ⟨a48, a49⟩, ⟨a50, a51⟩⟩, ⟨a52, a53, a54, a55⟩, ⟨a56, a57, a58, a59⟩, a60, a61⟩, a62, ⟨a63⟩⟩ := x
    replace hyy : V[z.toNat]? = some [.imm (.int .i64 a0), .view (vw intC a1), .imm (.int .i64 a2), .imm (.int .i64 a3), .imm (.int .i64 a4), .imm (.int .i64 a5), .imm (.int .i64 a6), .imm (.int .i64 a7), .imm (.bool a8), .imm (.bool a9), .imm (.int .i64 a10), .imm (.int .i64 a11), .imm (.int .i64 a12), .imm (.int .i64 a13), .imm (.int .i64 a14), .imm (.int .i64 a15), .imm (.int .i64 a16), .imm (.int .i64 a17), .imm (.int .i64 a18), .imm (.int .i64 a19), .imm (.int .i64 a20), .imm (.int .i64 a21), .imm (.int .i64 a22), .imm (.int .i64 a23), .imm (.int .i64 a24), .imm (.int .i64 a25), .imm (.int .i64 a26), .imm (.int .i64 a27), .imm (.int .i64 a28), .imm (.int .i64 a29), .imm (.int .i64 a30), .imm (.int .i64 a31), .imm (.int .i64 a32), .imm (.int .i64 a33), .imm (.int .i64 a34), .imm (.int .i64 a35), .imm (.int .i64 a36), .imm (.int .i64 a37), .imm (.int .i64 a38), .imm (.int .i64 a39), .imm (.int .i64 a40), .imm (.int .i64 a41), .imm (.int .i64 a42), .imm (.int .i64 a43), .imm (.int .i64 a44), .imm (.int .i64 a45), .imm (.int .i64 a46), .imm (.int .i64 a47), .imm (.int .i64 a48), .imm (.int .i64 a49), .imm (.int .i64 a50), .imm (.int .i64 a51), .imm (.int .i64 a52), .imm (.int .i64 a53), .imm (.int .i64 a54), .imm (.int .i64 a55), .imm (.int .i64 a56), .imm (.int .i64 a57), .imm (.int .i64 a58), .imm (.int .i64 a59), .imm (.int .i64 a60), .imm (.int .i64 a61), .imm (.bool a62), .view (vw GRule.c a63)] := hyy
    replace cx : PCon _ _ [.agg [.imm (.int .i64 a0), .view (vw intC a1), .imm (.int .i64 a2), .imm (.int .i64 a3), .imm (.int .i64 a4), .imm (.int .i64 a5), .imm (.int .i64 a6), .imm (.int .i64 a7), .imm (.bool a8), .imm (.bool a9), .imm (.int .i64 a10), .imm (.int .i64 a11), .imm (.int .i64 a12), .imm (.int .i64 a13), .imm (.int .i64 a14), .imm (.int .i64 a15), .imm (.int .i64 a16), .imm (.int .i64 a17), .imm (.int .i64 a18), .imm (.int .i64 a19), .imm (.int .i64 a20), .imm (.int .i64 a21), .imm (.int .i64 a22), .imm (.int .i64 a23), .imm (.int .i64 a24), .imm (.int .i64 a25), .imm (.int .i64 a26), .imm (.int .i64 a27), .imm (.int .i64 a28), .imm (.int .i64 a29), .imm (.int .i64 a30), .imm (.int .i64 a31), .imm (.int .i64 a32), .imm (.int .i64 a33), .imm (.int .i64 a34), .imm (.int .i64 a35), .imm (.int .i64 a36), .imm (.int .i64 a37), .imm (.int .i64 a38), .imm (.int .i64 a39), .imm (.int .i64 a40), .imm (.int .i64 a41), .imm (.int .i64 a42), .imm (.int .i64 a43), .imm (.int .i64 a44), .imm (.int .i64 a45), .imm (.int .i64 a46), .imm (.int .i64 a47), .imm (.int .i64 a48), .imm (.int .i64 a49), .imm (.int .i64 a50), .imm (.int .i64 a51), .imm (.int .i64 a52), .imm (.int .i64 a53), .imm (.int .i64 a54), .imm (.int .i64 a55), .imm (.int .i64 a56), .imm (.int .i64 a57), .imm (.int .i64 a58), .imm (.int .i64 a59), .imm (.int .i64 a60), .imm (.int .i64 a61), .imm (.bool a62), .view (vw GRule.c a63)], .agg [.imm (.int .i64 a0), .view (vw intC a1), .imm (.int .i64 a2), .imm (.int .i64 a3), .imm (.int .i64 a4), .imm (.int .i64 a5), .imm (.int .i64 a6), .imm (.int .i64 a7), .imm (.bool a8), .imm (.bool a9), .imm (.int .i64 a10), .imm (.int .i64 a11), .imm (.int .i64 a12), .imm (.int .i64 a13), .imm (.int .i64 a14), .imm (.int .i64 a15), .imm (.int .i64 a16), .imm (.int .i64 a17), .imm (.int .i64 a18), .imm (.int .i64 a19), .imm (.int .i64 a20), .imm (.int .i64 a21), .imm (.int .i64 a22), .imm (.int .i64 a23), .imm (.int .i64 a24), .imm (.int .i64 a25), .imm (.int .i64 a26), .imm (.int .i64 a27), .imm (.int .i64 a28), .imm (.int .i64 a29), .imm (.int .i64 a30), .imm (.int .i64 a31), .imm (.int .i64 a32), .imm (.int .i64 a33), .imm (.int .i64 a34), .imm (.int .i64 a35), .imm (.int .i64 a36), .imm (.int .i64 a37), .imm (.int .i64 a38), .imm (.int .i64 a39), .imm (.int .i64 a40), .imm (.int .i64 a41), .imm (.int .i64 a42), .imm (.int .i64 a43), .imm (.int .i64 a44), .imm (.int .i64 a45), .imm (.int .i64 a46), .imm (.int .i64 a47), .imm (.int .i64 a48), .imm (.int .i64 a49), .imm (.int .i64 a50), .imm (.int .i64 a51), .imm (.int .i64 a52), .imm (.int .i64 a53), .imm (.int .i64 a54), .imm (.int .i64 a55), .imm (.int .i64 a56), .imm (.int .i64 a57), .imm (.int .i64 a58), .imm (.int .i64 a59), .imm (.int .i64 a60), .imm (.int .i64 a61), .imm (.bool a62), .view (vw GRule.c a63)]] (fun res rows => res = .t (abl true) ∧ rows = []) := cx
    obtain ⟨Va1, hVa1⟩ : ∃ V, V = vw intC a1 := ⟨_, rfl⟩
    obtain ⟨Va63, hVa63⟩ : ∃ V, V = vw GRule.c a63 := ⟨_, rfl⟩
    rw [← hVa1, ← hVa63] at hyy cx
    refine goX hg _ h0 hyy rfl ?_
    cbv
    refine goX hg _ h0 hyy rfl ?_
    cbv
    (first | refine call0 hg cx rfl rfl ?_ | refine call0P hg cx rfl rfl ?_)
    cbv
    have h3 : g .w .add .i64 z 1 = z + 1 := by rw [goAdd hg, wrap_small _ (by omega)]
    rw [h3]
    exact back hB (z + 1) [] (wk0 ⟨rfl, rfl, rfl, trivial⟩) ⟨by omega, by omega⟩ (by show (lenI V).toNat - (z + 1).toNat < (lenI V).toNat - z.toNat; omega)
set_option maxHeartbeats 8000000 in
theorem laws_szNodeS_n (xs : List NNode) (L : Int) (hl : xs.length ≤ 9223372036854775807) (hf : ∀ y ∈ xs, y.fit) (h0L : 0 ≤ L) (h1L : L ≤ 1048576) : PCon Tryz.prog 74 [.c (.view (vwA NNode.ac xs)), ai L] fun res rows => ∃ R : Int, res = .t (ai R) ∧ rows = [] ∧ (R ≤ L ∨ R < 0) ∧ (0 ≤ R → xs.length ≤ 1048576 ∧ ∀ y ∈ xs, y.small) := by
  obtain ⟨V, hV⟩ : ∃ V, V = vwA NNode.ac xs := ⟨_, rfl⟩
  have hVl : V.length = xs.length := by rw [hV, vwA_length]
  have hVx : lenI V = (xs.length : Int) := by rw [lenI_eq]; omega
  have hV1 : lenI V ≤ 9223372036854775807 := by omega
  have hV0 : 0 ≤ lenI V := by omega
  have hsm : lenI V ≤ 1048576 → xs.length ≤ 1048576 := by omega
  rw [← hV]
  refine pcon_run (c := body Tryz.f74) fits Tryz.func74 (by kernel_rfl) (by kernel_rfl) (by rfl) (by kernel_rfl) fun g F hg hF => ?_
  cbv
  obtain ⟨D, hD⟩ : ∃ D, D = L - lenI V := ⟨_, rfl⟩
  have e1 : g .w .sub .i64 L (g .ln V) = D := by rw [goSub hg, goLn hg, wrap_small _ (by omega), hD]
  rw [e1]
  cases e : g .q .lss D 0
  case true =>
    cbv
    exact finZ hF ⟨.inr (by decide), fun h => absurd h (by decide)⟩
  rw [goLss hg, decide_eq_false_iff_not] at e
  have hsm2 := hsm (by omega)
  cbv
  refine loop_run hg fits (by kernel_rfl) (fun s : Int × Int => [(0, .t (.c (.view V))), (1, .t (ai s.2)), (5, .t (ai s.1))]) (fun _ => []) (fun s => 0 ≤ s.1 ∧ s.1 ≤ lenI V ∧ 0 ≤ s.2 ∧ s.2 ≤ L ∧ ∀ (i : Nat) (y : NNode), i < s.1.toNat → xs[i]? = some y → y.small) (fun s => (lenI V).toNat - s.1.toNat)
    (0, D) [] ⟨Int.le_refl 0, hV0, by simp only; omega, by simp only; omega, fun i y hi => by simp at hi⟩ (wk0 ⟨rfl, rfl, rfl, trivial⟩) (fun s B hs' hB => ?_)
  obtain ⟨z, M⟩ := s
  obtain ⟨h0, h1, h2, h3, h4⟩ := hs'
  simp only at h0 h1 h2 h3 h4
  cbv
  cases hc : g .q .lss z (g .ln V)
  · rw [goLss hg, goLn hg, decide_eq_false_iff_not] at hc
    cbv
    exact finZ hF ⟨.inl h3, fun _ => ⟨hsm2, all_upto hVx (by omega) h4⟩⟩
  · rw [goLss hg, goLn hg, decide_eq_true_eq] at hc
    cbv
    obtain ⟨x, hx⟩ := at_z (xs := xs) h0 (lt_viaN hVx hc)
    have hfx := hf x (List.mem_of_getElem? hx)
    have hyy : V[z.toNat]? = some x.ac := by rw [hV]; exact vwA_at hx
    have cx := laws_szNode_n x M hfx h2 (by omega)
    obtain ⟨Sm, hSm⟩ : ∃ Sm : Prop, Sm = x.small := ⟨_, rfl⟩
    rw [← hSm] at cx
    have hSx : Sm → ∀ y, xs[z.toNat]? = some y → y.small := fun h y hy => by rw [hx] at hy; cases hy; rw [← hSm]; exact h
    clear hSm hfx hx
    obtain ⟨a0, a1, ⟨a2, a3, a4, a5, a6, a7, a8, a9, a10, a11, a12, ⟨a13, a14⟩, ⟨a15, a16⟩, ⟨a17, a18⟩, ⟨a19, a20⟩, ⟨a21, a22⟩, ⟨a23, a24⟩, ⟨a25, a26⟩, a27, ⟨⟨a28, a29⟩, ⟨a30, a31⟩, ⟨a32, a33⟩, ⟨a34, a35⟩, ⟨a36, a37⟩, ⟨a38, a39⟩⟩, ⟨⟨a40, a41⟩, ⟨a42, a43⟩, ⟨a44, a45⟩, ⟨a46, a47⟩, ⟨a48, a49⟩, ⟨a50, a51⟩⟩, ⟨a52, a53, a54, a55⟩, ⟨a56, a57, a58, a59⟩, a60, a61⟩, a62, ⟨a63⟩⟩ := x
    replace hyy : V[z.toNat]? = some [.imm (.int .i64 a0), .view (vw intC a1), .imm (.int .i64 a2), .imm (.int .i64 a3), .imm (.int .i64 a4), .imm (.int .i64 a5), .imm (.int .i64 a6), .imm (.int .i64 a7), .imm (.bool a8), .imm (.bool a9), .imm (.int .i64 a10), .imm (.int .i64 a11), .imm (.int .i64 a12), .imm (.int .i64 a13), .imm (.int .i64 a14), .imm (.int .i64 a15), .imm (.int .i64 a16), .imm (.int .i64 a17), .imm (.int .i64 a18), .imm (.int .i64 a19), .imm (.int .i64 a20), .imm (.int .i64 a21), .imm (.int .i64 a22), .imm (.int .i64 a23), .imm (.int .i64 a24), .imm (.int .i64 a25), .imm (.int .i64 a26), .imm (.int .i64 a27), .imm (.int .i64 a28), .imm (.int .i64 a29), .imm (.int .i64 a30), .imm (.int .i64 a31), .imm (.int .i64 a32), .imm (.int .i64 a33), .imm (.int .i64 a34), .imm (.int .i64 a35), .imm (.int .i64 a36), .imm (.int .i64 a37), .imm (.int .i64 a38), .imm (.int .i64 a39), .imm (.int .i64 a40), .imm (.int .i64 a41), .imm (.int .i64 a42), .imm (.int .i64 a43), .imm (.int .i64 a44), .imm (.int .i64 a45), .imm (.int .i64 a46), .imm (.int .i64 a47), .imm (.int .i64 a48), .imm (.int .i64 a49), .imm (.int .i64 a50), .imm (.int .i64 a51), .imm (.int .i64 a52), .imm (.int .i64 a53), .imm (.int .i64 a54), .imm (.int .i64 a55), .imm (.int .i64 a56), .imm (.int .i64 a57), .imm (.int .i64 a58), .imm (.int .i64 a59), .imm (.int .i64 a60), .imm (.int .i64 a61), .imm (.bool a62), .view (vw GRule.c a63)] := hyy
    replace cx : PCon _ _ [.agg [.imm (.int .i64 a0), .view (vw intC a1), .imm (.int .i64 a2), .imm (.int .i64 a3), .imm (.int .i64 a4), .imm (.int .i64 a5), .imm (.int .i64 a6), .imm (.int .i64 a7), .imm (.bool a8), .imm (.bool a9), .imm (.int .i64 a10), .imm (.int .i64 a11), .imm (.int .i64 a12), .imm (.int .i64 a13), .imm (.int .i64 a14), .imm (.int .i64 a15), .imm (.int .i64 a16), .imm (.int .i64 a17), .imm (.int .i64 a18), .imm (.int .i64 a19), .imm (.int .i64 a20), .imm (.int .i64 a21), .imm (.int .i64 a22), .imm (.int .i64 a23), .imm (.int .i64 a24), .imm (.int .i64 a25), .imm (.int .i64 a26), .imm (.int .i64 a27), .imm (.int .i64 a28), .imm (.int .i64 a29), .imm (.int .i64 a30), .imm (.int .i64 a31), .imm (.int .i64 a32), .imm (.int .i64 a33), .imm (.int .i64 a34), .imm (.int .i64 a35), .imm (.int .i64 a36), .imm (.int .i64 a37), .imm (.int .i64 a38), .imm (.int .i64 a39), .imm (.int .i64 a40), .imm (.int .i64 a41), .imm (.int .i64 a42), .imm (.int .i64 a43), .imm (.int .i64 a44), .imm (.int .i64 a45), .imm (.int .i64 a46), .imm (.int .i64 a47), .imm (.int .i64 a48), .imm (.int .i64 a49), .imm (.int .i64 a50), .imm (.int .i64 a51), .imm (.int .i64 a52), .imm (.int .i64 a53), .imm (.int .i64 a54), .imm (.int .i64 a55), .imm (.int .i64 a56), .imm (.int .i64 a57), .imm (.int .i64 a58), .imm (.int .i64 a59), .imm (.int .i64 a60), .imm (.int .i64 a61), .imm (.bool a62), .view (vw GRule.c a63)], ai M] (fun res rows => ∃ R : Int, res = .t (ai R) ∧ rows = [] ∧ (R ≤ M ∨ R < 0) ∧ (0 ≤ R → Sm)) := cx
    obtain ⟨Va1, hVa1⟩ : ∃ V, V = vw intC a1 := ⟨_, rfl⟩
    obtain ⟨Va63, hVa63⟩ : ∃ V, V = vw GRule.c a63 := ⟨_, rfl⟩
    rw [← hVa1, ← hVa63] at hyy cx
    refine goX hg _ h0 hyy rfl ?_
    cbv
    refine callZ hg cx rfl (fun R hR => ?_)
    obtain ⟨hR, hBR⟩ := hR
    cbv
    cases e5 : g .q .lss R 0
    case true =>
      cbv
      exact finZ hF ⟨.inr (by decide), fun h => absurd h (by decide)⟩
    rw [goLss hg, decide_eq_false_iff_not] at e5
    have pR : 0 ≤ R := by omega
    cbv
    have h6 : g .w .add .i64 z 1 = z + 1 := by rw [goAdd hg, wrap_small _ (by omega)]
    rw [h6]
    refine back hB (z + 1, R) [] (wk0 ⟨rfl, rfl, rfl, trivial⟩) ⟨by simp only; omega, by simp only; omega, pR, by simp only; omega, fun i y hi hy => ?_⟩ (by show (lenI V).toNat - (z + 1).toNat < (lenI V).toNat - z.toNat; omega)
    by_cases hi2 : i < z.toNat
    · exact h4 i y hi2 hy
    · have : i = z.toNat := by simp only at hi; omega
      subst this
      exact hSx (hBR pR) y hy
set_option maxHeartbeats 8000000 in
theorem laws_toTree_n (x : NTree) (hs : x.small) : PCon Tryz.prog 36 [.agg x.ac] fun res rows => res = .t (.agg x.ac) ∧ rows = [] := by
  obtain ⟨a0⟩ := x
  obtain ⟨sa0, ua0, -⟩ := hs
  show PCon _ _ [.agg [.view (vwA NNode.ac a0)]] (fun res rows => res = .t (.agg [.view (vwA NNode.ac a0)]) ∧ rows = [])
  have c0 := laws_toNodeS_n a0 sa0 ua0
  obtain ⟨Va0, hVa0⟩ : ∃ V, V = vwA NNode.ac a0 := ⟨_, rfl⟩
  have hVa0l : Va0.length = a0.length := by rw [hVa0, vwA_length]
  have pVa0 : plainE Va0 = true := by rw [hVa0]; exact vwA_plain NNode.plain _
  have kVa0 : ∀ y ∈ Va0, y.length = 64 := by rw [hVa0]; exact vwA_k NNode.len
  have dVa0 : ∀ y ∈ Va0, y.all dat = true := by rw [hVa0]; exact vwA_dat NNode.dat
  rw [← hVa0] at c0
  rw [← hVa0]
  refine pcon_run (c := body Tryz.f36) fits Tryz.func36 (by kernel_rfl) (by kernel_rfl) (by rfl) (by kernel_rfl) fun g F hg hF => ?_
  cbv
  repeat' (first | (refine call0 hg c0 rfl rfl ?_; cbv) | (refine call0P hg c0 rfl rfl ?_; cbv))
  exact finFrz [.agg [.view Va0]] hF (.agg (by repeat' (first | exact .nil | refine .cons ?_ ?_ | exact .imm _ | exact .view _ | exact resRow (ab := ⟨_, _, Va0⟩) rfl kVa0 dVa0)) .nil) ⟨rfl, rfl⟩
set_option maxHeartbeats 8000000 in
theorem laws_eqTree_n (x : NTree) (hs : x.small) : PCon Tryz.prog 44 [.agg x.ac, .agg x.ac] fun res rows => res = .t (abl true) ∧ rows = [] := by
  obtain ⟨a0⟩ := x
  obtain ⟨sa0, ua0, -⟩ := hs
  show PCon _ _ [.agg [.view (vwA NNode.ac a0)], .agg [.view (vwA NNode.ac a0)]] (fun res rows => res = .t (abl true) ∧ rows = [])
  have c0 := laws_eqNodeS_n a0 sa0 ua0
  obtain ⟨Va0, hVa0⟩ : ∃ V, V = vwA NNode.ac a0 := ⟨_, rfl⟩
  have hVa0l : Va0.length = a0.length := by rw [hVa0, vwA_length]
  have pVa0 : plainE Va0 = true := by rw [hVa0]; exact vwA_plain NNode.plain _
  have kVa0 : ∀ y ∈ Va0, y.length = 64 := by rw [hVa0]; exact vwA_k NNode.len
  have dVa0 : ∀ y ∈ Va0, y.all dat = true := by rw [hVa0]; exact vwA_dat NNode.dat
  rw [← hVa0] at c0
  rw [← hVa0]
  refine pcon_run (c := body Tryz.f44) fits Tryz.func44 (by kernel_rfl) (by kernel_rfl) (by rfl) (by kernel_rfl) fun g F hg hF => ?_
  cbv
  have q : ∀ a : Int, g .q .neq a a = false := fun a => by rw [goNeq hg]; simp
  have qb : ∀ a : Bool, g .qb .neq a a = false := fun a => by rw [goNeqB hg]; simp
  repeat' (first | (rw [q]; cbv) | (rw [qb]; cbv) | (refine call0 hg c0 rfl rfl ?_; cbv) | (refine call0P hg c0 rfl rfl ?_; cbv))
  exact fin0b hF rfl
set_option maxHeartbeats 8000000 in
theorem laws_szTree_n (x : NTree) (L : Int) (hf : x.fit) (h0 : 0 ≤ L) (h1 : L ≤ 1048576) : PCon Tryz.prog 31 [.agg x.ac, ai L] fun res rows => ∃ R : Int, res = .t (ai R) ∧ rows = [] ∧ (R ≤ L ∨ R < 0) ∧ (0 ≤ R → x.small) := by
  obtain ⟨a0⟩ := x
  obtain ⟨sa0, ua0, -⟩ := hf
  show PCon _ _ [.agg [.view (vwA NNode.ac a0)], ai L] (fun res rows => ∃ R : Int, res = .t (ai R) ∧ rows = [] ∧ (R ≤ L ∨ R < 0) ∧ (0 ≤ R → NTree.small ⟨a0⟩))
  have c0 := fun (M : Int) (h0 : 0 ≤ M) (h1 : M ≤ 1048576) => laws_szNodeS_n a0 M sa0 ua0 h0 h1
  obtain ⟨Va0, hVa0⟩ : ∃ V, V = vwA NNode.ac a0 := ⟨_, rfl⟩
  have hVa0l : Va0.length = a0.length := by rw [hVa0, vwA_length]
  have pVa0 : plainE Va0 = true := by rw [hVa0]; exact vwA_plain NNode.plain _
  have kVa0 : ∀ y ∈ Va0, y.length = 64 := by rw [hVa0]; exact vwA_k NNode.len
  have dVa0 : ∀ y ∈ Va0, y.all dat = true := by rw [hVa0]; exact vwA_dat NNode.dat
  simp only [← hVa0] at c0
  rw [← hVa0]
  refine pcon_run (c := body Tryz.f31) fits Tryz.func31 (by kernel_rfl) (by kernel_rfl) (by rfl) (by kernel_rfl) fun g F hg hF => ?_
  cbv
  refine callZ hg (c0 L h0 h1) rfl (fun R0 hR0 => ?_)
  obtain ⟨hR0, hB0⟩ := hR0
  cbv
  cases e0 : g .q .lss R0 0
  case true =>
    cbv
    exact finZ hF ⟨.inr (by decide), fun h => absurd h (by decide)⟩
  rw [goLss hg, decide_eq_false_iff_not] at e0
  have p0 : 0 ≤ R0 := by omega
  have r0 : R0 ≤ 1048576 := by omega
  cbv
  exact finZ hF ⟨.inl (by omega), fun _ => ⟨(hB0 p0).1, (hB0 p0).2, trivial⟩⟩
set_option maxHeartbeats 8000000 in
theorem laws_toBox_n (x : NBox) (hs : x.small) : PCon Tryz.prog 137 [.agg x.ac] fun res rows => res = .t (.agg x.ac) ∧ rows = [] := by
  obtain ⟨a0, a1, a2, a3⟩ := x
  obtain ⟨sa3, -⟩ := hs
  show PCon _ _ [.agg [.imm (.int .i64 a0), .imm (.int .i64 a1), .imm (.int .i64 a2), .view (vw GFrame.c a3)]] (fun res rows => res = .t (.agg [.imm (.int .i64 a0), .imm (.int .i64 a1), .imm (.int .i64 a2), .view (vw GFrame.c a3)]) ∧ rows = [])
  have c3 := toRow (laws_toFrameS_a a3 sa3)
  obtain ⟨Va3, hVa3⟩ : ∃ Va3, Va3 = vw GFrame.c a3 := ⟨_, rfl⟩
  have hVa3l : Va3.length = a3.length := by rw [hVa3, vw_length]
  have iVa3 : immE Va3 = true := by rw [hVa3]; exact vw_imm _ _
  have kVa3 : ∀ y ∈ Va3, y.length = 5 := by rw [hVa3]; exact vw_k (c := GFrame.c) (k := 5) fun _ => rfl
  have dVa3 : ∀ y ∈ Va3, y.all dat = true := by rw [hVa3]; exact vw_dat
  rw [← hVa3] at c3
  rw [← hVa3]
  refine pcon_run (c := body Tryz.f137) fits Tryz.func137 (by kernel_rfl) (by kernel_rfl) (by rfl) (by kernel_rfl) fun g F hg hF => ?_
  cbv
  repeat' (first | (refine callRow hg c3 (dat_data rfl) iVa3 ?_; cbv) | (refine callRowP hg c3 (dat_data rfl) iVa3 ?_; cbv))
  exact finFrz [.agg [.imm (.int .i64 a0), .imm (.int .i64 a1), .imm (.int .i64 a2), .view Va3]] hF (.agg (by repeat' (first | exact .nil | refine .cons ?_ ?_ | exact .imm _ | exact .view _ | exact resRow (ab := ⟨_, _, Va3⟩) rfl kVa3 dVa3)) .nil) ⟨rfl, rfl⟩
set_option maxHeartbeats 8000000 in
theorem laws_eqBox_n (x : NBox) (hs : x.small) : PCon Tryz.prog 142 [.agg x.ac, .agg x.ac] fun res rows => res = .t (abl true) ∧ rows = [] := by
  obtain ⟨a0, a1, a2, a3⟩ := x
  obtain ⟨sa3, -⟩ := hs
  show PCon _ _ [.agg [.imm (.int .i64 a0), .imm (.int .i64 a1), .imm (.int .i64 a2), .view (vw GFrame.c a3)], .agg [.imm (.int .i64 a0), .imm (.int .i64 a1), .imm (.int .i64 a2), .view (vw GFrame.c a3)]] (fun res rows => res = .t (abl true) ∧ rows = [])
  have c3 := laws_eqFrameS_a a3 a3 sa3
  rw [decide_eq_true rfl] at c3
  obtain ⟨Va3, hVa3⟩ : ∃ Va3, Va3 = vw GFrame.c a3 := ⟨_, rfl⟩
  have hVa3l : Va3.length = a3.length := by rw [hVa3, vw_length]
  have iVa3 : immE Va3 = true := by rw [hVa3]; exact vw_imm _ _
  have kVa3 : ∀ y ∈ Va3, y.length = 5 := by rw [hVa3]; exact vw_k (c := GFrame.c) (k := 5) fun _ => rfl
  have dVa3 : ∀ y ∈ Va3, y.all dat = true := by rw [hVa3]; exact vw_dat
  rw [← hVa3] at c3
  rw [← hVa3]
  refine pcon_run (c := body Tryz.f142) fits Tryz.func142 (by kernel_rfl) (by kernel_rfl) (by rfl) (by kernel_rfl) fun g F hg hF => ?_
  cbv
  have q : ∀ a : Int, g .q .neq a a = false := fun a => by rw [goNeq hg]; simp
  have qb : ∀ a : Bool, g .qb .neq a a = false := fun a => by rw [goNeqB hg]; simp
  repeat' (first | (rw [q]; cbv) | (rw [qb]; cbv) | (refine call0 hg c3 rfl rfl ?_; cbv) | (refine call0P hg c3 rfl rfl ?_; cbv))
  exact fin0b hF rfl
set_option maxHeartbeats 8000000 in
theorem laws_szBox_n (x : NBox) (L : Int) (hf : x.fit) (h0 : 0 ≤ L) (h1 : L ≤ 1048576) : PCon Tryz.prog 133 [.agg x.ac, ai L] fun res rows => ∃ R : Int, res = .t (ai R) ∧ rows = [] ∧ (R ≤ L ∨ R < 0) ∧ (0 ≤ R → x.small) := by
  obtain ⟨a0, a1, a2, a3⟩ := x
  obtain ⟨sa3, -⟩ := hf
  show PCon _ _ [.agg [.imm (.int .i64 a0), .imm (.int .i64 a1), .imm (.int .i64 a2), .view (vw GFrame.c a3)], ai L] (fun res rows => ∃ R : Int, res = .t (ai R) ∧ rows = [] ∧ (R ≤ L ∨ R < 0) ∧ (0 ≤ R → NBox.small ⟨a0, a1, a2, a3⟩))
  have c3 := fun (M : Int) (h0 : 0 ≤ M) (h1 : M ≤ 1048576) => szZ (laws_szFrameS_b (vw GFrame.c a3) M (by rw [vw_length]; exact sa3) h0 h1)
  obtain ⟨Va3, hVa3⟩ : ∃ Va3, Va3 = vw GFrame.c a3 := ⟨_, rfl⟩
  have hVa3l : Va3.length = a3.length := by rw [hVa3, vw_length]
  have iVa3 : immE Va3 = true := by rw [hVa3]; exact vw_imm _ _
  have kVa3 : ∀ y ∈ Va3, y.length = 5 := by rw [hVa3]; exact vw_k (c := GFrame.c) (k := 5) fun _ => rfl
  have dVa3 : ∀ y ∈ Va3, y.all dat = true := by rw [hVa3]; exact vw_dat
  have c3' : ∀ (M : Int), 0 ≤ M → M ≤ 1048576 → PCon _ _ [.c (.view Va3), ai M] (fun res rows => ∃ R : Int, res = .t (ai R) ∧ rows = [] ∧ (R ≤ M ∨ R < 0) ∧ (0 ≤ R → ((Va3.length : Nat) : Int) ≤ M)) := fun M h0 h1 => by have := c3 M h0 h1; rw [← hVa3] at this; exact this
  rw [← hVa3]
  refine pcon_run (c := body Tryz.f133) fits Tryz.func133 (by kernel_rfl) (by kernel_rfl) (by rfl) (by kernel_rfl) fun g F hg hF => ?_
  cbv
  refine callZ hg (c3' L h0 h1) rfl (fun R0 hR0 => ?_)
  obtain ⟨hR0, hB0⟩ := hR0
  cbv
  cases e0 : g .q .lss R0 0
  case true =>
    cbv
    exact finZ hF ⟨.inr (by decide), fun h => absurd h (by decide)⟩
  rw [goLss hg, decide_eq_false_iff_not] at e0
  have p0 : 0 ≤ R0 := by omega
  have r0 : R0 ≤ 1048576 := by omega
  cbv
  exact finZ hF ⟨.inl (by omega), fun _ => ⟨small_of hVa3l (hB0 p0) h1, trivial⟩⟩
set_option maxHeartbeats 8000000 in
theorem laws_toMemo_n (x : NMemo) (hs : x.small) : PCon Tryz.prog 120 [.agg x.ac] fun res rows => res = .t (.agg x.ac) ∧ rows = [] := by
  obtain ⟨a0, ⟨a1, a2⟩, ⟨a3, a4⟩, a5, ⟨a6, a7, a8, a9⟩⟩ := x
  obtain ⟨sa9, -⟩ := hs
  show PCon _ _ [.agg [.imm (.int .i64 a0), .imm (.int .i64 a1), .imm (.int .i64 a2), .imm (.int .i64 a3), .imm (.int .i64 a4), .imm (.bool a5), .imm (.int .i64 a6), .imm (.int .i64 a7), .imm (.int .i64 a8), .view (vw GFrame.c a9)]] (fun res rows => res = .t (.agg [.imm (.int .i64 a0), .imm (.int .i64 a1), .imm (.int .i64 a2), .imm (.int .i64 a3), .imm (.int .i64 a4), .imm (.bool a5), .imm (.int .i64 a6), .imm (.int .i64 a7), .imm (.int .i64 a8), .view (vw GFrame.c a9)]) ∧ rows = [])
  have c6 : PCon Tryz.prog 137 [.agg [.imm (.int .i64 a6), .imm (.int .i64 a7), .imm (.int .i64 a8), .view (vw GFrame.c a9)]] (fun res rows => res = .t (.agg [.imm (.int .i64 a6), .imm (.int .i64 a7), .imm (.int .i64 a8), .view (vw GFrame.c a9)]) ∧ rows = []) := laws_toBox_n ⟨a6, a7, a8, a9⟩ ⟨sa9, trivial⟩
  obtain ⟨Va9, hVa9⟩ : ∃ Va9, Va9 = vw GFrame.c a9 := ⟨_, rfl⟩
  have hVa9l : Va9.length = a9.length := by rw [hVa9, vw_length]
  have iVa9 : immE Va9 = true := by rw [hVa9]; exact vw_imm _ _
  have kVa9 : ∀ y ∈ Va9, y.length = 5 := by rw [hVa9]; exact vw_k (c := GFrame.c) (k := 5) fun _ => rfl
  have dVa9 : ∀ y ∈ Va9, y.all dat = true := by rw [hVa9]; exact vw_dat
  rw [← hVa9] at c6
  rw [← hVa9]
  refine pcon_run (c := body Tryz.f120) fits Tryz.func120 (by kernel_rfl) (by kernel_rfl) (by rfl) (by kernel_rfl) fun g F hg hF => ?_
  cbv
  repeat' (first | (refine call0 hg (laws_toSpace_a (⟨a1, a2⟩ : GSpace)) rfl rfl ?_; cbv) | (refine call0P hg (laws_toSpace_a (⟨a1, a2⟩ : GSpace)) rfl rfl ?_; cbv) | (refine call0 hg (laws_toSpace_a (⟨a3, a4⟩ : GSpace)) rfl rfl ?_; cbv) | (refine call0P hg (laws_toSpace_a (⟨a3, a4⟩ : GSpace)) rfl rfl ?_; cbv) | (refine call0 hg c6 rfl rfl ?_; cbv) | (refine call0P hg c6 rfl rfl ?_; cbv))
  exact finFrz [.agg [.imm (.int .i64 a0), .imm (.int .i64 a1), .imm (.int .i64 a2), .imm (.int .i64 a3), .imm (.int .i64 a4), .imm (.bool a5), .imm (.int .i64 a6), .imm (.int .i64 a7), .imm (.int .i64 a8), .view Va9]] hF (.agg (by repeat' (first | exact .nil | refine .cons ?_ ?_ | exact .imm _ | exact .view _ | exact resRow (ab := ⟨_, _, Va9⟩) rfl kVa9 dVa9)) .nil) ⟨rfl, rfl⟩
set_option maxHeartbeats 8000000 in
theorem laws_eqMemo_n (x : NMemo) (hs : x.small) : PCon Tryz.prog 127 [.agg x.ac, .agg x.ac] fun res rows => res = .t (abl true) ∧ rows = [] := by
  obtain ⟨a0, ⟨a1, a2⟩, ⟨a3, a4⟩, a5, ⟨a6, a7, a8, a9⟩⟩ := x
  obtain ⟨sa9, -⟩ := hs
  show PCon _ _ [.agg [.imm (.int .i64 a0), .imm (.int .i64 a1), .imm (.int .i64 a2), .imm (.int .i64 a3), .imm (.int .i64 a4), .imm (.bool a5), .imm (.int .i64 a6), .imm (.int .i64 a7), .imm (.int .i64 a8), .view (vw GFrame.c a9)], .agg [.imm (.int .i64 a0), .imm (.int .i64 a1), .imm (.int .i64 a2), .imm (.int .i64 a3), .imm (.int .i64 a4), .imm (.bool a5), .imm (.int .i64 a6), .imm (.int .i64 a7), .imm (.int .i64 a8), .view (vw GFrame.c a9)]] (fun res rows => res = .t (abl true) ∧ rows = [])
  have c1 : PCon Tryz.prog 141 [.agg [.imm (.int .i64 a1), .imm (.int .i64 a2)], .agg [.imm (.int .i64 a1), .imm (.int .i64 a2)]] (fun res rows => res = .t (abl (decide ((⟨a1, a2⟩ : GSpace) = ⟨a1, a2⟩))) ∧ rows = []) := laws_eqSpace_a ⟨a1, a2⟩ ⟨a1, a2⟩
  rw [decide_eq_true rfl] at c1
  have c3 : PCon Tryz.prog 141 [.agg [.imm (.int .i64 a3), .imm (.int .i64 a4)], .agg [.imm (.int .i64 a3), .imm (.int .i64 a4)]] (fun res rows => res = .t (abl (decide ((⟨a3, a4⟩ : GSpace) = ⟨a3, a4⟩))) ∧ rows = []) := laws_eqSpace_a ⟨a3, a4⟩ ⟨a3, a4⟩
  rw [decide_eq_true rfl] at c3
  have c6 : PCon Tryz.prog 142 [.agg [.imm (.int .i64 a6), .imm (.int .i64 a7), .imm (.int .i64 a8), .view (vw GFrame.c a9)], .agg [.imm (.int .i64 a6), .imm (.int .i64 a7), .imm (.int .i64 a8), .view (vw GFrame.c a9)]] (fun res rows => res = .t (abl true) ∧ rows = []) := laws_eqBox_n ⟨a6, a7, a8, a9⟩ ⟨sa9, trivial⟩
  obtain ⟨Va9, hVa9⟩ : ∃ Va9, Va9 = vw GFrame.c a9 := ⟨_, rfl⟩
  have hVa9l : Va9.length = a9.length := by rw [hVa9, vw_length]
  have iVa9 : immE Va9 = true := by rw [hVa9]; exact vw_imm _ _
  have kVa9 : ∀ y ∈ Va9, y.length = 5 := by rw [hVa9]; exact vw_k (c := GFrame.c) (k := 5) fun _ => rfl
  have dVa9 : ∀ y ∈ Va9, y.all dat = true := by rw [hVa9]; exact vw_dat
  rw [← hVa9] at c6
  rw [← hVa9]
  refine pcon_run (c := body Tryz.f127) fits Tryz.func127 (by kernel_rfl) (by kernel_rfl) (by rfl) (by kernel_rfl) fun g F hg hF => ?_
  cbv
  have q : ∀ a : Int, g .q .neq a a = false := fun a => by rw [goNeq hg]; simp
  have qb : ∀ a : Bool, g .qb .neq a a = false := fun a => by rw [goNeqB hg]; simp
  repeat' (first | (rw [q]; cbv) | (rw [qb]; cbv) | (refine call0 hg c1 rfl rfl ?_; cbv) | (refine call0P hg c1 rfl rfl ?_; cbv) | (refine call0 hg c3 rfl rfl ?_; cbv) | (refine call0P hg c3 rfl rfl ?_; cbv) | (refine call0 hg c6 rfl rfl ?_; cbv) | (refine call0P hg c6 rfl rfl ?_; cbv))
  exact fin0b hF rfl
set_option maxHeartbeats 8000000 in
theorem laws_szMemo_n (x : NMemo) (L : Int) (hf : x.fit) (h0 : 0 ≤ L) (h1 : L ≤ 1048576) : PCon Tryz.prog 114 [.agg x.ac, ai L] fun res rows => ∃ R : Int, res = .t (ai R) ∧ rows = [] ∧ (R ≤ L ∨ R < 0) ∧ (0 ≤ R → x.small) := by
  obtain ⟨a0, ⟨a1, a2⟩, ⟨a3, a4⟩, a5, ⟨a6, a7, a8, a9⟩⟩ := x
  obtain ⟨sa9, -⟩ := hf
  show PCon _ _ [.agg [.imm (.int .i64 a0), .imm (.int .i64 a1), .imm (.int .i64 a2), .imm (.int .i64 a3), .imm (.int .i64 a4), .imm (.bool a5), .imm (.int .i64 a6), .imm (.int .i64 a7), .imm (.int .i64 a8), .view (vw GFrame.c a9)], ai L] (fun res rows => ∃ R : Int, res = .t (ai R) ∧ rows = [] ∧ (R ≤ L ∨ R < 0) ∧ (0 ≤ R → NMemo.small ⟨a0, ⟨a1, a2⟩, ⟨a3, a4⟩, a5, ⟨a6, a7, a8, a9⟩⟩))
  have c6 : ∀ (M : Int) (h0 : 0 ≤ M) (h1 : M ≤ 1048576), PCon Tryz.prog 133 [.agg [.imm (.int .i64 a6), .imm (.int .i64 a7), .imm (.int .i64 a8), .view (vw GFrame.c a9)], ai M] (fun res rows => ∃ R : Int, res = .t (ai R) ∧ rows = [] ∧ (R ≤ M ∨ R < 0) ∧ (0 ≤ R → NBox.small ⟨a6, a7, a8, a9⟩)) := fun M h0 h1 => laws_szBox_n ⟨a6, a7, a8, a9⟩ M ⟨sa9, trivial⟩ h0 h1
  obtain ⟨Va9, hVa9⟩ : ∃ Va9, Va9 = vw GFrame.c a9 := ⟨_, rfl⟩
  have hVa9l : Va9.length = a9.length := by rw [hVa9, vw_length]
  have iVa9 : immE Va9 = true := by rw [hVa9]; exact vw_imm _ _
  have kVa9 : ∀ y ∈ Va9, y.length = 5 := by rw [hVa9]; exact vw_k (c := GFrame.c) (k := 5) fun _ => rfl
  have dVa9 : ∀ y ∈ Va9, y.all dat = true := by rw [hVa9]; exact vw_dat
  simp only [← hVa9] at c6
  rw [← hVa9]
  refine pcon_run (c := body Tryz.f114) fits Tryz.func114 (by kernel_rfl) (by kernel_rfl) (by rfl) (by kernel_rfl) fun g F hg hF => ?_
  cbv
  refine callZ hg (c6 L h0 h1) rfl (fun R0 hR0 => ?_)
  obtain ⟨hR0, hB0⟩ := hR0
  cbv
  cases e0 : g .q .lss R0 0
  case true =>
    cbv
    exact finZ hF ⟨.inr (by decide), fun h => absurd h (by decide)⟩
  rw [goLss hg, decide_eq_false_iff_not] at e0
  have p0 : 0 ≤ R0 := by omega
  have r0 : R0 ≤ 1048576 := by omega
  cbv
  exact finZ hF ⟨.inl (by omega), fun _ => ⟨(hB0 p0).1, trivial⟩⟩
set_option maxHeartbeats 8000000 in
theorem laws_toMemoS_n (xs : List NMemo) (hl : xs.length ≤ 1048576) (hs : ∀ y ∈ xs, y.small) : PCon Tryz.prog 81 [.c (.view (vwA NMemo.ac xs))] fun res rows => res = .t (.c (.view (vwA NMemo.ac xs))) ∧ rows = [] := by
  obtain ⟨V, hV⟩ : ∃ V, V = vwA NMemo.ac xs := ⟨_, rfl⟩
  have hVl : V.length = xs.length := by rw [hV, vwA_length]
  have kV : ∀ y ∈ V, y.length = 10 := by rw [hV]; exact vwA_k NMemo.len
  have dV : ∀ y ∈ V, y.all dat = true := by rw [hV]; exact vwA_dat NMemo.dat
  have hVx : lenI V = (xs.length : Int) := by rw [lenI_eq]; omega
  have hV1 : lenI V ≤ 1048576 := by omega
  have hV0 : 0 ≤ lenI V := by omega
  rw [← hV]
  refine pcon_run (c := body Tryz.f81) fits Tryz.func81 (by kernel_rfl) (by kernel_rfl) (by rfl) (by kernel_rfl) fun g F hg hF => ?_
  cbv
  refine goMk hg (by decide) (by rw [hVl]; exact hl) ?_
  cbv
  have hst : Fill 10 V (List.replicate (g .ln V).toNat [.imm (.int .i64 0), .imm (.int .i64 0), .imm (.int .i64 0), .imm (.int .i64 0), .imm (.int .i64 0), .imm (.bool false), .imm (.int .i64 0), .imm (.int .i64 0), .imm (.int .i64 0), .imm (.slice none 0 0)]) 0 := Fill.start (k := 10) (z := [.imm (.int .i64 0), .imm (.int .i64 0), .imm (.int .i64 0), .imm (.int .i64 0), .imm (.int .i64 0), .imm (.bool false), .imm (.int .i64 0), .imm (.int .i64 0), .imm (.int .i64 0), .imm (.slice none 0 0)]) rfl rfl (goLn hg V)
  refine loop_run hg fits (by kernel_rfl) (fun s : Int × List (List AC) => [(0, .t (.c (.view V))), (3, .t (.c (.own 0))), (4, .t (ai s.1))]) (fun s => [.rw ⟨166, 10, s.2⟩]) (fun s => Fill 10 V s.2 s.1) (fun s => (lenI V).toNat - s.1.toNat)
    (0, g .rp (g .ln V) [.imm (.int .i64 0), .imm (.int .i64 0), .imm (.int .i64 0), .imm (.int .i64 0), .imm (.int .i64 0), .imm (.bool false), .imm (.int .i64 0), .imm (.int .i64 0), .imm (.int .i64 0), .imm (.slice none 0 0)]) [some 0] ?_ (wkS [0] (by decide) ⟨⟨_, rfl, rfl, ?_⟩, trivial⟩ ⟨rfl, rfl, rfl, trivial⟩) (fun s B hs' hB => ?_)
  · simp only [goRp hg]; exact hst
  · simp only [goRp hg]; exact hst.pl
  · obtain ⟨z, es⟩ := s
    simp only at hs'
    have h0 := hs'.z0
    have h1 := hs'.z1
    have hlen := hs'.len
    cbv
    cases hc : g .q .lss z (g .ln V)
    · cbv
      rw [goLss hg, goLn hg, decide_eq_false_iff_not] at hc
      obtain rfl := hs'.done hc
      exact finFrz [.c (.view es)] hF (.c (resRow (ab := ⟨_, _, es⟩) rfl kV dV) .nil) ⟨rfl, rfl⟩
    · cbv
      rw [goLss hg, goLn hg, decide_eq_true_eq] at hc
      obtain ⟨x, hx⟩ := at_z (xs := xs) h0 (lt_viaN hVx hc)
      have hsx := hs x (List.mem_of_getElem? hx)
      have hyy : V[z.toNat]? = some x.ac := by rw [hV]; exact vwA_at hx
      have cx := laws_toMemo_n x hsx
      obtain ⟨a0, ⟨a1, a2⟩, ⟨a3, a4⟩, a5, ⟨a6, a7, a8, a9⟩⟩ := x
      replace hyy : V[z.toNat]? = some [.imm (.int .i64 a0), .imm (.int .i64 a1), .imm (.int .i64 a2), .imm (.int .i64 a3), .imm (.int .i64 a4), .imm (.bool a5), .imm (.int .i64 a6), .imm (.int .i64 a7), .imm (.int .i64 a8), .view (vw GFrame.c a9)] := hyy
      replace cx : PCon _ _ [.agg [.imm (.int .i64 a0), .imm (.int .i64 a1), .imm (.int .i64 a2), .imm (.int .i64 a3), .imm (.int .i64 a4), .imm (.bool a5), .imm (.int .i64 a6), .imm (.int .i64 a7), .imm (.int .i64 a8), .view (vw GFrame.c a9)]] (fun res rows => res = .t (.agg [.imm (.int .i64 a0), .imm (.int .i64 a1), .imm (.int .i64 a2), .imm (.int .i64 a3), .imm (.int .i64 a4), .imm (.bool a5), .imm (.int .i64 a6), .imm (.int .i64 a7), .imm (.int .i64 a8), .view (vw GFrame.c a9)]) ∧ rows = []) := cx
      obtain ⟨Va9, hVa9⟩ : ∃ V, V = vw GFrame.c a9 := ⟨_, rfl⟩
      rw [← hVa9] at hyy cx
      refine goX hg _ h0 hyy rfl ?_
      cbv
      refine call0 hg cx rfl rfl ?_
      cbv
      obtain ⟨j, hj⟩ : ∃ j, j = z.toNat := ⟨_, rfl⟩
      refine goYk hg h0 hj (lt_lenJ h0 (lt_eqI hlen hc) hj) ?_
      cbv
      refine goN hg (hs'.mem (lt_lenJ h0 (lt_eqI hlen hc) hj)) ?_
      cbv
      have h2 : g .w .add .i64 z 1 = z + 1 := by rw [goAdd hg, wrap_small _ (by omega)]
      rw [h2, goSt hg]
      have hs2 := hs'.step hc hj hyy rfl rfl
      exact back hB (z + 1, _) [some 0] (wkS [0] (by decide) ⟨⟨_, rfl, rfl, hs2.pl⟩, trivial⟩ ⟨rfl, rfl, rfl, trivial⟩) hs2 (by show (lenI V).toNat - (z + 1).toNat < (lenI V).toNat - z.toNat; omega)
set_option maxHeartbeats 8000000 in
theorem laws_eqMemoS_n (xs : List NMemo) (hl : xs.length ≤ 1048576) (hs : ∀ y ∈ xs, y.small) : PCon Tryz.prog 88 [.c (.view (vwA NMemo.ac xs)), .c (.view (vwA NMemo.ac xs))] fun res rows => res = .t (abl true) ∧ rows = [] := by
  obtain ⟨V, hV⟩ : ∃ V, V = vwA NMemo.ac xs := ⟨_, rfl⟩
  have hVl : V.length = xs.length := by rw [hV, vwA_length]
  have hVx : lenI V = (xs.length : Int) := by rw [lenI_eq]; omega
  have hV1 : lenI V ≤ 1048576 := by omega
  have hV0 : 0 ≤ lenI V := by omega
  rw [← hV]
  refine pcon_run (c := body Tryz.f88) fits Tryz.func88 (by kernel_rfl) (by kernel_rfl) (by rfl) (by kernel_rfl) fun g F hg hF => ?_
  cbv
  have q : ∀ a : Int, g .q .neq a a = false := fun a => by rw [goNeq hg]; simp
  rw [q]
  cbv
  refine loop_run hg fits (by kernel_rfl) (fun z : Int => [(0, .t (.c (.view V))), (1, .t (.c (.view V))), (5, .t (ai z))]) (fun _ => []) (fun z => 0 ≤ z ∧ z ≤ lenI V) (fun z => (lenI V).toNat - z.toNat)
    0 [] ⟨Int.le_refl 0, hV0⟩ (wk0 ⟨rfl, rfl, rfl, trivial⟩) (fun z B hs' hB => ?_)
  obtain ⟨h0, h1⟩ := hs'
  cbv
  cases hc : g .q .lss z (g .ln V)
  · cbv
    exact fin0b hF rfl
  · rw [goLss hg, goLn hg, decide_eq_true_eq] at hc
    cbv
    obtain ⟨x, hx⟩ := at_z (xs := xs) h0 (lt_viaN hVx hc)
    have hsx := hs x (List.mem_of_getElem? hx)
    have hyy : V[z.toNat]? = some x.ac := by rw [hV]; exact vwA_at hx
    have cx := laws_eqMemo_n x hsx
    obtain ⟨a0, ⟨a1, a2⟩, ⟨a3, a4⟩, a5, ⟨a6, a7, a8, a9⟩⟩ := x
    replace hyy : V[z.toNat]? = some [.imm (.int .i64 a0), .imm (.int .i64 a1), .imm (.int .i64 a2), .imm (.int .i64 a3), .imm (.int .i64 a4), .imm (.bool a5), .imm (.int .i64 a6), .imm (.int .i64 a7), .imm (.int .i64 a8), .view (vw GFrame.c a9)] := hyy
    replace cx : PCon _ _ [.agg [.imm (.int .i64 a0), .imm (.int .i64 a1), .imm (.int .i64 a2), .imm (.int .i64 a3), .imm (.int .i64 a4), .imm (.bool a5), .imm (.int .i64 a6), .imm (.int .i64 a7), .imm (.int .i64 a8), .view (vw GFrame.c a9)], .agg [.imm (.int .i64 a0), .imm (.int .i64 a1), .imm (.int .i64 a2), .imm (.int .i64 a3), .imm (.int .i64 a4), .imm (.bool a5), .imm (.int .i64 a6), .imm (.int .i64 a7), .imm (.int .i64 a8), .view (vw GFrame.c a9)]] (fun res rows => res = .t (abl true) ∧ rows = []) := cx
    obtain ⟨Va9, hVa9⟩ : ∃ V, V = vw GFrame.c a9 := ⟨_, rfl⟩
    rw [← hVa9] at hyy cx
    refine goX hg _ h0 hyy rfl ?_
    cbv
    refine goX hg _ h0 hyy rfl ?_
    cbv
    (first | refine call0 hg cx rfl rfl ?_ | refine call0P hg cx rfl rfl ?_)
    cbv
    have h3 : g .w .add .i64 z 1 = z + 1 := by rw [goAdd hg, wrap_small _ (by omega)]
    rw [h3]
    exact back hB (z + 1) [] (wk0 ⟨rfl, rfl, rfl, trivial⟩) ⟨by omega, by omega⟩ (by show (lenI V).toNat - (z + 1).toNat < (lenI V).toNat - z.toNat; omega)
set_option maxHeartbeats 8000000 in
theorem laws_szMemoS_n (xs : List NMemo) (L : Int) (hl : xs.length ≤ 9223372036854775807) (hf : ∀ y ∈ xs, y.fit) (h0L : 0 ≤ L) (h1L : L ≤ 1048576) : PCon Tryz.prog 75 [.c (.view (vwA NMemo.ac xs)), ai L] fun res rows => ∃ R : Int, res = .t (ai R) ∧ rows = [] ∧ (R ≤ L ∨ R < 0) ∧ (0 ≤ R → xs.length ≤ 1048576 ∧ ∀ y ∈ xs, y.small) := by
  obtain ⟨V, hV⟩ : ∃ V, V = vwA NMemo.ac xs := ⟨_, rfl⟩
  have hVl : V.length = xs.length := by rw [hV, vwA_length]
  have hVx : lenI V = (xs.length : Int) := by rw [lenI_eq]; omega
  have hV1 : lenI V ≤ 9223372036854775807 := by omega
  have hV0 : 0 ≤ lenI V := by omega
  have hsm : lenI V ≤ 1048576 → xs.length ≤ 1048576 := by omega
  rw [← hV]
  refine pcon_run (c := body Tryz.f75) fits Tryz.func75 (by kernel_rfl) (by kernel_rfl) (by rfl) (by kernel_rfl) fun g F hg hF => ?_
  cbv
  obtain ⟨D, hD⟩ : ∃ D, D = L - lenI V := ⟨_, rfl⟩
  have e1 : g .w .sub .i64 L (g .ln V) = D := by rw [goSub hg, goLn hg, wrap_small _ (by omega), hD]
  rw [e1]
  cases e : g .q .lss D 0
  case true =>
    cbv
    exact finZ hF ⟨.inr (by decide), fun h => absurd h (by decide)⟩
  rw [goLss hg, decide_eq_false_iff_not] at e
  have hsm2 := hsm (by omega)
  cbv
  refine loop_run hg fits (by kernel_rfl) (fun s : Int × Int => [(0, .t (.c (.view V))), (1, .t (ai s.2)), (5, .t (ai s.1))]) (fun _ => []) (fun s => 0 ≤ s.1 ∧ s.1 ≤ lenI V ∧ 0 ≤ s.2 ∧ s.2 ≤ L ∧ ∀ (i : Nat) (y : NMemo), i < s.1.toNat → xs[i]? = some y → y.small) (fun s => (lenI V).toNat - s.1.toNat)
    (0, D) [] ⟨Int.le_refl 0, hV0, by simp only; omega, by simp only; omega, fun i y hi => by simp at hi⟩ (wk0 ⟨rfl, rfl, rfl, trivial⟩) (fun s B hs' hB => ?_)
  obtain ⟨z, M⟩ := s
  obtain ⟨h0, h1, h2, h3, h4⟩ := hs'
  simp only at h0 h1 h2 h3 h4
  cbv
  cases hc : g .q .lss z (g .ln V)
  · rw [goLss hg, goLn hg, decide_eq_false_iff_not] at hc
    cbv
    exact finZ hF ⟨.inl h3, fun _ => ⟨hsm2, all_upto hVx (by omega) h4⟩⟩
  · rw [goLss hg, goLn hg, decide_eq_true_eq] at hc
    cbv
    obtain ⟨x, hx⟩ := at_z (xs := xs) h0 (lt_viaN hVx hc)
    have hfx := hf x (List.mem_of_getElem? hx)
    have hyy : V[z.toNat]? = some x.ac := by rw [hV]; exact vwA_at hx
    have cx := laws_szMemo_n x M hfx h2 (by omega)
    obtain ⟨Sm, hSm⟩ : ∃ Sm : Prop, Sm = x.small := ⟨_, rfl⟩
    rw [← hSm] at cx
    have hSx : Sm → ∀ y, xs[z.toNat]? = some y → y.small := fun h y hy => by rw [hx] at hy; cases hy; rw [← hSm]; exact h
    clear hSm hfx hx
    obtain ⟨a0, ⟨a1, a2⟩, ⟨a3, a4⟩, a5, ⟨a6, a7, a8, a9⟩⟩ := x
    replace hyy : V[z.toNat]? = some [.imm (.int .i64 a0), .imm (.int .i64 a1), .imm (.int .i64 a2), .imm (.int .i64 a3), .imm (.int .i64 a4), .imm (.bool a5), .imm (.int .i64 a6), .imm (.int .i64 a7), .imm (.int .i64 a8), .view (vw GFrame.c a9)] := hyy
    replace cx : PCon _ _ [.agg [.imm (.int .i64 a0), .imm (.int .i64 a1), .imm (.int .i64 a2), .imm (.int .i64 a3), .imm (.int .i64 a4), .imm (.bool a5), .imm (.int .i64 a6), .imm (.int .i64 a7), .imm (.int .i64 a8), .view (vw GFrame.c a9)], ai M] (fun res rows => ∃ R : Int, res = .t (ai R) ∧ rows = [] ∧ (R ≤ M ∨ R < 0) ∧ (0 ≤ R → Sm)) := cx
    obtain ⟨Va9, hVa9⟩ : ∃ V, V = vw GFrame.c a9 := ⟨_, rfl⟩
    rw [← hVa9] at hyy cx
    refine goX hg _ h0 hyy rfl ?_
    cbv
    refine callZ hg cx rfl (fun R hR => ?_)
    obtain ⟨hR, hBR⟩ := hR
    cbv
    cases e5 : g .q .lss R 0
    case true =>
      cbv
      exact finZ hF ⟨.inr (by decide), fun h => absurd h (by decide)⟩
    rw [goLss hg, decide_eq_false_iff_not] at e5
    have pR : 0 ≤ R := by omega
    cbv
    have h6 : g .w .add .i64 z 1 = z + 1 := by rw [goAdd hg, wrap_small _ (by omega)]
    rw [h6]
    refine back hB (z + 1, R) [] (wk0 ⟨rfl, rfl, rfl, trivial⟩) ⟨by simp only; omega, by simp only; omega, pR, by simp only; omega, fun i y hi hy => ?_⟩ (by show (lenI V).toNat - (z + 1).toNat < (lenI V).toNat - z.toNat; omega)
    by_cases hi2 : i < z.toNat
    · exact h4 i y hi2 hy
    · have : i = z.toNat := by simp only at hi; omega
      subst this
      exact hSx (hBR pR) y hy
set_option maxHeartbeats 8000000 in
theorem laws_toKept_n (x : NKept) (hs : x.small) : PCon Tryz.prog 37 [.agg x.ac] fun res rows => res = .t (.agg x.ac) ∧ rows = [] := by
  obtain ⟨a0, a1⟩ := x
  obtain ⟨sa0, ua0, sa1, -⟩ := hs
  show PCon _ _ [.agg [.view (vwA NMemo.ac a0), .view (vw GAsked.c a1)]] (fun res rows => res = .t (.agg [.view (vwA NMemo.ac a0), .view (vw GAsked.c a1)]) ∧ rows = [])
  have c0 := laws_toMemoS_n a0 sa0 ua0
  have c1 := toRow (laws_toAskedS_a a1 sa1)
  obtain ⟨Va0, hVa0⟩ : ∃ V, V = vwA NMemo.ac a0 := ⟨_, rfl⟩
  have hVa0l : Va0.length = a0.length := by rw [hVa0, vwA_length]
  have pVa0 : plainE Va0 = true := by rw [hVa0]; exact vwA_plain NMemo.plain _
  have kVa0 : ∀ y ∈ Va0, y.length = 10 := by rw [hVa0]; exact vwA_k NMemo.len
  have dVa0 : ∀ y ∈ Va0, y.all dat = true := by rw [hVa0]; exact vwA_dat NMemo.dat
  obtain ⟨Va1, hVa1⟩ : ∃ Va1, Va1 = vw GAsked.c a1 := ⟨_, rfl⟩
  have hVa1l : Va1.length = a1.length := by rw [hVa1, vw_length]
  have iVa1 : immE Va1 = true := by rw [hVa1]; exact vw_imm _ _
  have kVa1 : ∀ y ∈ Va1, y.length = 6 := by rw [hVa1]; exact vw_k (c := GAsked.c) (k := 6) fun _ => rfl
  have dVa1 : ∀ y ∈ Va1, y.all dat = true := by rw [hVa1]; exact vw_dat
  rw [← hVa0] at c0
  rw [← hVa1] at c1
  rw [← hVa0, ← hVa1]
  refine pcon_run (c := body Tryz.f37) fits Tryz.func37 (by kernel_rfl) (by kernel_rfl) (by rfl) (by kernel_rfl) fun g F hg hF => ?_
  cbv
  repeat' (first | (refine call0 hg c0 rfl rfl ?_; cbv) | (refine call0P hg c0 rfl rfl ?_; cbv) | (refine callRow hg c1 (dat_data rfl) iVa1 ?_; cbv) | (refine callRowP hg c1 (dat_data rfl) iVa1 ?_; cbv))
  exact finFrz [.agg [.view Va0, .view Va1]] hF (.agg (by repeat' (first | exact .nil | refine .cons ?_ ?_ | exact .imm _ | exact .view _ | exact resRow (ab := ⟨_, _, Va0⟩) rfl kVa0 dVa0 | exact resRow (ab := ⟨_, _, Va1⟩) rfl kVa1 dVa1)) .nil) ⟨rfl, rfl⟩
set_option maxHeartbeats 8000000 in
theorem laws_eqKept_n (x : NKept) (hs : x.small) : PCon Tryz.prog 45 [.agg x.ac, .agg x.ac] fun res rows => res = .t (abl true) ∧ rows = [] := by
  obtain ⟨a0, a1⟩ := x
  obtain ⟨sa0, ua0, sa1, -⟩ := hs
  show PCon _ _ [.agg [.view (vwA NMemo.ac a0), .view (vw GAsked.c a1)], .agg [.view (vwA NMemo.ac a0), .view (vw GAsked.c a1)]] (fun res rows => res = .t (abl true) ∧ rows = [])
  have c0 := laws_eqMemoS_n a0 sa0 ua0
  have c1 := laws_eqAskedS_a a1 a1 sa1
  rw [decide_eq_true rfl] at c1
  obtain ⟨Va0, hVa0⟩ : ∃ V, V = vwA NMemo.ac a0 := ⟨_, rfl⟩
  have hVa0l : Va0.length = a0.length := by rw [hVa0, vwA_length]
  have pVa0 : plainE Va0 = true := by rw [hVa0]; exact vwA_plain NMemo.plain _
  have kVa0 : ∀ y ∈ Va0, y.length = 10 := by rw [hVa0]; exact vwA_k NMemo.len
  have dVa0 : ∀ y ∈ Va0, y.all dat = true := by rw [hVa0]; exact vwA_dat NMemo.dat
  obtain ⟨Va1, hVa1⟩ : ∃ Va1, Va1 = vw GAsked.c a1 := ⟨_, rfl⟩
  have hVa1l : Va1.length = a1.length := by rw [hVa1, vw_length]
  have iVa1 : immE Va1 = true := by rw [hVa1]; exact vw_imm _ _
  have kVa1 : ∀ y ∈ Va1, y.length = 6 := by rw [hVa1]; exact vw_k (c := GAsked.c) (k := 6) fun _ => rfl
  have dVa1 : ∀ y ∈ Va1, y.all dat = true := by rw [hVa1]; exact vw_dat
  rw [← hVa0] at c0
  rw [← hVa1] at c1
  rw [← hVa0, ← hVa1]
  refine pcon_run (c := body Tryz.f45) fits Tryz.func45 (by kernel_rfl) (by kernel_rfl) (by rfl) (by kernel_rfl) fun g F hg hF => ?_
  cbv
  have q : ∀ a : Int, g .q .neq a a = false := fun a => by rw [goNeq hg]; simp
  have qb : ∀ a : Bool, g .qb .neq a a = false := fun a => by rw [goNeqB hg]; simp
  repeat' (first | (rw [q]; cbv) | (rw [qb]; cbv) | (refine call0 hg c0 rfl rfl ?_; cbv) | (refine call0P hg c0 rfl rfl ?_; cbv) | (refine call0 hg c1 rfl rfl ?_; cbv) | (refine call0P hg c1 rfl rfl ?_; cbv))
  exact fin0b hF rfl
set_option maxHeartbeats 8000000 in
theorem laws_szKept_n (x : NKept) (L : Int) (hf : x.fit) (h0 : 0 ≤ L) (h1 : L ≤ 1048576) : PCon Tryz.prog 32 [.agg x.ac, ai L] fun res rows => ∃ R : Int, res = .t (ai R) ∧ rows = [] ∧ (R ≤ L ∨ R < 0) ∧ (0 ≤ R → x.small) := by
  obtain ⟨a0, a1⟩ := x
  obtain ⟨sa0, ua0, sa1, -⟩ := hf
  show PCon _ _ [.agg [.view (vwA NMemo.ac a0), .view (vw GAsked.c a1)], ai L] (fun res rows => ∃ R : Int, res = .t (ai R) ∧ rows = [] ∧ (R ≤ L ∨ R < 0) ∧ (0 ≤ R → NKept.small ⟨a0, a1⟩))
  have c0 := fun (M : Int) (h0 : 0 ≤ M) (h1 : M ≤ 1048576) => laws_szMemoS_n a0 M sa0 ua0 h0 h1
  have c1 := fun (M : Int) (h0 : 0 ≤ M) (h1 : M ≤ 1048576) => szZ (laws_szAskedS_b (vw GAsked.c a1) M (by rw [vw_length]; exact sa1) h0 h1)
  obtain ⟨Va0, hVa0⟩ : ∃ V, V = vwA NMemo.ac a0 := ⟨_, rfl⟩
  have hVa0l : Va0.length = a0.length := by rw [hVa0, vwA_length]
  have pVa0 : plainE Va0 = true := by rw [hVa0]; exact vwA_plain NMemo.plain _
  have kVa0 : ∀ y ∈ Va0, y.length = 10 := by rw [hVa0]; exact vwA_k NMemo.len
  have dVa0 : ∀ y ∈ Va0, y.all dat = true := by rw [hVa0]; exact vwA_dat NMemo.dat
  obtain ⟨Va1, hVa1⟩ : ∃ Va1, Va1 = vw GAsked.c a1 := ⟨_, rfl⟩
  have hVa1l : Va1.length = a1.length := by rw [hVa1, vw_length]
  have iVa1 : immE Va1 = true := by rw [hVa1]; exact vw_imm _ _
  have kVa1 : ∀ y ∈ Va1, y.length = 6 := by rw [hVa1]; exact vw_k (c := GAsked.c) (k := 6) fun _ => rfl
  have dVa1 : ∀ y ∈ Va1, y.all dat = true := by rw [hVa1]; exact vw_dat
  simp only [← hVa0] at c0
  have c1' : ∀ (M : Int), 0 ≤ M → M ≤ 1048576 → PCon _ _ [.c (.view Va1), ai M] (fun res rows => ∃ R : Int, res = .t (ai R) ∧ rows = [] ∧ (R ≤ M ∨ R < 0) ∧ (0 ≤ R → ((Va1.length : Nat) : Int) ≤ M)) := fun M h0 h1 => by have := c1 M h0 h1; rw [← hVa1] at this; exact this
  rw [← hVa0, ← hVa1]
  refine pcon_run (c := body Tryz.f32) fits Tryz.func32 (by kernel_rfl) (by kernel_rfl) (by rfl) (by kernel_rfl) fun g F hg hF => ?_
  cbv
  refine callZ hg (c0 L h0 h1) rfl (fun R0 hR0 => ?_)
  obtain ⟨hR0, hB0⟩ := hR0
  cbv
  cases e0 : g .q .lss R0 0
  case true =>
    cbv
    exact finZ hF ⟨.inr (by decide), fun h => absurd h (by decide)⟩
  rw [goLss hg, decide_eq_false_iff_not] at e0
  have p0 : 0 ≤ R0 := by omega
  have r0 : R0 ≤ 1048576 := by omega
  cbv
  refine callZ hg (c1' R0 p0 r0) rfl (fun R1 hR1 => ?_)
  obtain ⟨hR1, hB1⟩ := hR1
  cbv
  cases e1 : g .q .lss R1 0
  case true =>
    cbv
    exact finZ hF ⟨.inr (by decide), fun h => absurd h (by decide)⟩
  rw [goLss hg, decide_eq_false_iff_not] at e1
  have p1 : 0 ≤ R1 := by omega
  have r1 : R1 ≤ 1048576 := by omega
  cbv
  exact finZ hF ⟨.inl (by omega), fun _ => ⟨(hB0 p0).1, (hB0 p0).2, small_of hVa1l (hB1 p1) r0, trivial⟩⟩
set_option maxHeartbeats 8000000 in
theorem laws_toEngine_n (x : NEngine) (hs : x.small) : PCon Tryz.prog 11 [.agg x.ac] fun res rows => res = .t (.agg x.ac) ∧ rows = [] := by
  obtain ⟨⟨a0⟩, ⟨a1, a2⟩, a3, a4, a5, a6, a7⟩ := x
  obtain ⟨sa0, ua0, sa1, ua1, sa2, sa3, -⟩ := hs
  show PCon _ _ [.agg [.view (vwA NNode.ac a0), .view (vwA NMemo.ac a1), .view (vw GAsked.c a2), .view (vw GFrame.c a3), .imm (.int .i64 a4), .imm (.int .i64 a5), .imm (.int .i64 a6), .imm (.bool a7)]] (fun res rows => res = .t (.agg [.view (vwA NNode.ac a0), .view (vwA NMemo.ac a1), .view (vw GAsked.c a2), .view (vw GFrame.c a3), .imm (.int .i64 a4), .imm (.int .i64 a5), .imm (.int .i64 a6), .imm (.bool a7)]) ∧ rows = [])
  have c0 : PCon Tryz.prog 36 [.agg [.view (vwA NNode.ac a0)]] (fun res rows => res = .t (.agg [.view (vwA NNode.ac a0)]) ∧ rows = []) := laws_toTree_n ⟨a0⟩ ⟨sa0, ua0, trivial⟩
  have c1 : PCon Tryz.prog 37 [.agg [.view (vwA NMemo.ac a1), .view (vw GAsked.c a2)]] (fun res rows => res = .t (.agg [.view (vwA NMemo.ac a1), .view (vw GAsked.c a2)]) ∧ rows = []) := laws_toKept_n ⟨a1, a2⟩ ⟨sa1, ua1, sa2, trivial⟩
  have c3 := toRow (laws_toFrameS_a a3 sa3)
  obtain ⟨Va0, hVa0⟩ : ∃ V, V = vwA NNode.ac a0 := ⟨_, rfl⟩
  have hVa0l : Va0.length = a0.length := by rw [hVa0, vwA_length]
  have pVa0 : plainE Va0 = true := by rw [hVa0]; exact vwA_plain NNode.plain _
  have kVa0 : ∀ y ∈ Va0, y.length = 64 := by rw [hVa0]; exact vwA_k NNode.len
  have dVa0 : ∀ y ∈ Va0, y.all dat = true := by rw [hVa0]; exact vwA_dat NNode.dat
  obtain ⟨Va1, hVa1⟩ : ∃ V, V = vwA NMemo.ac a1 := ⟨_, rfl⟩
  have hVa1l : Va1.length = a1.length := by rw [hVa1, vwA_length]
  have pVa1 : plainE Va1 = true := by rw [hVa1]; exact vwA_plain NMemo.plain _
  have kVa1 : ∀ y ∈ Va1, y.length = 10 := by rw [hVa1]; exact vwA_k NMemo.len
  have dVa1 : ∀ y ∈ Va1, y.all dat = true := by rw [hVa1]; exact vwA_dat NMemo.dat
  obtain ⟨Va2, hVa2⟩ : ∃ Va2, Va2 = vw GAsked.c a2 := ⟨_, rfl⟩
  have hVa2l : Va2.length = a2.length := by rw [hVa2, vw_length]
  have iVa2 : immE Va2 = true := by rw [hVa2]; exact vw_imm _ _
  have kVa2 : ∀ y ∈ Va2, y.length = 6 := by rw [hVa2]; exact vw_k (c := GAsked.c) (k := 6) fun _ => rfl
  have dVa2 : ∀ y ∈ Va2, y.all dat = true := by rw [hVa2]; exact vw_dat
  obtain ⟨Va3, hVa3⟩ : ∃ Va3, Va3 = vw GFrame.c a3 := ⟨_, rfl⟩
  have hVa3l : Va3.length = a3.length := by rw [hVa3, vw_length]
  have iVa3 : immE Va3 = true := by rw [hVa3]; exact vw_imm _ _
  have kVa3 : ∀ y ∈ Va3, y.length = 5 := by rw [hVa3]; exact vw_k (c := GFrame.c) (k := 5) fun _ => rfl
  have dVa3 : ∀ y ∈ Va3, y.all dat = true := by rw [hVa3]; exact vw_dat
  rw [← hVa0] at c0
  rw [← hVa1, ← hVa2] at c1
  rw [← hVa3] at c3
  rw [← hVa0, ← hVa1, ← hVa2, ← hVa3]
  refine pcon_run (c := body Tryz.f11) fits Tryz.func11 (by kernel_rfl) (by kernel_rfl) (by rfl) (by kernel_rfl) fun g F hg hF => ?_
  cbv
  repeat' (first | (refine call0 hg c0 rfl rfl ?_; cbv) | (refine call0P hg c0 rfl rfl ?_; cbv) | (refine call0 hg c1 rfl rfl ?_; cbv) | (refine call0P hg c1 rfl rfl ?_; cbv) | (refine callRow hg c3 (dat_data rfl) iVa3 ?_; cbv) | (refine callRowP hg c3 (dat_data rfl) iVa3 ?_; cbv))
  exact finFrz [.agg [.view Va0, .view Va1, .view Va2, .view Va3, .imm (.int .i64 a4), .imm (.int .i64 a5), .imm (.int .i64 a6), .imm (.bool a7)]] hF (.agg (by repeat' (first | exact .nil | refine .cons ?_ ?_ | exact .imm _ | exact .view _ | exact resRow (ab := ⟨_, _, Va0⟩) rfl kVa0 dVa0 | exact resRow (ab := ⟨_, _, Va1⟩) rfl kVa1 dVa1 | exact resRow (ab := ⟨_, _, Va2⟩) rfl kVa2 dVa2 | exact resRow (ab := ⟨_, _, Va3⟩) rfl kVa3 dVa3)) .nil) ⟨rfl, rfl⟩
set_option maxHeartbeats 8000000 in
theorem laws_eqEngine_n (x : NEngine) (hs : x.small) : PCon Tryz.prog 14 [.agg x.ac, .agg x.ac] fun res rows => res = .t (abl true) ∧ rows = [] := by
  obtain ⟨⟨a0⟩, ⟨a1, a2⟩, a3, a4, a5, a6, a7⟩ := x
  obtain ⟨sa0, ua0, sa1, ua1, sa2, sa3, -⟩ := hs
  show PCon _ _ [.agg [.view (vwA NNode.ac a0), .view (vwA NMemo.ac a1), .view (vw GAsked.c a2), .view (vw GFrame.c a3), .imm (.int .i64 a4), .imm (.int .i64 a5), .imm (.int .i64 a6), .imm (.bool a7)], .agg [.view (vwA NNode.ac a0), .view (vwA NMemo.ac a1), .view (vw GAsked.c a2), .view (vw GFrame.c a3), .imm (.int .i64 a4), .imm (.int .i64 a5), .imm (.int .i64 a6), .imm (.bool a7)]] (fun res rows => res = .t (abl true) ∧ rows = [])
  have c0 : PCon Tryz.prog 44 [.agg [.view (vwA NNode.ac a0)], .agg [.view (vwA NNode.ac a0)]] (fun res rows => res = .t (abl true) ∧ rows = []) := laws_eqTree_n ⟨a0⟩ ⟨sa0, ua0, trivial⟩
  have c1 : PCon Tryz.prog 45 [.agg [.view (vwA NMemo.ac a1), .view (vw GAsked.c a2)], .agg [.view (vwA NMemo.ac a1), .view (vw GAsked.c a2)]] (fun res rows => res = .t (abl true) ∧ rows = []) := laws_eqKept_n ⟨a1, a2⟩ ⟨sa1, ua1, sa2, trivial⟩
  have c3 := laws_eqFrameS_a a3 a3 sa3
  rw [decide_eq_true rfl] at c3
  obtain ⟨Va0, hVa0⟩ : ∃ V, V = vwA NNode.ac a0 := ⟨_, rfl⟩
  have hVa0l : Va0.length = a0.length := by rw [hVa0, vwA_length]
  have pVa0 : plainE Va0 = true := by rw [hVa0]; exact vwA_plain NNode.plain _
  have kVa0 : ∀ y ∈ Va0, y.length = 64 := by rw [hVa0]; exact vwA_k NNode.len
  have dVa0 : ∀ y ∈ Va0, y.all dat = true := by rw [hVa0]; exact vwA_dat NNode.dat
  obtain ⟨Va1, hVa1⟩ : ∃ V, V = vwA NMemo.ac a1 := ⟨_, rfl⟩
  have hVa1l : Va1.length = a1.length := by rw [hVa1, vwA_length]
  have pVa1 : plainE Va1 = true := by rw [hVa1]; exact vwA_plain NMemo.plain _
  have kVa1 : ∀ y ∈ Va1, y.length = 10 := by rw [hVa1]; exact vwA_k NMemo.len
  have dVa1 : ∀ y ∈ Va1, y.all dat = true := by rw [hVa1]; exact vwA_dat NMemo.dat
  obtain ⟨Va2, hVa2⟩ : ∃ Va2, Va2 = vw GAsked.c a2 := ⟨_, rfl⟩
  have hVa2l : Va2.length = a2.length := by rw [hVa2, vw_length]
  have iVa2 : immE Va2 = true := by rw [hVa2]; exact vw_imm _ _
  have kVa2 : ∀ y ∈ Va2, y.length = 6 := by rw [hVa2]; exact vw_k (c := GAsked.c) (k := 6) fun _ => rfl
  have dVa2 : ∀ y ∈ Va2, y.all dat = true := by rw [hVa2]; exact vw_dat
  obtain ⟨Va3, hVa3⟩ : ∃ Va3, Va3 = vw GFrame.c a3 := ⟨_, rfl⟩
  have hVa3l : Va3.length = a3.length := by rw [hVa3, vw_length]
  have iVa3 : immE Va3 = true := by rw [hVa3]; exact vw_imm _ _
  have kVa3 : ∀ y ∈ Va3, y.length = 5 := by rw [hVa3]; exact vw_k (c := GFrame.c) (k := 5) fun _ => rfl
  have dVa3 : ∀ y ∈ Va3, y.all dat = true := by rw [hVa3]; exact vw_dat
  rw [← hVa0] at c0
  rw [← hVa1, ← hVa2] at c1
  rw [← hVa3] at c3
  rw [← hVa0, ← hVa1, ← hVa2, ← hVa3]
  refine pcon_run (c := body Tryz.f14) fits Tryz.func14 (by kernel_rfl) (by kernel_rfl) (by rfl) (by kernel_rfl) fun g F hg hF => ?_
  cbv
  have q : ∀ a : Int, g .q .neq a a = false := fun a => by rw [goNeq hg]; simp
  have qb : ∀ a : Bool, g .qb .neq a a = false := fun a => by rw [goNeqB hg]; simp
  repeat' (first | (rw [q]; cbv) | (rw [qb]; cbv) | (refine call0 hg c0 rfl rfl ?_; cbv) | (refine call0P hg c0 rfl rfl ?_; cbv) | (refine call0 hg c1 rfl rfl ?_; cbv) | (refine call0P hg c1 rfl rfl ?_; cbv) | (refine call0 hg c3 rfl rfl ?_; cbv) | (refine call0P hg c3 rfl rfl ?_; cbv))
  exact fin0b hF rfl
set_option maxHeartbeats 8000000 in
theorem laws_szEngine_n (x : NEngine) (L : Int) (hf : x.fit) (h0 : 0 ≤ L) (h1 : L ≤ 1048576) : PCon Tryz.prog 9 [.agg x.ac, ai L] fun res rows => ∃ R : Int, res = .t (ai R) ∧ rows = [] ∧ (R ≤ L ∨ R < 0) ∧ (0 ≤ R → x.small) := by
  obtain ⟨⟨a0⟩, ⟨a1, a2⟩, a3, a4, a5, a6, a7⟩ := x
  obtain ⟨sa0, ua0, sa1, ua1, sa2, sa3, -⟩ := hf
  show PCon _ _ [.agg [.view (vwA NNode.ac a0), .view (vwA NMemo.ac a1), .view (vw GAsked.c a2), .view (vw GFrame.c a3), .imm (.int .i64 a4), .imm (.int .i64 a5), .imm (.int .i64 a6), .imm (.bool a7)], ai L] (fun res rows => ∃ R : Int, res = .t (ai R) ∧ rows = [] ∧ (R ≤ L ∨ R < 0) ∧ (0 ≤ R → NEngine.small ⟨⟨a0⟩, ⟨a1, a2⟩, a3, a4, a5, a6, a7⟩))
  have c0 : ∀ (M : Int) (h0 : 0 ≤ M) (h1 : M ≤ 1048576), PCon Tryz.prog 31 [.agg [.view (vwA NNode.ac a0)], ai M] (fun res rows => ∃ R : Int, res = .t (ai R) ∧ rows = [] ∧ (R ≤ M ∨ R < 0) ∧ (0 ≤ R → NTree.small ⟨a0⟩)) := fun M h0 h1 => laws_szTree_n ⟨a0⟩ M ⟨sa0, ua0, trivial⟩ h0 h1
  have c1 : ∀ (M : Int) (h0 : 0 ≤ M) (h1 : M ≤ 1048576), PCon Tryz.prog 32 [.agg [.view (vwA NMemo.ac a1), .view (vw GAsked.c a2)], ai M] (fun res rows => ∃ R : Int, res = .t (ai R) ∧ rows = [] ∧ (R ≤ M ∨ R < 0) ∧ (0 ≤ R → NKept.small ⟨a1, a2⟩)) := fun M h0 h1 => laws_szKept_n ⟨a1, a2⟩ M ⟨sa1, ua1, sa2, trivial⟩ h0 h1
  have c3 := fun (M : Int) (h0 : 0 ≤ M) (h1 : M ≤ 1048576) => szZ (laws_szFrameS_b (vw GFrame.c a3) M (by rw [vw_length]; exact sa3) h0 h1)
  obtain ⟨Va0, hVa0⟩ : ∃ V, V = vwA NNode.ac a0 := ⟨_, rfl⟩
  have hVa0l : Va0.length = a0.length := by rw [hVa0, vwA_length]
  have pVa0 : plainE Va0 = true := by rw [hVa0]; exact vwA_plain NNode.plain _
  have kVa0 : ∀ y ∈ Va0, y.length = 64 := by rw [hVa0]; exact vwA_k NNode.len
  have dVa0 : ∀ y ∈ Va0, y.all dat = true := by rw [hVa0]; exact vwA_dat NNode.dat
  obtain ⟨Va1, hVa1⟩ : ∃ V, V = vwA NMemo.ac a1 := ⟨_, rfl⟩
  have hVa1l : Va1.length = a1.length := by rw [hVa1, vwA_length]
  have pVa1 : plainE Va1 = true := by rw [hVa1]; exact vwA_plain NMemo.plain _
  have kVa1 : ∀ y ∈ Va1, y.length = 10 := by rw [hVa1]; exact vwA_k NMemo.len
  have dVa1 : ∀ y ∈ Va1, y.all dat = true := by rw [hVa1]; exact vwA_dat NMemo.dat
  obtain ⟨Va2, hVa2⟩ : ∃ Va2, Va2 = vw GAsked.c a2 := ⟨_, rfl⟩
  have hVa2l : Va2.length = a2.length := by rw [hVa2, vw_length]
  have iVa2 : immE Va2 = true := by rw [hVa2]; exact vw_imm _ _
  have kVa2 : ∀ y ∈ Va2, y.length = 6 := by rw [hVa2]; exact vw_k (c := GAsked.c) (k := 6) fun _ => rfl
  have dVa2 : ∀ y ∈ Va2, y.all dat = true := by rw [hVa2]; exact vw_dat
  obtain ⟨Va3, hVa3⟩ : ∃ Va3, Va3 = vw GFrame.c a3 := ⟨_, rfl⟩
  have hVa3l : Va3.length = a3.length := by rw [hVa3, vw_length]
  have iVa3 : immE Va3 = true := by rw [hVa3]; exact vw_imm _ _
  have kVa3 : ∀ y ∈ Va3, y.length = 5 := by rw [hVa3]; exact vw_k (c := GFrame.c) (k := 5) fun _ => rfl
  have dVa3 : ∀ y ∈ Va3, y.all dat = true := by rw [hVa3]; exact vw_dat
  simp only [← hVa0] at c0
  simp only [← hVa1, ← hVa2] at c1
  have c3' : ∀ (M : Int), 0 ≤ M → M ≤ 1048576 → PCon _ _ [.c (.view Va3), ai M] (fun res rows => ∃ R : Int, res = .t (ai R) ∧ rows = [] ∧ (R ≤ M ∨ R < 0) ∧ (0 ≤ R → ((Va3.length : Nat) : Int) ≤ M)) := fun M h0 h1 => by have := c3 M h0 h1; rw [← hVa3] at this; exact this
  rw [← hVa0, ← hVa1, ← hVa2, ← hVa3]
  refine pcon_run (c := body Tryz.f9) fits Tryz.func9 (by kernel_rfl) (by kernel_rfl) (by rfl) (by kernel_rfl) fun g F hg hF => ?_
  cbv
  refine callZ hg (c0 L h0 h1) rfl (fun R0 hR0 => ?_)
  obtain ⟨hR0, hB0⟩ := hR0
  cbv
  cases e0 : g .q .lss R0 0
  case true =>
    cbv
    exact finZ hF ⟨.inr (by decide), fun h => absurd h (by decide)⟩
  rw [goLss hg, decide_eq_false_iff_not] at e0
  have p0 : 0 ≤ R0 := by omega
  have r0 : R0 ≤ 1048576 := by omega
  cbv
  refine callZ hg (c1 R0 p0 r0) rfl (fun R1 hR1 => ?_)
  obtain ⟨hR1, hB1⟩ := hR1
  cbv
  cases e1 : g .q .lss R1 0
  case true =>
    cbv
    exact finZ hF ⟨.inr (by decide), fun h => absurd h (by decide)⟩
  rw [goLss hg, decide_eq_false_iff_not] at e1
  have p1 : 0 ≤ R1 := by omega
  have r1 : R1 ≤ 1048576 := by omega
  cbv
  refine callZ hg (c3' R1 p1 r1) rfl (fun R2 hR2 => ?_)
  obtain ⟨hR2, hB2⟩ := hR2
  cbv
  cases e2 : g .q .lss R2 0
  case true =>
    cbv
    exact finZ hF ⟨.inr (by decide), fun h => absurd h (by decide)⟩
  rw [goLss hg, decide_eq_false_iff_not] at e2
  have p2 : 0 ≤ R2 := by omega
  have r2 : R2 ≤ 1048576 := by omega
  cbv
  exact finZ hF ⟨.inl (by omega), fun _ => ⟨(hB0 p0).1, (hB0 p0).2.1, (hB1 p1).1, (hB1 p1).2.1, (hB1 p1).2.2.1, small_of hVa3l (hB2 p2) r1, trivial⟩⟩
def NewB (lo : Nat) (bs : List Nat) : Prop := bs.Nodup ∧ ∀ b ∈ bs, lo ≤ b
theorem NewB.mono {lo lo' : Nat} {bs : List Nat} (h : lo ≤ lo') (hn : NewB lo' bs) : NewB lo bs := ⟨hn.1, fun b hb => Nat.le_trans h (hn.2 b hb)⟩
theorem NewB.nil (lo : Nat) : NewB lo [] := ⟨List.nodup_nil, fun b hb => by simp at hb⟩
theorem NewB.app {lo lo' : Nat} {ps bs : List Nat} (h : lo ≤ lo') (ha : NewB lo ps) (hb : NewB lo' bs) (hlt : ∀ b ∈ ps, b < lo') : NewB lo (ps ++ bs) :=
  ⟨List.nodup_append.2 ⟨ha.1, hb.1, fun a h1 b h2 he => by have := hlt a h1; have := hb.2 b h2; omega⟩, fun b hb' => (List.mem_append.1 hb').elim (ha.2 b) fun h2 => Nat.le_trans h (hb.2 b h2)⟩
theorem NewB.left {lo : Nat} {ps bs : List Nat} (h : NewB lo (ps ++ bs)) : NewB lo ps := ⟨(List.nodup_append.1 h.1).1, fun b hb => h.2 b (List.mem_append_left _ hb)⟩
theorem NewB.right {lo : Nat} {ps bs : List Nat} (h : NewB lo (ps ++ bs)) : NewB lo bs := ⟨(List.nodup_append.1 h.1).2.1, fun b hb => h.2 b (List.mem_append_right _ hb)⟩
theorem imm_of {V : List (List AC)} (h : immE V = true) : ∀ y ∈ V, ∀ c ∈ y, ∃ u, c = .imm u := fun y hy c hc => by
  unfold immE at h
  have := List.all_eq_true.1 (List.all_eq_true.1 h y hy) c hc
  cases c <;> first | exact ⟨_, rfl⟩ | cases this
theorem imm_vw {V : List (List AC)} (h : immE V = true) : V.map (·.map vwC) = V := by
  refine (List.map_congr_left (g := id) fun x hx => ?_).trans (List.map_id V)
  refine (List.map_congr_left (g := id) fun c hc => ?_).trans (List.map_id x)
  obtain ⟨u, rfl⟩ := imm_of h x hx c hc
  rfl
theorem imm_fp {V : List (List AC)} (h : immE V = true) : fpE V = [] := by
  unfold fpE
  rw [List.flatMap_eq_nil_iff]
  intro y hy
  unfold fpL
  rw [List.flatMap_eq_nil_iff]
  intro c hc
  obtain ⟨u, rfl⟩ := imm_of h y hy c hc
  rfl
theorem bare_plainL {e : List AC} (h : e.all bareF = true) : e.all plain = true := List.all_eq_true.2 fun c hc => by
  have := List.all_eq_true.1 h c hc
  cases c <;> first | rfl | cases this
theorem bare_plainE {es : List (List AC)} (h : ∀ e ∈ es, e.all bareF = true) : plainE es = true := List.all_eq_true.2 fun e he => bare_plainL (h e he)
theorem ress_bareC {bl : Nat → Nat} {h : AH} {c : AC} (hb : bareF c = true) : ResS bl h c c := by
  cases c <;> first | exact .imm _ | exact .fv _ _ | cases hb
theorem ress_bareRow {bl : Nat → Nat} {h : AH} {r : Nat} {ab : AB} (hr : h[r]? = some (.live ab)) (hb : ∀ e ∈ ab.es, e.all bareF = true) : ResS bl h (.own r) (.fv (hd1 (bl r) ab.es ++ fpE ab.es) (ab.es.map (·.map vwC))) :=
  .row r ab ab.es hr rfl (fun i x y hx hy => by rw [hx] at hy; cases hy; rfl) fun i x y hx hy j c d hc hd => by
    rw [hx] at hy
    cases hy
    rw [hc] at hd
    cases hd
    exact ress_bareC (List.all_eq_true.1 (hb x (List.mem_of_getElem? hx)) c (List.mem_of_getElem? hc))
theorem ress_immRow {bl : Nat → Nat} {h : AH} {r : Nat} {ab : AB} (hr : h[r]? = some (.live ab)) (hi : immE ab.es = true) : ResS bl h (.own r) (.fv (hd1 (bl r) ab.es) ab.es) := by
  have := ress_bareRow (bl := bl) hr (fun e he => List.all_eq_true.2 fun c hc => by obtain ⟨u, rfl⟩ := imm_of hi e he c hc; rfl)
  rwa [imm_vw hi, imm_fp hi, List.append_nil] at this
theorem blk_new {lo : Nat} {bl : Nat → Nat} {h : AH} {xs : List AT} (hb : BlkOk lo bl h xs) {r : Nat} {ab : AB} (hr : h[r]? = some (.live ab)) : NewB lo (hd1 (bl r) ab.es) := by
  cases he : ab.es with
  | nil => exact NewB.nil lo
  | cons e es => exact ⟨by simp [hd1], fun b hb' => by simp only [hd1, List.mem_singleton] at hb'; subst hb'; exact (hb r ab hr (by rw [he]; simp)).1⟩
theorem blk_row {lo : Nat} {bl : Nat → Nat} {h : AH} {xs : List AT} (hb : BlkOk lo bl h xs) {r : Nat} {ab : AB} (hr : h[r]? = some (.live ab)) (hn : NewB lo (fpE ab.es)) : NewB lo (hd1 (bl r) ab.es ++ fpE ab.es) := by
  refine ⟨List.nodup_append.2 ⟨(blk_new hb hr).1, hn.1, fun a h1 b h2 he => ?_⟩, fun b hb' => (List.mem_append.1 hb').elim ((blk_new hb hr).2 b) (hn.2 b)⟩
  subst he
  cases hes : ab.es with
  | nil => rw [hes] at h1; simp [hd1] at h1
  | cons e es =>
    rw [hes] at h1
    simp only [hd1, List.mem_singleton] at h1
    subst h1
    obtain ⟨x, hx, hb'⟩ := List.mem_flatMap.1 h2
    obtain ⟨c, hc, hb''⟩ := List.mem_flatMap.1 hb'
    exact (hb r ab hr (by rw [hes]; simp)).2.2.1 r ab hr x hx c hc hb''
theorem blk_tail {lo : Nat} {bl : Nat → Nat} {h : AH} {xs : List AT} (hb : BlkOk lo bl h xs) {r : Nat} {ab : AB} (hr : h[r]? = some (.live ab)) {ps : List Nat} {ys : List (List AC)} {x : AT} (hx : x ∈ xs) (hc : .fv ps ys ∈ x.cells) (hn : NewB lo ps) : NewB lo (ps ++ hd1 (bl r) ab.es) := by
  refine ⟨List.nodup_append.2 ⟨hn.1, (blk_new hb hr).1, fun a h1 b h2 he => ?_⟩, fun b hb' => (List.mem_append.1 hb').elim (hn.2 b) ((blk_new hb hr).2 b)⟩
  subst he
  cases hes : ab.es with
  | nil => rw [hes] at h2; simp [hd1] at h2
  | cons e es =>
    rw [hes] at h2
    simp only [hd1, List.mem_singleton] at h2
    subst h2
    exact (hb r ab hr (by rw [hes]; simp)).2.2.2 x hx _ hc h1
theorem fpE_set : ∀ (es : List (List AC)) (j : Nat) (y : List AC), j < es.length → (∀ (i : Nat) (e : List AC), j ≤ i → es[i]? = some e → fpL e = []) → fpE (es.set j y) = fpE es ++ fpL y
  | [], j, y, hj, _ => by simp at hj
  | e :: es, 0, y, _, hz => by
    have h1 : fpE es = [] := by
      unfold fpE
      rw [List.flatMap_eq_nil_iff]
      intro x hx
      obtain ⟨i, hi, rfl⟩ := List.getElem_of_mem hx
      exact hz (i + 1) _ (Nat.zero_le _) (by simp [hi])
    have h2 := hz 0 e (Nat.le_refl _) rfl
    show fpL y ++ fpE es = fpL e ++ fpE es ++ fpL y
    rw [h1, h2]; simp
  | e :: es, j + 1, y, hj, hz => by
    have := fpE_set es j y (by simpa using hj) (fun i x hi hx => hz (i + 1) x (by omega) (by simpa using hx))
    show fpL e ++ fpE (es.set j y) = fpL e ++ fpE es ++ fpL y
    rw [this, List.append_assoc]
structure FillT (k : Nat) (V es : List (List AC)) (z : Int) (lo : Nat) : Prop where
  z0 : 0 ≤ z
  z1 : z ≤ lenI V
  len : es.length = V.length
  kk : ∀ e ∈ es, e.length = k
  bare : ∀ e ∈ es, e.all bareF = true
  done : ∀ i : Nat, (i : Int) < z → (es[i]?).map (·.map vwC) = V[i]?
  zero : ∀ (i : Nat) (e : List AC), z ≤ (i : Int) → es[i]? = some e → fpL e = []
  new : NewB lo (fpE es)
theorem FillT.start {k : Nat} {V : List (List AC)} {row : List AC} {n : Int} {lo : Nat} (hk : row.length = k) (hi : immE [row] = true) (hn : n = lenI V) : FillT k V (List.replicate n.toNat row) 0 lo := by
  have hrow := imm_of hi row (by simp)
  have hfp : fpL row = [] := by unfold fpL; rw [List.flatMap_eq_nil_iff]; intro c hc; obtain ⟨u, rfl⟩ := hrow c hc; rfl
  rw [lenI_eq] at hn
  refine ⟨Int.le_refl 0, by rw [lenI_eq]; omega, by simp [hn], fun e he => ?_, fun e he => ?_, fun i hi => by omega, fun i e _ he => ?_, ?_⟩
  · rw [List.eq_of_mem_replicate he]; exact hk
  · rw [List.eq_of_mem_replicate he]; exact List.all_eq_true.2 fun c hc => by obtain ⟨u, rfl⟩ := hrow c hc; rfl
  · rw [List.eq_of_mem_replicate (List.mem_of_getElem? he)]; exact hfp
  · have : fpE (List.replicate n.toNat row) = [] := by unfold fpE; rw [List.flatMap_eq_nil_iff]; intro e he; rw [List.eq_of_mem_replicate he]; exact hfp
    rw [this]; exact NewB.nil lo
theorem FillT.step {k : Nat} {V es : List (List AC)} {z : Int} {lo lo' j : Nat} {y v : List AC} (hs : FillT k V es z lo) (hc : z < lenI V) (hj : j = z.toNat) (hv : V[z.toNat]? = some v) (hy : y.map vwC = v) (hk : y.length = k) (hb : y.all bareF = true) (hlo : lo ≤ lo') (hn : NewB lo' (fpL y)) (hlt : ∀ b ∈ fpE es, b < lo') : FillT k V (es.set j y) (z + 1) lo := by
  have h0 := hs.z0
  have hjl : j < es.length := by rw [hs.len]; rw [lenI_eq] at hc; omega
  subst hj
  refine ⟨by omega, by omega, by simp [hs.len], fun e he => ?_, fun e he => ?_, fun i hi => ?_, fun i e hi he => ?_, ?_⟩
  · rcases List.mem_or_eq_of_mem_set he with h | h
    · exact hs.kk e h
    · rw [h]; exact hk
  · rcases List.mem_or_eq_of_mem_set he with h | h
    · exact hs.bare e h
    · rw [h]; exact hb
  · by_cases hiz : i = z.toNat
    · subst hiz
      rw [List.getElem?_set_self hjl, Option.map_some, hv, hy]
    · rw [List.getElem?_set_ne (fun h => hiz h.symm)]
      exact hs.done i (by omega)
  · rw [List.getElem?_set_ne (by omega)] at he
    exact hs.zero i e (by omega) he
  · rw [fpE_set es z.toNat y hjl (fun i e hi he => hs.zero i e (by omega) he)]
    exact NewB.app hlo hs.new hn hlt
theorem FillT.all {k : Nat} {V es : List (List AC)} {z : Int} {lo : Nat} (hs : FillT k V es z lo) (hz : ¬ z < lenI V) : es.map (·.map vwC) = V := by
  refine List.ext_getElem? fun i => ?_
  rw [List.getElem?_map]
  by_cases hi : i < V.length
  · exact hs.done i (by rw [lenI_eq] at hz; omega)
  · rw [List.getElem?_eq_none (by rw [hs.len]; omega), List.getElem?_eq_none (by omega)]; rfl
theorem FillT.mem {k : Nat} {V es : List (List AC)} {z : Int} {lo j : Nat} (hs : FillT k V es z lo) (hj : j < es.length) : ∃ e, es[j]? = some e ∧ e.length = k := ⟨es[j], List.getElem?_eq_getElem hj, hs.kk _ (List.getElem_mem hj)⟩
theorem goYt {P : Program} {n0 N : Nat} {β : BP} {g : Gd} (hg : g = G0 P n0 N) {xs : List (List AC)} {z : Int} {j k : Nat} {K : Nat → Prop} (hz : 0 ≤ z) (hj : j = z.toNat) (hy : j < xs.length) (hK : K j) : g .Y k xs z K := by subst hg hj; exact ⟨hz, hy, hK⟩
set_option maxHeartbeats 8000000 in
theorem laws_toBox_t (x : NBox) (hs : x.small) : TCon Tryz.prog 137 [.agg x.ac] fun lo res rows => (∃ b3, res = .t (.agg [.imm (.int .i64 x.wide), .imm (.int .i64 x.high), .imm (.int .i64 x.base), .fv b3 (vw GFrame.c x.frames)]) ∧ NewB lo b3) ∧ plainV res = true ∧ rows = [] := by
  obtain ⟨a0, a1, a2, a3⟩ := x
  obtain ⟨sa3, -⟩ := hs
  show TCon _ _ [.agg [.imm (.int .i64 a0), .imm (.int .i64 a1), .imm (.int .i64 a2), .view (vw GFrame.c a3)]] (fun lo res rows => (∃ b3, res = .t (.agg [.imm (.int .i64 a0), .imm (.int .i64 a1), .imm (.int .i64 a2), .fv b3 (vw GFrame.c a3)]) ∧ NewB lo b3) ∧ plainV res = true ∧ rows = [])
  have c3 := toRow (laws_toFrameS_a a3 sa3)
  obtain ⟨Va3, hVa3⟩ : ∃ Va3, Va3 = vw GFrame.c a3 := ⟨_, rfl⟩
  have hVa3l : Va3.length = a3.length := by rw [hVa3, vw_length]
  have iVa3 : immE Va3 = true := by rw [hVa3]; exact vw_imm _ _
  have kVa3 : ∀ y ∈ Va3, y.length = 5 := by rw [hVa3]; exact vw_k (c := GFrame.c) (k := 5) fun _ => rfl
  have dVa3 : ∀ y ∈ Va3, y.all dat = true := by rw [hVa3]; exact vw_dat
  rw [← hVa3] at c3
  rw [← hVa3]
  refine tcon_run ([]) ([]) (c := body Tryz.f137) fits Tryz.func137 (by kernel_rfl) (by kernel_rfl) (by rfl) (by kernel_rfl) fun β g eff hd F heff hhd hg hF => ?_
  cbv
  repeat' (first | (refine callRow hg c3 (dat_data rfl) iVa3 ?_; cbv) | (refine callRowP hg c3 (dat_data rfl) iVa3 ?_; cbv))
  refine finTS hF fun bl hbl => ⟨[.agg [.imm (.int .i64 a0), .imm (.int .i64 a1), .imm (.int .i64 a2), .fv (hd1 (bl 3) Va3) Va3]], .agg (.cons (.imm _) (.cons (.imm _) (.cons (.imm _) (.cons (ress_immRow (r := 3) (ab := ⟨_, _, Va3⟩) rfl iVa3) .nil)))) .nil, ⟨_, rfl, blk_new hbl (r := 3) (ab := ⟨_, _, Va3⟩) rfl⟩, rfl, rfl⟩
set_option maxHeartbeats 8000000 in
theorem laws_toMemo_t (x : NMemo) (hs : x.small) : TCon Tryz.prog 120 [.agg x.ac] fun lo res rows => (∃ b9, res = .t (.agg [.imm (.int .i64 x.node), .imm (.int .i64 x.wide.mode), .imm (.int .i64 x.wide.n), .imm (.int .i64 x.high.mode), .imm (.int .i64 x.high.n), .imm (.bool x.rtl), .imm (.int .i64 x.box.wide), .imm (.int .i64 x.box.high), .imm (.int .i64 x.box.base), .fv b9 (vw GFrame.c x.box.frames)]) ∧ NewB lo b9) ∧ plainV res = true ∧ rows = [] := by
  obtain ⟨a0, ⟨a1, a2⟩, ⟨a3, a4⟩, a5, ⟨a6, a7, a8, a9⟩⟩ := x
  obtain ⟨sa9, -⟩ := hs
  show TCon _ _ [.agg [.imm (.int .i64 a0), .imm (.int .i64 a1), .imm (.int .i64 a2), .imm (.int .i64 a3), .imm (.int .i64 a4), .imm (.bool a5), .imm (.int .i64 a6), .imm (.int .i64 a7), .imm (.int .i64 a8), .view (vw GFrame.c a9)]] (fun lo res rows => (∃ b9, res = .t (.agg [.imm (.int .i64 a0), .imm (.int .i64 a1), .imm (.int .i64 a2), .imm (.int .i64 a3), .imm (.int .i64 a4), .imm (.bool a5), .imm (.int .i64 a6), .imm (.int .i64 a7), .imm (.int .i64 a8), .fv b9 (vw GFrame.c a9)]) ∧ NewB lo b9) ∧ plainV res = true ∧ rows = [])
  have c6 := laws_toBox_t ⟨a6, a7, a8, a9⟩ ⟨sa9, trivial⟩
  replace c6 : TCon Tryz.prog 137 [.agg [.imm (.int .i64 a6), .imm (.int .i64 a7), .imm (.int .i64 a8), .view (vw GFrame.c a9)]] (fun lo res rows => (∃ b3, res = .t (.agg [.imm (.int .i64 a6), .imm (.int .i64 a7), .imm (.int .i64 a8), .fv b3 (vw GFrame.c a9)]) ∧ NewB lo b3) ∧ plainV res = true ∧ rows = []) := c6
  obtain ⟨Va9, hVa9⟩ : ∃ V, V = vw GFrame.c a9 := ⟨_, rfl⟩
  rw [← hVa9] at c6
  rw [← hVa9]
  refine tcon_run ([]) ([]) (c := body Tryz.f120) fits Tryz.func120 (by kernel_rfl) (by kernel_rfl) (by rfl) (by kernel_rfl) fun β g eff hd F heff hhd hg hF => ?_
  cbv
  repeat' (first | (refine call0 hg (laws_toSpace_a (⟨a1, a2⟩ : GSpace)) rfl rfl ?_; cbv) | (refine call0 hg (laws_toSpace_a (⟨a3, a4⟩ : GSpace)) rfl rfl ?_; cbv))
  refine callT0 hg c6 (dwA_same rfl) (fun lo res h1 h2 h3 ⟨b9, hres, hn⟩ => ?_)
  subst hres
  cbv
  exact finT0 hF rfl ⟨⟨b9, rfl, hn.mono h1⟩, rfl, rfl⟩
set_option maxHeartbeats 8000000 in
theorem laws_toMemoS_t (xs : List NMemo) (hl : xs.length ≤ 1048576) (hs : ∀ y ∈ xs, y.small) : TCon Tryz.prog 81 [.c (.view (vwA NMemo.ac xs))] fun lo res rows => (∃ bs, res = .t (.c (.fv bs (vwA NMemo.ac xs))) ∧ NewB lo bs) ∧ plainV res = true ∧ rows = [] := by
  obtain ⟨V, hV⟩ : ∃ V, V = vwA NMemo.ac xs := ⟨_, rfl⟩
  have hVl : V.length = xs.length := by rw [hV, vwA_length]
  have hVx : lenI V = (xs.length : Int) := by rw [lenI_eq]; omega
  have hV1 : lenI V ≤ 1048576 := by omega
  rw [← hV]
  refine tcon_run ([]) ([]) (c := body Tryz.f81) fits Tryz.func81 (by kernel_rfl) (by kernel_rfl) (by rfl) (by kernel_rfl) fun β g eff hd F heff hhd hg hF => ?_
  cbv
  refine goMk hg (by decide) (by rw [hVl]; exact hl) ?_
  cbv
  have hst : FillT 10 V (List.replicate (g .ln V).toNat [.imm (.int .i64 0), .imm (.int .i64 0), .imm (.int .i64 0), .imm (.int .i64 0), .imm (.int .i64 0), .imm (.bool false), .imm (.int .i64 0), .imm (.int .i64 0), .imm (.int .i64 0), .imm (.slice none 0 0)]) 0 β.lo := FillT.start rfl rfl (goLn hg V)
  refine loop_runW4 [] [] heff hhd hg fits (by kernel_rfl) (fun s : Int × List (List AC) => [(0, .t (.c (.view V))), (3, .t (.c (.own 0))), (4, .t (ai s.1))]) (fun s => [.rw ⟨166, 10, s.2⟩]) (fun s => FillT 10 V s.2 s.1 β.lo) (fun s => (lenI V).toNat - s.1.toNat)
    (0, g .rp (g .ln V) [.imm (.int .i64 0), .imm (.int .i64 0), .imm (.int .i64 0), .imm (.int .i64 0), .imm (.int .i64 0), .imm (.bool false), .imm (.int .i64 0), .imm (.int .i64 0), .imm (.int .i64 0), .imm (.slice none 0 0)]) ?_ (Wk.weak (wkS [0] (by decide) ⟨⟨_, rfl, rfl, ?_⟩, trivial⟩ ⟨rfl, rfl, rfl, trivial⟩)) (fun s B hs' hB => ?_)
  · simp only [goRp hg]; exact hst
  · simp only [goRp hg]; exact bare_plainE hst.bare
  · obtain ⟨z, es⟩ := s
    simp only at hs'
    have h0 := hs'.z0
    have h1 := hs'.z1
    have hlen := hs'.len
    cbv
    cases hc : g .q .lss z (g .ln V)
    · cbv
      rw [goLss hg, goLn hg, decide_eq_false_iff_not] at hc
      have hall := hs'.all hc
      refine finTS hF fun bl hbl => ⟨[.c (.fv (hd1 (bl 0) es ++ fpE es) V)], .c (by have := ress_bareRow (bl := bl) (h := toH [.rw ⟨166, 10, es⟩]) (r := 0) (ab := ⟨166, 10, es⟩) rfl hs'.bare; rw [hall] at this; exact this) .nil, ⟨_, rfl, blk_row hbl (r := 0) (ab := ⟨_, _, es⟩) rfl hs'.new⟩, rfl, rfl⟩
    · cbv
      rw [goLss hg, goLn hg, decide_eq_true_eq] at hc
      obtain ⟨x, hx⟩ := at_z (xs := xs) h0 (lt_viaN hVx hc)
      have hsx := hs x (List.mem_of_getElem? hx)
      have hyy : V[z.toNat]? = some x.ac := by rw [hV]; exact vwA_at hx
      have cx := laws_toMemo_t x hsx
      obtain ⟨a0, ⟨a1, a2⟩, ⟨a3, a4⟩, a5, ⟨a6, a7, a8, a9⟩⟩ := x
      replace hyy : V[z.toNat]? = some [.imm (.int .i64 a0), .imm (.int .i64 a1), .imm (.int .i64 a2), .imm (.int .i64 a3), .imm (.int .i64 a4), .imm (.bool a5), .imm (.int .i64 a6), .imm (.int .i64 a7), .imm (.int .i64 a8), .view (vw GFrame.c a9)] := hyy
      replace cx : TCon _ _ [.agg [.imm (.int .i64 a0), .imm (.int .i64 a1), .imm (.int .i64 a2), .imm (.int .i64 a3), .imm (.int .i64 a4), .imm (.bool a5), .imm (.int .i64 a6), .imm (.int .i64 a7), .imm (.int .i64 a8), .view (vw GFrame.c a9)]] (fun lo res rows => (∃ b9, res = .t (.agg [.imm (.int .i64 a0), .imm (.int .i64 a1), .imm (.int .i64 a2), .imm (.int .i64 a3), .imm (.int .i64 a4), .imm (.bool a5), .imm (.int .i64 a6), .imm (.int .i64 a7), .imm (.int .i64 a8), .fv b9 (vw GFrame.c a9)]) ∧ NewB lo b9) ∧ plainV res = true ∧ rows = []) := cx
      obtain ⟨Va9, hVa9⟩ : ∃ V, V = vw GFrame.c a9 := ⟨_, rfl⟩
      rw [← hVa9] at hyy cx
      refine goX hg _ h0 hyy rfl ?_
      cbv
      refine callT0 hg cx (dwA_same rfl) (fun lo res q1 q2 q3 ⟨b9, hres, hn⟩ => ?_)
      subst hres
      have hlt : ∀ b ∈ fpE es, b < lo := fun b hb => q2 b (List.mem_append_left _ hb)
      clear q2 q3
      cbv
      obtain ⟨j, hj⟩ : ∃ j, j = z.toNat := ⟨_, rfl⟩
      refine goYt hg h0 hj (lt_lenJ h0 (lt_eqI hlen hc) hj) ?_
      cbv
      refine goN hg (hs'.mem (lt_lenJ h0 (lt_eqI hlen hc) hj)) ?_
      cbv
      have h2 : g .w .add .i64 z 1 = z + 1 := by rw [goAdd hg, wrap_small _ (by omega)]
      rw [h2, goSt hg]
      have hs2 := hs'.step (y := [.imm (.int .i64 a0), .imm (.int .i64 a1), .imm (.int .i64 a2), .imm (.int .i64 a3), .imm (.int .i64 a4), .imm (.bool a5), .imm (.int .i64 a6), .imm (.int .i64 a7), .imm (.int .i64 a8), .fv b9 Va9]) hc hj hyy rfl rfl rfl q1 (by simpa [fpL, fpC] using hn) hlt
      rw [hB]
      exact ⟨(z + 1, _), hs2, by show (lenI V).toNat - (z + 1).toNat < (lenI V).toNat - z.toNat; omega, Wk.weak (wkS [0] (by decide) ⟨⟨_, rfl, rfl, bare_plainE hs2.bare⟩, trivial⟩ ⟨rfl, rfl, rfl, trivial⟩)⟩
set_option maxHeartbeats 8000000 in
theorem laws_toKept_t (x : NKept) (hs : x.small) : TCon Tryz.prog 37 [.agg x.ac] fun lo res rows => (∃ b0 b1, res = .t (.agg [.fv b0 (vwA NMemo.ac x.memos), .fv b1 (vw GAsked.c x.asked)]) ∧ NewB lo (b0 ++ b1)) ∧ plainV res = true ∧ rows = [] := by
  obtain ⟨a0, a1⟩ := x
  obtain ⟨sa0, ua0, sa1, -⟩ := hs
  show TCon _ _ [.agg [.view (vwA NMemo.ac a0), .view (vw GAsked.c a1)]] (fun lo res rows => (∃ b0 b1, res = .t (.agg [.fv b0 (vwA NMemo.ac a0), .fv b1 (vw GAsked.c a1)]) ∧ NewB lo (b0 ++ b1)) ∧ plainV res = true ∧ rows = [])
  have c0 := laws_toMemoS_t a0 sa0 ua0
  have c1 := toRow (laws_toAskedS_a a1 sa1)
  obtain ⟨Va0, hVa0⟩ : ∃ V, V = vwA NMemo.ac a0 := ⟨_, rfl⟩
  obtain ⟨Va1, hVa1⟩ : ∃ Va1, Va1 = vw GAsked.c a1 := ⟨_, rfl⟩
  have hVa1l : Va1.length = a1.length := by rw [hVa1, vw_length]
  have iVa1 : immE Va1 = true := by rw [hVa1]; exact vw_imm _ _
  have kVa1 : ∀ y ∈ Va1, y.length = 6 := by rw [hVa1]; exact vw_k (c := GAsked.c) (k := 6) fun _ => rfl
  have dVa1 : ∀ y ∈ Va1, y.all dat = true := by rw [hVa1]; exact vw_dat
  rw [← hVa0] at c0
  rw [← hVa1] at c1
  rw [← hVa0, ← hVa1]
  refine tcon_run ([]) ([]) (c := body Tryz.f37) fits Tryz.func37 (by kernel_rfl) (by kernel_rfl) (by rfl) (by kernel_rfl) fun β g eff hd F heff hhd hg hF => ?_
  cbv
  refine callT0 hg c0 (dwA_same rfl) (fun lo res q1 q2 q3 ⟨b0, hres, hn⟩ => ?_)
  subst hres
  clear q2 q3
  cbv
  refine callRow hg c1 (dat_data rfl) iVa1 ?_
  cbv
  refine finTS hF fun bl hbl => ⟨[.agg [.fv b0 Va0, .fv (hd1 (bl 3) Va1) Va1]], .agg (.cons (.fv _ _) (.cons (ress_immRow (r := 3) (ab := ⟨_, _, Va1⟩) rfl iVa1) .nil)) .nil, ⟨_, _, rfl, blk_tail hbl (r := 3) (ab := ⟨_, _, Va1⟩) rfl (List.mem_singleton.2 rfl) (ps := b0) (ys := Va0) (List.mem_cons_self ..) (hn.mono q1)⟩, rfl, rfl⟩
structure Grow (G es : List (List AC)) (z : Int) : Prop where
  z0 : 0 ≤ z
  z1 : z ≤ lenI G
  eq : es = G.take z.toNat
theorem Grow.start (G : List (List AC)) : Grow G [] 0 := ⟨Int.le_refl 0, by rw [lenI_eq]; omega, by simp⟩
theorem Grow.step {G es : List (List AC)} {z : Int} {y : List AC} (h : Grow G es z) (hy : G[z.toNat]? = some y) : Grow G (es ++ [y]) (z + 1) := by
  have h0 := h.z0
  have hl := (List.getElem?_eq_some_iff.1 hy).1
  refine ⟨by omega, by rw [lenI_eq]; omega, ?_⟩
  rw [show (z + 1).toNat = z.toNat + 1 by omega, List.take_add_one, hy, h.eq]
  rfl
theorem Grow.done {G es : List (List AC)} {z : Int} (h : Grow G es z) (hz : ¬ z < lenI G) : es = G := by
  rw [lenI_eq] at hz
  rw [h.eq, List.take_of_length_le (by omega)]
theorem Grow.len {G es : List (List AC)} {z : Int} (h : Grow G es z) : es.length ≤ G.length := by rw [h.eq]; simp; omega
theorem Grow.plain {G es : List (List AC)} {z : Int} (h : Grow G es z) (hp : plainE G = true) : plainE es = true := by
  rw [h.eq, plainE, List.all_eq_true]
  intro x hx
  exact List.all_eq_true.1 hp x (List.mem_of_mem_take hx)
section
variable {P : Program} {n0 N : Nat} {g : Gd}
theorem goYj (hg : g = G0 P n0 N) {xs : List (List AC)} {z : Int} {j k : Nat} {K : Nat → Prop} (hz : 0 ≤ z) (hj : j = z.toNat) (hy : j < xs.length) (hK : K j) : g .Y k xs z K := by subst hg hj; exact ⟨hz, hy, hK⟩
theorem lt_lenI {es : List (List AC)} {z : Int} {j : Nat} (h0 : 0 ≤ z) (hc : z < lenI es) (hj : j = z.toNat) : j < es.length := by subst hj; rw [lenI_eq] at hc; omega
theorem wk1 {T : Nat → AV} {h h' : AH} {l' : List (Nat × AV)} (hs : selOk h [0] h') (hk : rnK [some 0] h' T l') : Wk 1 T h l' h' [some 0] := by
  match h', hs with
  | [e], hs =>
    have h1 := selOk_rnH (h' := [e]) [0] [e] [] hs
    obtain ⟨⟨ab, h2, rfl, h3⟩, _⟩ := hs
    refine ⟨Nat.le_refl _, fun i hi hg => ?_, by simp, ?_, hk⟩
    · obtain rfl : i = 0 := by omega
      rw [h2] at hg; cases hg
    · simp only [rnH, List.getElem?_cons_zero, h2]
      exact ⟨fun _ => by first | trivial | rfl, ⟨by first | trivial | rfl, by first | trivial | rfl, .inl ⟨by first | trivial | rfl, h3⟩⟩, trivial⟩
theorem loop_run1 {tab : List (TypeId × TI)} (hg : g = G0 P 1 N) (hfit : Fits P tab) {S : Type} {c : Code} {Q : Exit → List (Nat × AV) → EH → Prop} {l : List (Nat × AV)} {h : EH} (hok : codeOk N c = true) (Tf : S → List (Nat × AV)) (hf : S → EH) (ok : S → Prop) (μ : S → Nat) (s0 : S) (ρ0 : List (Option Nat)) (h0 : ok s0)
    (hw : Wk 1 (lkT l) (toH h) (Tf s0) (toH (hf s0)) ρ0)
    (hb : ∀ (s : S) (B : List (Nat × AV) → EH → Prop), ok s → B = (fun l' h' => ∃ s' ρ, ok s' ∧ μ s' < μ s ∧ Wk 1 (lkT l') (toH h') (Tf s') (toH (hf s')) ρ) → runC g tab c (fun e l h => match e with | .normal => B l h | e => Q e l h) (Tf s) (hf s)) : g .L c Q l h :=
  loop_run hg hfit hok Tf hf ok μ s0 ρ0 h0 hw hb
theorem back1 {S : Type} {ok : S → Prop} {μ : S → Nat} {s : S} {Tf : S → List (Nat × AV)} {hf : S → EH} {B : List (Nat × AV) → EH → Prop} {l : List (Nat × AV)} {h : EH}
    (hB : B = fun l' h' => ∃ s' ρ, ok s' ∧ μ s' < μ s ∧ Wk 1 (lkT l') (toH h') (Tf s') (toH (hf s')) ρ) (s' : S) (ρ : List (Option Nat)) (hw : Wk 1 (lkT l) (toH h) (Tf s') (toH (hf s')) ρ) (h1 : ok s') (h2 : μ s' < μ s) : B l h := by
  subst hB; exact ⟨s', ρ, h1, h2, hw⟩
theorem finH1 {F : List AT → EH → Prop} {Post : AV → AH → Prop} {x : AC} {ab : AB} (hF : F = FinP 1 Post) (hp : plainE ab.es = true) (hpost : Post (.t (.c x)) (toH [.rw ab])) (hx : plain x = true := by rfl) : F [.c x] [.rw ab] := by
  subst hF
  refine .inl ⟨.t (.c x), toH [.rw ab], [some 0], ?_, hpost⟩
  exact wk1 (h := toH [.rw ab]) ⟨⟨ab, rfl, rfl, hp⟩, trivial⟩ ⟨rnV_plain (x := .t (.c x)) hx, trivial⟩
end
def marksFrame (k0 : Int) (n : Nat) : List GFrame := (List.range n).map fun i : Nat => ⟨(k0 + 5 * (i : Int)), (k0 + 5 * (i : Int)) + 1, (k0 + 5 * (i : Int)) + 2, (k0 + 5 * (i : Int)) + 3, (k0 + 5 * (i : Int)) + 4⟩
theorem marksFrame_at {k0 z kc : Int} {n : Nat} {M : Int} (hM : M = (n : Int)) (h0 : 0 ≤ z) (h1 : z < M) (hk : kc = k0 + 5 * z) : (vw GFrame.c (marksFrame k0 n))[z.toNat]? = some ([.imm (.int .i64 kc), .imm (.int .i64 (kc + 1)), .imm (.int .i64 (kc + 2)), .imm (.int .i64 (kc + 3)), .imm (.int .i64 (kc + 4))]) := by
  subst hk
  have hz : z.toNat < n := by rw [hM] at h1; omega
  refine (vw_at (x := ⟨(k0 + 5 * z), (k0 + 5 * z) + 1, (k0 + 5 * z) + 2, (k0 + 5 * z) + 3, (k0 + 5 * z) + 4⟩) ?_).trans rfl
  rw [marksFrame, List.getElem?_map, List.getElem?_range hz, Option.map_some, Int.toNat_of_nonneg h0]
set_option maxHeartbeats 1600000 in
theorem laws_markFrameS_a (k0 : Int) (es : List (List AC)) (hk : ∀ e ∈ es, e.length = 5) (hp : plainE es = true) (hl : es.length ≤ 1048576) (hk0 : 0 ≤ k0) (hk1 : k0 ≤ 1152921504606846976) (ty : TypeId := 128) :
    Con Tryz.prog 49 (toH [.rw ⟨ty, 5, es⟩]) [.c (.own 0), ai k0] fun res h' => ∃ eh, toH eh = h' ∧ (res = .t (ai (k0 + 5 * lenI es)) ∧ eh = [.rw ⟨ty, 5, vw GFrame.c (marksFrame k0 es.length)⟩]) := by
  obtain ⟨V, hV⟩ : ∃ V, V = vw GFrame.c (marksFrame k0 es.length) := ⟨_, rfl⟩
  have hVl : V.length = es.length := by rw [hV, vw_length, marksFrame]; simp
  have hVe : lenI V = lenI es := by rw [lenI_eq, lenI_eq, hVl]
  have hV20 : lenI V ≤ 1048576 := by rw [lenI_eq]; omega
  have pV : plainE V = true := by rw [hV]; exact vw_plain _ _
  have hV0 : 0 ≤ lenI V := by rw [lenI_eq]; omega
  have hVn : lenI V = (es.length : Int) := by rw [hVe, lenI_eq]
  have hst : Fill 5 V es 0 := ⟨Int.le_refl 0, hV0, hVl.symm, hk, hp, fun i hi => by simp at hi⟩
  rw [← hV, ← hVe]
  refine con_run (c := body Tryz.f49) fits Tryz.func49 (by kernel_rfl) (by kernel_rfl) (bl (by rfl)) (by kernel_rfl) fun g F hg hF => ?_
  cbv
  refine loop_run1 hg fits (by kernel_rfl) (fun s : Int × Int × List (List AC) => [(0, .t (.c (.own 0))), (1, .t (ai s.2.1)), (5, .t (ai s.1))]) (fun s => [.rw ⟨ty, 5, s.2.2⟩]) (fun s => Fill 5 V s.2.2 s.1 ∧ s.2.1 = k0 + 5 * s.1) (fun s => (lenI V).toNat - s.1.toNat)
    (0, k0, es) [some 0] ⟨hst, by simp only; omega⟩ (wk1 ⟨⟨_, rfl, rfl, hp⟩, trivial⟩ ⟨rfl, rfl, rfl, trivial⟩) (fun s B hs hB => ?_)
  obtain ⟨z, kc, E⟩ := s
  obtain ⟨hs, hkc⟩ := hs
  simp only at hs hkc
  have h0 := hs.z0
  have h1 := hs.z1
  have hEl := hs.len
  have hEV : lenI E = lenI V := by rw [lenI_eq, lenI_eq, hs.len]
  cbv
  cases hc : g .q .lss z (g .ln E)
  · rw [goLss hg, goLn hg, hEV, decide_eq_false_iff_not] at hc
    cbv
    obtain rfl := hs.done hc
    refine finH1 hF pV ⟨_, rfl, ?_, rfl⟩
    show AV.t (ai kc) = _
    rw [show kc = k0 + 5 * lenI E by omega]
  · rw [goLss hg, goLn hg, hEV, decide_eq_true_eq] at hc
    cbv
    obtain ⟨j, hj⟩ : ∃ j, j = z.toNat := ⟨_, rfl⟩
    have hjl : j < E.length := lt_lenI h0 (by rw [hEV]; exact hc) hj
    obtain ⟨e, he, hel⟩ := hs.mem hjl
    have hpe : e.all plain = true := List.all_eq_true.1 hs.pl e (List.mem_of_getElem? he)
    obtain ⟨b0, b1, b2, b3, b4, rfl⟩ : ∃ b0 b1 b2 b3 b4, e = [b0, b1, b2, b3, b4] := by
      match e, hel with
      | [b0, b1, b2, b3, b4], _ => exact ⟨b0, b1, b2, b3, b4, rfl⟩
    have hy := marksFrame_at hVn h0 hc hkc
    rw [← hV] at hy
    obtain ⟨E0, hE0⟩ : ∃ E0, E0 = E := ⟨_, rfl⟩
    have l0 : j < E0.length := by rw [hE0]; exact hjl
    have h0_ := he
    rw [← hE0] at h0_ ⊢
    obtain ⟨q0, hq0⟩ : ∃ q, q = kc + 1 := ⟨_, rfl⟩
    obtain ⟨q1, hq1⟩ : ∃ q, q = kc + 2 := ⟨_, rfl⟩
    obtain ⟨q2, hq2⟩ : ∃ q, q = kc + 3 := ⟨_, rfl⟩
    obtain ⟨q3, hq3⟩ : ∃ q, q = kc + 4 := ⟨_, rfl⟩
    obtain ⟨q4, hq4⟩ : ∃ q, q = kc + 5 := ⟨_, rfl⟩
    have e0 : g .w .add .i64 kc 1 = q0 := by rw [goAdd hg, wrap_small _ (by omega)]; omega
    have e1 : g .w .add .i64 q0 1 = q1 := by rw [goAdd hg, wrap_small _ (by omega)]; omega
    have e2 : g .w .add .i64 q1 1 = q2 := by rw [goAdd hg, wrap_small _ (by omega)]; omega
    have e3 : g .w .add .i64 q2 1 = q3 := by rw [goAdd hg, wrap_small _ (by omega)]; omega
    have e4 : g .w .add .i64 q3 1 = q4 := by rw [goAdd hg, wrap_small _ (by omega)]; omega
    refine goYj hg h0 hj l0 ?_
    cbv
    refine ⟨[b0, b1, b2, b3, b4], h0_, ?_⟩
    cbv
    generalize hG1 : g .st _ _ _ = E1
    have hE1 : E1 = g .st E0 j [.imm (.int .i64 kc), b1, b2, b3, b4] := hG1.symm
    have h1_ : E1[j]? = some [.imm (.int .i64 kc), b1, b2, b3, b4] := by rw [hE1, goSt hg]; exact List.getElem?_set_self l0
    have l1 : j < E1.length := (List.getElem?_eq_some_iff.1 h1_).1
    try rw [e0]
    cbv
    refine goYj hg h0 hj l1 ?_
    cbv
    refine ⟨[.imm (.int .i64 kc), b1, b2, b3, b4], h1_, ?_⟩
    cbv
    generalize hG2 : g .st _ _ _ = E2
    have hE2 : E2 = g .st E1 j [.imm (.int .i64 kc), .imm (.int .i64 q0), b2, b3, b4] := hG2.symm
    have h2_ : E2[j]? = some [.imm (.int .i64 kc), .imm (.int .i64 q0), b2, b3, b4] := by rw [hE2, goSt hg]; exact List.getElem?_set_self l1
    have l2 : j < E2.length := (List.getElem?_eq_some_iff.1 h2_).1
    try rw [e1]
    cbv
    refine goYj hg h0 hj l2 ?_
    cbv
    refine ⟨[.imm (.int .i64 kc), .imm (.int .i64 q0), b2, b3, b4], h2_, ?_⟩
    cbv
    generalize hG3 : g .st _ _ _ = E3
    have hE3 : E3 = g .st E2 j [.imm (.int .i64 kc), .imm (.int .i64 q0), .imm (.int .i64 q1), b3, b4] := hG3.symm
    have h3_ : E3[j]? = some [.imm (.int .i64 kc), .imm (.int .i64 q0), .imm (.int .i64 q1), b3, b4] := by rw [hE3, goSt hg]; exact List.getElem?_set_self l2
    have l3 : j < E3.length := (List.getElem?_eq_some_iff.1 h3_).1
    try rw [e2]
    cbv
    refine goYj hg h0 hj l3 ?_
    cbv
    refine ⟨[.imm (.int .i64 kc), .imm (.int .i64 q0), .imm (.int .i64 q1), b3, b4], h3_, ?_⟩
    cbv
    generalize hG4 : g .st _ _ _ = E4
    have hE4 : E4 = g .st E3 j [.imm (.int .i64 kc), .imm (.int .i64 q0), .imm (.int .i64 q1), .imm (.int .i64 q2), b4] := hG4.symm
    have h4_ : E4[j]? = some [.imm (.int .i64 kc), .imm (.int .i64 q0), .imm (.int .i64 q1), .imm (.int .i64 q2), b4] := by rw [hE4, goSt hg]; exact List.getElem?_set_self l3
    have l4 : j < E4.length := (List.getElem?_eq_some_iff.1 h4_).1
    try rw [e3]
    cbv
    refine goYj hg h0 hj l4 ?_
    cbv
    refine ⟨[.imm (.int .i64 kc), .imm (.int .i64 q0), .imm (.int .i64 q1), .imm (.int .i64 q2), b4], h4_, ?_⟩
    cbv
    generalize hG5 : g .st _ _ _ = E5
    have hE5 : E5 = g .st E4 j [.imm (.int .i64 kc), .imm (.int .i64 q0), .imm (.int .i64 q1), .imm (.int .i64 q2), .imm (.int .i64 q3)] := hG5.symm
    have h5_ : E5[j]? = some [.imm (.int .i64 kc), .imm (.int .i64 q0), .imm (.int .i64 q1), .imm (.int .i64 q2), .imm (.int .i64 q3)] := by rw [hE5, goSt hg]; exact List.getElem?_set_self l4
    have l5 : j < E5.length := (List.getElem?_eq_some_iff.1 h5_).1
    try rw [e4]
    cbv
    have ez : g .w .add .i64 z 1 = z + 1 := by rw [goAdd hg, wrap_small _ (by omega)]
    rw [ez]
    have hfin : E5 = E.set j [.imm (.int .i64 kc), .imm (.int .i64 q0), .imm (.int .i64 q1), .imm (.int .i64 q2), .imm (.int .i64 q3)] := by rw [hE5, hE4, hE3, hE2, hE1, hE0]; simp only [goSt hg, List.set_set]
    rw [hfin]
    have hs' := hs.step hc hj hy rfl rfl
    subst hq0 hq1 hq2 hq3
    exact back1 hB (z + 1, q4, _) [some 0] (wk1 ⟨⟨_, rfl, rfl, hs'.pl⟩, trivial⟩ ⟨rfl, rfl, rfl, trivial⟩) ⟨hs', by simp only; omega⟩ (by show (lenI V).toNat - (z + 1).toNat < (lenI V).toNat - z.toNat; omega)
set_option maxHeartbeats 1600000 in
theorem laws_heldFrameS_a (k0 : Int) (n : Nat) (hl : n ≤ 1048576) (hk0 : 0 ≤ k0) (hk1 : k0 ≤ 1152921504606846976) : PCon Tryz.prog 52 [.c (.view (vw GFrame.c (marksFrame k0 n))), ai k0] fun res rows => res = .t (ai (k0 + 5 * (n : Int))) ∧ rows = [] := by
  obtain ⟨V, hV⟩ : ∃ V, V = vw GFrame.c (marksFrame k0 n) := ⟨_, rfl⟩
  have hVl : V.length = n := by rw [hV, vw_length, marksFrame]; simp
  obtain ⟨M, hM⟩ : ∃ M : Int, M = (n : Int) := ⟨_, rfl⟩
  have hVe : lenI V = M := by rw [lenI_eq, hVl, hM]
  have hM1 : M ≤ 1048576 := by omega
  have hM0 : 0 ≤ M := by omega
  rw [← hV, ← hM]
  refine pcon_run (c := body Tryz.f52) fits Tryz.func52 (by kernel_rfl) (by kernel_rfl) (by rfl) (by kernel_rfl) fun g F hg hF => ?_
  cbv
  refine loop_run hg fits (by kernel_rfl) (fun s : Int × Int => [(0, .t (.c (.view V))), (1, .t (ai s.2)), (5, .t (ai s.1))]) (fun _ => []) (fun s => 0 ≤ s.1 ∧ s.1 ≤ M ∧ s.2 = k0 + 5 * s.1) (fun s => M.toNat - s.1.toNat)
    (0, k0) [] ⟨Int.le_refl 0, hM0, by simp only; omega⟩ (wk0 ⟨rfl, rfl, rfl, trivial⟩) (fun s B hs hB => ?_)
  obtain ⟨z, kc⟩ := s
  obtain ⟨h0, h1, h2⟩ := hs
  simp only at h0 h1 h2
  cbv
  cases hc : g .q .lss z (g .ln V)
  · rw [goLss hg, goLn hg, hVe, decide_eq_false_iff_not] at hc
    cbv
    exact fin0i hF (by rw [h2, show z = M by omega])
  · rw [goLss hg, goLn hg, hVe, decide_eq_true_eq] at hc
    cbv
    have hy := marksFrame_at hM h0 hc h2
    rw [← hV] at hy
    obtain ⟨q0, hq0⟩ : ∃ q, q = kc + 1 := ⟨_, rfl⟩
    obtain ⟨q1, hq1⟩ : ∃ q, q = kc + 2 := ⟨_, rfl⟩
    obtain ⟨q2, hq2⟩ : ∃ q, q = kc + 3 := ⟨_, rfl⟩
    obtain ⟨q3, hq3⟩ : ∃ q, q = kc + 4 := ⟨_, rfl⟩
    obtain ⟨q4, hq4⟩ : ∃ q, q = kc + 5 := ⟨_, rfl⟩
    have e0 : g .w .add .i64 kc 1 = q0 := by rw [goAdd hg, wrap_small _ (by omega)]; omega
    have n0 : g .q .neq kc kc = false := by rw [goNeq hg]; simp
    have e1 : g .w .add .i64 q0 1 = q1 := by rw [goAdd hg, wrap_small _ (by omega)]; omega
    have n1 : g .q .neq q0 q0 = false := by rw [goNeq hg]; simp
    have e2 : g .w .add .i64 q1 1 = q2 := by rw [goAdd hg, wrap_small _ (by omega)]; omega
    have n2 : g .q .neq q1 q1 = false := by rw [goNeq hg]; simp
    have e3 : g .w .add .i64 q2 1 = q3 := by rw [goAdd hg, wrap_small _ (by omega)]; omega
    have n3 : g .q .neq q2 q2 = false := by rw [goNeq hg]; simp
    have e4 : g .w .add .i64 q3 1 = q4 := by rw [goAdd hg, wrap_small _ (by omega)]; omega
    have n4 : g .q .neq q3 q3 = false := by rw [goNeq hg]; simp
    rw [← hq0, ← hq1, ← hq2, ← hq3] at hy
    refine goX hg _ h0 hy rfl ?_
    cbv
    rw [n0]
    cbv
    rw [e0]
    cbv
    refine goX hg _ h0 hy rfl ?_
    cbv
    rw [n1]
    cbv
    rw [e1]
    cbv
    refine goX hg _ h0 hy rfl ?_
    cbv
    rw [n2]
    cbv
    rw [e2]
    cbv
    refine goX hg _ h0 hy rfl ?_
    cbv
    rw [n3]
    cbv
    rw [e3]
    cbv
    refine goX hg _ h0 hy rfl ?_
    cbv
    rw [n4]
    cbv
    rw [e4]
    have ez : g .w .add .i64 z 1 = z + 1 := by rw [goAdd hg, wrap_small _ (by omega)]
    rw [ez]
    exact back hB (z + 1, q4) [] (wk0 ⟨rfl, rfl, rfl, trivial⟩) ⟨by simp only; omega, by simp only; omega, by simp only; omega⟩ (by show M.toNat - (z + 1).toNat < M.toNat - z.toNat; omega)
def marksInt (k0 : Int) (n : Nat) : List Int := (List.range n).map fun i : Nat => k0 + (i : Int)
theorem marksInt_at {k0 z kc : Int} {n : Nat} {M : Int} (hM : M = (n : Int)) (h0 : 0 ≤ z) (h1 : z < M) (hk : kc = k0 + 1 * z) : (vw intC (marksInt k0 n))[z.toNat]? = some ([.imm (.int .i64 kc)]) := by
  subst hk
  have hz : z.toNat < n := by rw [hM] at h1; omega
  refine (vw_at (x := k0 + z) ?_).trans (by simp [lc, intC])
  rw [marksInt, List.getElem?_map, List.getElem?_range hz, Option.map_some, Int.toNat_of_nonneg h0]
set_option maxHeartbeats 1600000 in
theorem laws_markIntS_a (k0 : Int) (es : List (List AC)) (hk : ∀ e ∈ es, e.length = 1) (hp : plainE es = true) (hl : es.length ≤ 1048576) (hk0 : 0 ≤ k0) (hk1 : k0 ≤ 1152921504606846976) (ty : TypeId := 3) :
    Con Tryz.prog 129 (toH [.rw ⟨ty, 1, es⟩]) [.c (.own 0), ai k0] fun res h' => ∃ eh, toH eh = h' ∧ (res = .t (ai (k0 + 1 * lenI es)) ∧ eh = [.rw ⟨ty, 1, vw intC (marksInt k0 es.length)⟩]) := by
  obtain ⟨V, hV⟩ : ∃ V, V = vw intC (marksInt k0 es.length) := ⟨_, rfl⟩
  have hVl : V.length = es.length := by rw [hV, vw_length, marksInt]; simp
  have hVe : lenI V = lenI es := by rw [lenI_eq, lenI_eq, hVl]
  have hV20 : lenI V ≤ 1048576 := by rw [lenI_eq]; omega
  have pV : plainE V = true := by rw [hV]; exact vw_plain _ _
  have hV0 : 0 ≤ lenI V := by rw [lenI_eq]; omega
  have hVn : lenI V = (es.length : Int) := by rw [hVe, lenI_eq]
  have hst : Fill 1 V es 0 := ⟨Int.le_refl 0, hV0, hVl.symm, hk, hp, fun i hi => by simp at hi⟩
  rw [← hV, ← hVe]
  refine con_run (c := body Tryz.f129) fits Tryz.func129 (by kernel_rfl) (by kernel_rfl) (bl (by rfl)) (by kernel_rfl) fun g F hg hF => ?_
  cbv
  refine loop_run1 hg fits (by kernel_rfl) (fun s : Int × Int × List (List AC) => [(0, .t (.c (.own 0))), (1, .t (ai s.2.1)), (5, .t (ai s.1))]) (fun s => [.rw ⟨ty, 1, s.2.2⟩]) (fun s => Fill 1 V s.2.2 s.1 ∧ s.2.1 = k0 + 1 * s.1) (fun s => (lenI V).toNat - s.1.toNat)
    (0, k0, es) [some 0] ⟨hst, by simp only; omega⟩ (wk1 ⟨⟨_, rfl, rfl, hp⟩, trivial⟩ ⟨rfl, rfl, rfl, trivial⟩) (fun s B hs hB => ?_)
  obtain ⟨z, kc, E⟩ := s
  obtain ⟨hs, hkc⟩ := hs
  simp only at hs hkc
  have h0 := hs.z0
  have h1 := hs.z1
  have hEl := hs.len
  have hEV : lenI E = lenI V := by rw [lenI_eq, lenI_eq, hs.len]
  cbv
  cases hc : g .q .lss z (g .ln E)
  · rw [goLss hg, goLn hg, hEV, decide_eq_false_iff_not] at hc
    cbv
    obtain rfl := hs.done hc
    refine finH1 hF pV ⟨_, rfl, ?_, rfl⟩
    show AV.t (ai kc) = _
    rw [show kc = k0 + 1 * lenI E by omega]
  · rw [goLss hg, goLn hg, hEV, decide_eq_true_eq] at hc
    cbv
    obtain ⟨j, hj⟩ : ∃ j, j = z.toNat := ⟨_, rfl⟩
    have hjl : j < E.length := lt_lenI h0 (by rw [hEV]; exact hc) hj
    obtain ⟨e, he, hel⟩ := hs.mem hjl
    have hpe : e.all plain = true := List.all_eq_true.1 hs.pl e (List.mem_of_getElem? he)
    obtain ⟨b0, rfl⟩ : ∃ b0, e = [b0] := by
      match e, hel with
      | [b0], _ => exact ⟨b0, rfl⟩
    have hy := marksInt_at hVn h0 hc hkc
    rw [← hV] at hy
    obtain ⟨q0, hq0⟩ : ∃ q, q = kc + 1 := ⟨_, rfl⟩
    have e0 : g .w .add .i64 kc 1 = q0 := by rw [goAdd hg, wrap_small _ (by omega)]; omega
    refine goYj hg h0 hj hjl ?_
    cbv
    refine goN hg ⟨_, he, rfl⟩ ?_
    cbv
    rw [goSt hg]
    rw [e0]
    have ez : g .w .add .i64 z 1 = z + 1 := by rw [goAdd hg, wrap_small _ (by omega)]
    rw [ez]
    have hs' := hs.step hc hj hy rfl rfl
    exact back1 hB (z + 1, q0, _) [some 0] (wk1 ⟨⟨_, rfl, rfl, hs'.pl⟩, trivial⟩ ⟨rfl, rfl, rfl, trivial⟩) ⟨hs', by simp only; omega⟩ (by show (lenI V).toNat - (z + 1).toNat < (lenI V).toNat - z.toNat; omega)
set_option maxHeartbeats 1600000 in
theorem laws_heldIntS_a (k0 : Int) (n : Nat) (hl : n ≤ 1048576) (hk0 : 0 ≤ k0) (hk1 : k0 ≤ 1152921504606846976) : PCon Tryz.prog 130 [.c (.view (vw intC (marksInt k0 n))), ai k0] fun res rows => res = .t (ai (k0 + 1 * (n : Int))) ∧ rows = [] := by
  obtain ⟨V, hV⟩ : ∃ V, V = vw intC (marksInt k0 n) := ⟨_, rfl⟩
  have hVl : V.length = n := by rw [hV, vw_length, marksInt]; simp
  obtain ⟨M, hM⟩ : ∃ M : Int, M = (n : Int) := ⟨_, rfl⟩
  have hVe : lenI V = M := by rw [lenI_eq, hVl, hM]
  have hM1 : M ≤ 1048576 := by omega
  have hM0 : 0 ≤ M := by omega
  rw [← hV, ← hM]
  refine pcon_run (c := body Tryz.f130) fits Tryz.func130 (by kernel_rfl) (by kernel_rfl) (by rfl) (by kernel_rfl) fun g F hg hF => ?_
  cbv
  refine loop_run hg fits (by kernel_rfl) (fun s : Int × Int => [(0, .t (.c (.view V))), (1, .t (ai s.2)), (5, .t (ai s.1))]) (fun _ => []) (fun s => 0 ≤ s.1 ∧ s.1 ≤ M ∧ s.2 = k0 + 1 * s.1) (fun s => M.toNat - s.1.toNat)
    (0, k0) [] ⟨Int.le_refl 0, hM0, by simp only; omega⟩ (wk0 ⟨rfl, rfl, rfl, trivial⟩) (fun s B hs hB => ?_)
  obtain ⟨z, kc⟩ := s
  obtain ⟨h0, h1, h2⟩ := hs
  simp only at h0 h1 h2
  cbv
  cases hc : g .q .lss z (g .ln V)
  · rw [goLss hg, goLn hg, hVe, decide_eq_false_iff_not] at hc
    cbv
    exact fin0i hF (by rw [h2, show z = M by omega])
  · rw [goLss hg, goLn hg, hVe, decide_eq_true_eq] at hc
    cbv
    have hy := marksInt_at hM h0 hc h2
    rw [← hV] at hy
    obtain ⟨q0, hq0⟩ : ∃ q, q = kc + 1 := ⟨_, rfl⟩
    have e0 : g .w .add .i64 kc 1 = q0 := by rw [goAdd hg, wrap_small _ (by omega)]; omega
    have n0 : g .q .neq kc kc = false := by rw [goNeq hg]; simp
    refine goX hg _ h0 hy rfl ?_
    cbv
    rw [n0]
    cbv
    rw [e0]
    have ez : g .w .add .i64 z 1 = z + 1 := by rw [goAdd hg, wrap_small _ (by omega)]
    rw [ez]
    exact back hB (z + 1, q0) [] (wk0 ⟨rfl, rfl, rfl, trivial⟩) ⟨by simp only; omega, by simp only; omega, by simp only; omega⟩ (by show M.toNat - (z + 1).toNat < M.toNat - z.toNat; omega)
def marksRule (k0 : Int) (n : Nat) : List GRule := (List.range n).map fun i : Nat => ⟨(k0 + 3 * (i : Int)), (k0 + 3 * (i : Int)) + 1, (k0 + 3 * (i : Int)) + 2⟩
theorem marksRule_at {k0 z kc : Int} {n : Nat} {M : Int} (hM : M = (n : Int)) (h0 : 0 ≤ z) (h1 : z < M) (hk : kc = k0 + 3 * z) : (vw GRule.c (marksRule k0 n))[z.toNat]? = some ([.imm (.int .i64 kc), .imm (.int .i64 (kc + 1)), .imm (.int .i64 (kc + 2))]) := by
  subst hk
  have hz : z.toNat < n := by rw [hM] at h1; omega
  refine (vw_at (x := ⟨(k0 + 3 * z), (k0 + 3 * z) + 1, (k0 + 3 * z) + 2⟩) ?_).trans rfl
  rw [marksRule, List.getElem?_map, List.getElem?_range hz, Option.map_some, Int.toNat_of_nonneg h0]
set_option maxHeartbeats 1600000 in
theorem laws_markRuleS_a (k0 : Int) (es : List (List AC)) (hk : ∀ e ∈ es, e.length = 3) (hp : plainE es = true) (hl : es.length ≤ 1048576) (hk0 : 0 ≤ k0) (hk1 : k0 ≤ 1152921504606846976) (ty : TypeId := 146) :
    Con Tryz.prog 69 (toH [.rw ⟨ty, 3, es⟩]) [.c (.own 0), ai k0] fun res h' => ∃ eh, toH eh = h' ∧ (res = .t (ai (k0 + 3 * lenI es)) ∧ eh = [.rw ⟨ty, 3, vw GRule.c (marksRule k0 es.length)⟩]) := by
  obtain ⟨V, hV⟩ : ∃ V, V = vw GRule.c (marksRule k0 es.length) := ⟨_, rfl⟩
  have hVl : V.length = es.length := by rw [hV, vw_length, marksRule]; simp
  have hVe : lenI V = lenI es := by rw [lenI_eq, lenI_eq, hVl]
  have hV20 : lenI V ≤ 1048576 := by rw [lenI_eq]; omega
  have pV : plainE V = true := by rw [hV]; exact vw_plain _ _
  have hV0 : 0 ≤ lenI V := by rw [lenI_eq]; omega
  have hVn : lenI V = (es.length : Int) := by rw [hVe, lenI_eq]
  have hst : Fill 3 V es 0 := ⟨Int.le_refl 0, hV0, hVl.symm, hk, hp, fun i hi => by simp at hi⟩
  rw [← hV, ← hVe]
  refine con_run (c := body Tryz.f69) fits Tryz.func69 (by kernel_rfl) (by kernel_rfl) (bl (by rfl)) (by kernel_rfl) fun g F hg hF => ?_
  cbv
  refine loop_run1 hg fits (by kernel_rfl) (fun s : Int × Int × List (List AC) => [(0, .t (.c (.own 0))), (1, .t (ai s.2.1)), (5, .t (ai s.1))]) (fun s => [.rw ⟨ty, 3, s.2.2⟩]) (fun s => Fill 3 V s.2.2 s.1 ∧ s.2.1 = k0 + 3 * s.1) (fun s => (lenI V).toNat - s.1.toNat)
    (0, k0, es) [some 0] ⟨hst, by simp only; omega⟩ (wk1 ⟨⟨_, rfl, rfl, hp⟩, trivial⟩ ⟨rfl, rfl, rfl, trivial⟩) (fun s B hs hB => ?_)
  obtain ⟨z, kc, E⟩ := s
  obtain ⟨hs, hkc⟩ := hs
  simp only at hs hkc
  have h0 := hs.z0
  have h1 := hs.z1
  have hEl := hs.len
  have hEV : lenI E = lenI V := by rw [lenI_eq, lenI_eq, hs.len]
  cbv
  cases hc : g .q .lss z (g .ln E)
  · rw [goLss hg, goLn hg, hEV, decide_eq_false_iff_not] at hc
    cbv
    obtain rfl := hs.done hc
    refine finH1 hF pV ⟨_, rfl, ?_, rfl⟩
    show AV.t (ai kc) = _
    rw [show kc = k0 + 3 * lenI E by omega]
  · rw [goLss hg, goLn hg, hEV, decide_eq_true_eq] at hc
    cbv
    obtain ⟨j, hj⟩ : ∃ j, j = z.toNat := ⟨_, rfl⟩
    have hjl : j < E.length := lt_lenI h0 (by rw [hEV]; exact hc) hj
    obtain ⟨e, he, hel⟩ := hs.mem hjl
    have hpe : e.all plain = true := List.all_eq_true.1 hs.pl e (List.mem_of_getElem? he)
    obtain ⟨b0, b1, b2, rfl⟩ : ∃ b0 b1 b2, e = [b0, b1, b2] := by
      match e, hel with
      | [b0, b1, b2], _ => exact ⟨b0, b1, b2, rfl⟩
    have hy := marksRule_at hVn h0 hc hkc
    rw [← hV] at hy
    obtain ⟨E0, hE0⟩ : ∃ E0, E0 = E := ⟨_, rfl⟩
    have l0 : j < E0.length := by rw [hE0]; exact hjl
    have h0_ := he
    rw [← hE0] at h0_ ⊢
    obtain ⟨q0, hq0⟩ : ∃ q, q = kc + 1 := ⟨_, rfl⟩
    obtain ⟨q1, hq1⟩ : ∃ q, q = kc + 2 := ⟨_, rfl⟩
    obtain ⟨q2, hq2⟩ : ∃ q, q = kc + 3 := ⟨_, rfl⟩
    have e0 : g .w .add .i64 kc 1 = q0 := by rw [goAdd hg, wrap_small _ (by omega)]; omega
    have e1 : g .w .add .i64 q0 1 = q1 := by rw [goAdd hg, wrap_small _ (by omega)]; omega
    have e2 : g .w .add .i64 q1 1 = q2 := by rw [goAdd hg, wrap_small _ (by omega)]; omega
    refine goYj hg h0 hj l0 ?_
    cbv
    refine ⟨[b0, b1, b2], h0_, ?_⟩
    cbv
    generalize hG1 : g .st _ _ _ = E1
    have hE1 : E1 = g .st E0 j [.imm (.int .i64 kc), b1, b2] := hG1.symm
    have h1_ : E1[j]? = some [.imm (.int .i64 kc), b1, b2] := by rw [hE1, goSt hg]; exact List.getElem?_set_self l0
    have l1 : j < E1.length := (List.getElem?_eq_some_iff.1 h1_).1
    try rw [e0]
    cbv
    refine goYj hg h0 hj l1 ?_
    cbv
    refine ⟨[.imm (.int .i64 kc), b1, b2], h1_, ?_⟩
    cbv
    generalize hG2 : g .st _ _ _ = E2
    have hE2 : E2 = g .st E1 j [.imm (.int .i64 kc), .imm (.int .i64 q0), b2] := hG2.symm
    have h2_ : E2[j]? = some [.imm (.int .i64 kc), .imm (.int .i64 q0), b2] := by rw [hE2, goSt hg]; exact List.getElem?_set_self l1
    have l2 : j < E2.length := (List.getElem?_eq_some_iff.1 h2_).1
    try rw [e1]
    cbv
    refine goYj hg h0 hj l2 ?_
    cbv
    refine ⟨[.imm (.int .i64 kc), .imm (.int .i64 q0), b2], h2_, ?_⟩
    cbv
    generalize hG3 : g .st _ _ _ = E3
    have hE3 : E3 = g .st E2 j [.imm (.int .i64 kc), .imm (.int .i64 q0), .imm (.int .i64 q1)] := hG3.symm
    have h3_ : E3[j]? = some [.imm (.int .i64 kc), .imm (.int .i64 q0), .imm (.int .i64 q1)] := by rw [hE3, goSt hg]; exact List.getElem?_set_self l2
    have l3 : j < E3.length := (List.getElem?_eq_some_iff.1 h3_).1
    try rw [e2]
    cbv
    have ez : g .w .add .i64 z 1 = z + 1 := by rw [goAdd hg, wrap_small _ (by omega)]
    rw [ez]
    have hfin : E3 = E.set j [.imm (.int .i64 kc), .imm (.int .i64 q0), .imm (.int .i64 q1)] := by rw [hE3, hE2, hE1, hE0]; simp only [goSt hg, List.set_set]
    rw [hfin]
    have hs' := hs.step hc hj hy rfl rfl
    subst hq0 hq1
    exact back1 hB (z + 1, q2, _) [some 0] (wk1 ⟨⟨_, rfl, rfl, hs'.pl⟩, trivial⟩ ⟨rfl, rfl, rfl, trivial⟩) ⟨hs', by simp only; omega⟩ (by show (lenI V).toNat - (z + 1).toNat < (lenI V).toNat - z.toNat; omega)
set_option maxHeartbeats 1600000 in
theorem laws_heldRuleS_a (k0 : Int) (n : Nat) (hl : n ≤ 1048576) (hk0 : 0 ≤ k0) (hk1 : k0 ≤ 1152921504606846976) : PCon Tryz.prog 131 [.c (.view (vw GRule.c (marksRule k0 n))), ai k0] fun res rows => res = .t (ai (k0 + 3 * (n : Int))) ∧ rows = [] := by
  obtain ⟨V, hV⟩ : ∃ V, V = vw GRule.c (marksRule k0 n) := ⟨_, rfl⟩
  have hVl : V.length = n := by rw [hV, vw_length, marksRule]; simp
  obtain ⟨M, hM⟩ : ∃ M : Int, M = (n : Int) := ⟨_, rfl⟩
  have hVe : lenI V = M := by rw [lenI_eq, hVl, hM]
  have hM1 : M ≤ 1048576 := by omega
  have hM0 : 0 ≤ M := by omega
  rw [← hV, ← hM]
  refine pcon_run (c := body Tryz.f131) fits Tryz.func131 (by kernel_rfl) (by kernel_rfl) (by rfl) (by kernel_rfl) fun g F hg hF => ?_
  cbv
  refine loop_run hg fits (by kernel_rfl) (fun s : Int × Int => [(0, .t (.c (.view V))), (1, .t (ai s.2)), (5, .t (ai s.1))]) (fun _ => []) (fun s => 0 ≤ s.1 ∧ s.1 ≤ M ∧ s.2 = k0 + 3 * s.1) (fun s => M.toNat - s.1.toNat)
    (0, k0) [] ⟨Int.le_refl 0, hM0, by simp only; omega⟩ (wk0 ⟨rfl, rfl, rfl, trivial⟩) (fun s B hs hB => ?_)
  obtain ⟨z, kc⟩ := s
  obtain ⟨h0, h1, h2⟩ := hs
  simp only at h0 h1 h2
  cbv
  cases hc : g .q .lss z (g .ln V)
  · rw [goLss hg, goLn hg, hVe, decide_eq_false_iff_not] at hc
    cbv
    exact fin0i hF (by rw [h2, show z = M by omega])
  · rw [goLss hg, goLn hg, hVe, decide_eq_true_eq] at hc
    cbv
    have hy := marksRule_at hM h0 hc h2
    rw [← hV] at hy
    obtain ⟨q0, hq0⟩ : ∃ q, q = kc + 1 := ⟨_, rfl⟩
    obtain ⟨q1, hq1⟩ : ∃ q, q = kc + 2 := ⟨_, rfl⟩
    obtain ⟨q2, hq2⟩ : ∃ q, q = kc + 3 := ⟨_, rfl⟩
    have e0 : g .w .add .i64 kc 1 = q0 := by rw [goAdd hg, wrap_small _ (by omega)]; omega
    have n0 : g .q .neq kc kc = false := by rw [goNeq hg]; simp
    have e1 : g .w .add .i64 q0 1 = q1 := by rw [goAdd hg, wrap_small _ (by omega)]; omega
    have n1 : g .q .neq q0 q0 = false := by rw [goNeq hg]; simp
    have e2 : g .w .add .i64 q1 1 = q2 := by rw [goAdd hg, wrap_small _ (by omega)]; omega
    have n2 : g .q .neq q1 q1 = false := by rw [goNeq hg]; simp
    rw [← hq0, ← hq1] at hy
    refine goX hg _ h0 hy rfl ?_
    cbv
    rw [n0]
    cbv
    rw [e0]
    cbv
    refine goX hg _ h0 hy rfl ?_
    cbv
    rw [n1]
    cbv
    rw [e1]
    cbv
    refine goX hg _ h0 hy rfl ?_
    cbv
    rw [n2]
    cbv
    rw [e2]
    have ez : g .w .add .i64 z 1 = z + 1 := by rw [goAdd hg, wrap_small _ (by omega)]
    rw [ez]
    exact back hB (z + 1, q2) [] (wk0 ⟨rfl, rfl, rfl, trivial⟩) ⟨by simp only; omega, by simp only; omega, by simp only; omega⟩ (by show M.toNat - (z + 1).toNat < M.toNat - z.toNat; omega)
def m3 (k : Int) : Bool := k.tmod 3 == 0
theorem set_same {E : List (List AC)} {j : Nat} {y : List AC} (h : E[j]? = some y) : E.set j y = E := by
  refine List.ext_getElem? fun i => ?_
  rw [List.getElem?_set]
  by_cases hi : j = i
  · subst hi; rw [if_pos rfl, if_pos (List.getElem?_eq_some_iff.1 h).1, h]
  · rw [if_neg hi]
theorem plain_set {E : List (List AC)} {j : Nat} {y : List AC} (h : plainE E = true) (hy : y.all plain = true) : plainE (E.set j y) = true := by
  rw [plainE, List.all_eq_true] at h ⊢
  intro x hx
  rcases List.mem_or_eq_of_mem_set hx with hx | rfl
  · exact h x hx
  · exact hy
theorem set_step {E E1 E2 : List (List AC)} {j : Nat} {x y : List AC} (h : E2 = E1.set j x) (hs : E1 = E.set j y) (hl : j < E.length) : E2 = E.set j x ∧ E2[j]? = some x ∧ j < E2.length := by
  rw [hs, List.set_set] at h
  subst h
  exact ⟨rfl, List.getElem?_set_self hl, by rw [List.length_set]; exact hl⟩
theorem st_step {P : Program} {n0 N : Nat} {β : BP} {g : Gd} (hg : g = G0 P n0 N) {E E1 E2 : List (List AC)} {j : Nat} {x y : List AC} (h : g .st E1 j x = E2) (hs : E1 = E.set j y) (hl : j < E.length) : E2 = E.set j x ∧ E2[j]? = some x ∧ j < E2.length := by
  rw [goSt hg, hs, List.set_set] at h
  subst h
  exact ⟨rfl, List.getElem?_set_self hl, by rw [List.length_set]; exact hl⟩
theorem q_bnd {a b c C M : Int} (h0 : 0 ≤ a) (hM : a + C ≤ M) (hq : b = a + c) (h1 : 0 ≤ c) (h2 : c ≤ C) : 0 ≤ b ∧ b ≤ M := by constructor <;> omega
theorem q_add {P : Program} {n0 N : Nat} {β : BP} {g : Gd} (hg : g = G0 P n0 N) {a b d c e C : Int} (h0 : 0 ≤ a) (hM : a + C ≤ 1152921504606846976) (hb : b = a + c) (hd : d = a + e) (he : e = c + 1) (h1 : 0 ≤ c) (h2 : c ≤ C) : g .w .add .i64 b 1 = d := by
  rw [goAdd hg, wrap_small _ (by omega)]; omega
set_option maxHeartbeats 1600000 in
theorem laws_markFrameS_0 (k0 : Int) : PCon Tryz.prog 49 [.c (.view []), ai k0] fun res rows => res = .t (ai k0) ∧ rows = [] := by
  refine pcon_run4 ([]) ([]) (c := body Tryz.f49) fits Tryz.func49 (by kernel_rfl) (by kernel_rfl) (by rfl) (by kernel_rfl) fun g eff hd F heff hhd hg hF => ?_
  cbv
  refine loop_runW4 [] [] heff hhd hg fits (by kernel_rfl) (fun _ : Unit => [(0, .t (.c (.view []))), (1, .t (ai k0)), (5, .t (ai 0))]) (fun _ => []) (fun _ => True) (fun _ => 0) () trivial (Wk.weak (wk0 ⟨rfl, rfl, rfl, trivial⟩)) (fun s B _ hB => ?_)
  cbv
  have e : g .q .lss 0 (g .ln []) = false := by rw [goLss hg, goLn hg]; rfl
  rw [e]
  cbv
  exact fin0i hF rfl
theorem laws_markFrameS_n (k0 : Int) (bs : List Nat) (V : List (List AC)) (hl : V.length ≤ 1048576) (hk : ∀ y ∈ V, y.length = 5) (hi : immE V = true) (hnd : bs.Nodup) (hk0 : 0 ≤ k0) (hk1 : k0 ≤ 1152921504606846976) :
    MCon Tryz.prog 49 [.c (.fv bs V), ai k0] [(bs, V, vw GFrame.c (marksFrame k0 V.length))] (.int .i64 (k0 + 5 * (V.length : Int))) := by
  by_cases hne : V = []
  · subst hne
    have : k0 + 5 * (([] : List (List AC)).length : Int) = k0 := by simp
    rw [this]
    exact mcon_nil (laws_markFrameS_0 k0)
  · rw [← lenI_eq]
    exact mcon_flat (by kernel_rfl) hne hk hi (vw_imm _ _) hnd (by rw [vw_length]; simp [marksFrame]) fun ty => laws_markFrameS_a k0 V hk (imm_plainE hi) hl hk0 hk1 ty
set_option maxHeartbeats 1600000 in
theorem laws_markIntS_0 (k0 : Int) : PCon Tryz.prog 129 [.c (.view []), ai k0] fun res rows => res = .t (ai k0) ∧ rows = [] := by
  refine pcon_run4 ([]) ([]) (c := body Tryz.f129) fits Tryz.func129 (by kernel_rfl) (by kernel_rfl) (by rfl) (by kernel_rfl) fun g eff hd F heff hhd hg hF => ?_
  cbv
  refine loop_runW4 [] [] heff hhd hg fits (by kernel_rfl) (fun _ : Unit => [(0, .t (.c (.view []))), (1, .t (ai k0)), (5, .t (ai 0))]) (fun _ => []) (fun _ => True) (fun _ => 0) () trivial (Wk.weak (wk0 ⟨rfl, rfl, rfl, trivial⟩)) (fun s B _ hB => ?_)
  cbv
  have e : g .q .lss 0 (g .ln []) = false := by rw [goLss hg, goLn hg]; rfl
  rw [e]
  cbv
  exact fin0i hF rfl
theorem laws_markIntS_n (k0 : Int) (bs : List Nat) (V : List (List AC)) (hl : V.length ≤ 1048576) (hk : ∀ y ∈ V, y.length = 1) (hi : immE V = true) (hnd : bs.Nodup) (hk0 : 0 ≤ k0) (hk1 : k0 ≤ 1152921504606846976) :
    MCon Tryz.prog 129 [.c (.fv bs V), ai k0] [(bs, V, vw intC (marksInt k0 V.length))] (.int .i64 (k0 + 1 * (V.length : Int))) := by
  by_cases hne : V = []
  · subst hne
    have : k0 + 1 * (([] : List (List AC)).length : Int) = k0 := by simp
    rw [this]
    exact mcon_nil (laws_markIntS_0 k0)
  · rw [← lenI_eq]
    exact mcon_flat (by kernel_rfl) hne hk hi (vw_imm _ _) hnd (by rw [vw_length]; simp [marksInt]) fun ty => laws_markIntS_a k0 V hk (imm_plainE hi) hl hk0 hk1 ty
set_option maxHeartbeats 1600000 in
theorem laws_markRuleS_0 (k0 : Int) : PCon Tryz.prog 69 [.c (.view []), ai k0] fun res rows => res = .t (ai k0) ∧ rows = [] := by
  refine pcon_run4 ([]) ([]) (c := body Tryz.f69) fits Tryz.func69 (by kernel_rfl) (by kernel_rfl) (by rfl) (by kernel_rfl) fun g eff hd F heff hhd hg hF => ?_
  cbv
  refine loop_runW4 [] [] heff hhd hg fits (by kernel_rfl) (fun _ : Unit => [(0, .t (.c (.view []))), (1, .t (ai k0)), (5, .t (ai 0))]) (fun _ => []) (fun _ => True) (fun _ => 0) () trivial (Wk.weak (wk0 ⟨rfl, rfl, rfl, trivial⟩)) (fun s B _ hB => ?_)
  cbv
  have e : g .q .lss 0 (g .ln []) = false := by rw [goLss hg, goLn hg]; rfl
  rw [e]
  cbv
  exact fin0i hF rfl
theorem laws_markRuleS_n (k0 : Int) (bs : List Nat) (V : List (List AC)) (hl : V.length ≤ 1048576) (hk : ∀ y ∈ V, y.length = 3) (hi : immE V = true) (hnd : bs.Nodup) (hk0 : 0 ≤ k0) (hk1 : k0 ≤ 1152921504606846976) :
    MCon Tryz.prog 69 [.c (.fv bs V), ai k0] [(bs, V, vw GRule.c (marksRule k0 V.length))] (.int .i64 (k0 + 3 * (V.length : Int))) := by
  by_cases hne : V = []
  · subst hne
    have : k0 + 3 * (([] : List (List AC)).length : Int) = k0 := by simp
    rw [this]
    exact mcon_nil (laws_markRuleS_0 k0)
  · rw [← lenI_eq]
    exact mcon_flat (by kernel_rfl) hne hk hi (vw_imm _ _) hnd (by rw [vw_length]; simp [marksRule]) fun ty => laws_markRuleS_a k0 V hk (imm_plainE hi) hl hk0 hk1 ty
def mkRowAsked (k : Int)  : List AC := [.imm (.int .i64 (k)), .imm (.int .i64 (k + 1)), .imm (.int .i64 (k + 2)), .imm (.int .i64 (k + 3)), .imm (.int .i64 (k + 4)), .imm (.bool (m3 (k + 5)))]
def nxMkAsked (k : Int)  : Int := k + 6
theorem nxMkAsked_eq (k : Int)  : nxMkAsked k  = k + 6 := by unfold nxMkAsked; omega
def mkRowsAsked : Int → List (Unit) → List (List AC)
  | _, [] => []
  | k, () :: ls => mkRowAsked k  :: mkRowsAsked (nxMkAsked k ) ls
def endMkAsked : Int → List (Unit) → Int
  | k, [] => k
  | k, () :: ls => endMkAsked (nxMkAsked k ) ls
theorem endMkAsked_le : ∀ (ls : List (Unit)) (k : Int), k ≤ endMkAsked k ls
  | [], k => Int.le_refl k
  | () :: ls, k => by have := endMkAsked_le ls (nxMkAsked k ); unfold nxMkAsked at this; unfold endMkAsked nxMkAsked; omega
theorem mkRowsAsked_len : ∀ (ls : List (Unit)) (k : Int), (mkRowsAsked k ls).length = ls.length
  | [], k => rfl
  | () :: ls, k => by simp [mkRowsAsked, mkRowsAsked_len ls]
theorem mkRowsAsked_k : ∀ (ls : List (Unit)) (k : Int), ∀ x ∈ mkRowsAsked k ls, x.length = 6
  | [], k, x, hx => by simp [mkRowsAsked] at hx
  | () :: ls, k, x, hx => by
    rcases List.mem_cons.1 hx with h | h
    · rw [h]; rfl
    · exact mkRowsAsked_k ls _ x h
theorem numsAsked {kc q5 : Int} (hkc : 0 ≤ kc) (hkb : kc + 6 ≤ 1152921504606846976) (hq5 : q5 = kc + 6) : q5 = nxMkAsked kc  ∧ (0 ≤ kc ∧ kc + 6 ≤ 1152921504606846976) := by
  unfold nxMkAsked
  refine ⟨?_, ?_⟩ <;> omega
def okMkAsked (x : List AC) (_ : Unit) : Prop := ∃ u0 u1 u2 u3 u4 u5, x = [.imm u0, .imm u1, .imm u2, .imm u3, .imm u4, .imm u5]
theorem rowAsked_eq {kc q0 q1 q2 q3 q4 q5 : Int} {t5 : Bool}  (ht5 : t5 = m3 q4) (hq0 : q0 = kc + 1) (hq1 : q1 = kc + 2) (hq2 : q2 = kc + 3) (hq3 : q3 = kc + 4) (hq4 : q4 = kc + 5) (hq5 : q5 = kc + 6) :
    List.map vwC [.imm (.int .i64 kc), .imm (.int .i64 q0), .imm (.int .i64 q1), .imm (.int .i64 q2), .imm (.int .i64 q3), .imm (.bool t5)] = mkRowAsked kc  := by
  subst ht5; subst hq5 hq4 hq3 hq2 hq1 hq0
  rfl
set_option maxHeartbeats 1600000 in
theorem laws_markAskedS_0 (k0 : Int) : PCon Tryz.prog 93 [.c (.view []), ai k0] fun res rows => res = .t (ai k0) ∧ rows = [] := by
  refine pcon_run4 ([]) ([]) (c := body Tryz.f93) fits Tryz.func93 (by kernel_rfl) (by kernel_rfl) (by rfl) (by kernel_rfl) fun g eff hd F heff hhd hg hF => ?_
  cbv
  refine loop_runW4 [] [] heff hhd hg fits (by kernel_rfl) (fun _ : Unit => [(0, .t (.c (.view []))), (1, .t (ai k0)), (5, .t (ai 0))]) (fun _ => []) (fun _ => True) (fun _ => 0) () trivial (Wk.weak (wk0 ⟨rfl, rfl, rfl, trivial⟩)) (fun s B _ hB => ?_)
  cbv
  have e : g .q .lss 0 (g .ln []) = false := by rw [goLss hg, goLn hg]; rfl
  rw [e]
  cbv
  exact fin0i hF rfl
set_option maxHeartbeats 8000000 in
theorem laws_markAskedS_m (k0 : Int) (bs : List Nat) (V : List (List AC)) (ls : List (Unit)) (hV : V.length = ls.length) (hl : V.length ≤ 1048576) (hok : ∀ (i : Nat) (x : List AC) (l : Unit), V[i]? = some x → ls[i]? = some l → okMkAsked x l) (hnd : bs.Nodup) (hk0 : 0 ≤ k0) (hk1 : endMkAsked k0 ls ≤ 1152921504606846976) :
    MCon Tryz.prog 93 [.c (.fv bs V), ai k0] [(bs, V, mkRowsAsked k0 ls)] (.int .i64 (endMkAsked k0 ls)) := by
  by_cases hne : V = []
  · subst hne
    obtain rfl : ls = [] := List.eq_nil_of_length_eq_zero (by simpa using hV.symm)
    exact mcon_nil (laws_markAskedS_0 k0)
  have dV : ∀ x ∈ V, x.all dat = true := fun x hx => by
    obtain ⟨i, hi, rfl⟩ := List.getElem_of_mem hx
    obtain ⟨u0, u1, u2, u3, u4, u5, he⟩ := hok i _ _ (List.getElem?_eq_getElem hi) (List.getElem?_eq_getElem (by omega))
    rw [he]; rfl
  have kV : ∀ x ∈ V, x.length = 6 := fun x hx => by
    obtain ⟨i, hi, rfl⟩ := List.getElem_of_mem hx
    obtain ⟨u0, u1, u2, u3, u4, u5, he⟩ := hok i _ _ (List.getElem?_eq_getElem hi) (List.getElem?_eq_getElem (by omega))
    rw [he]; rfl
  refine mcon_nest (by kernel_rfl) hne kV dV hnd (by rw [mkRowsAsked_len, hV]) fun bs' ty es hsub hnd' e1 e2 e3 e4 => ?_
  clear hnd hsub
  obtain ⟨β, hβ⟩ : ∃ β : BP, β = ⟨0, fun b => b ∈ bs'⟩ := ⟨_, rfl⟩
  have hex : ∀ b ∈ bs', β.ex b := by rw [hβ]; exact fun _ h => h
  rw [← hβ]
  clear hβ
  have hV0 : 0 ≤ lenI V := by rw [lenI_eq]; omega
  have hV20 : lenI V ≤ 1048576 := by rw [lenI_eq]; omega
  refine conx_run4 (h := [.rw ⟨ty, 6, es⟩]) [] [] (c := body Tryz.f93) fits Tryz.func93 (by kernel_rfl) (by kernel_rfl) (bl (by rfl)) (by kernel_rfl) fun g eff hd F heff hhd hg hF => ?_
  cbv
  refine loop_runW4 [] [] heff hhd hg fits (by kernel_rfl) (fun s : Int × Int × List (List AC) => [(0, .t (.c (.own 0))), (1, .t (ai s.2.1)), (5, .t (ai s.1))]) (fun s => [.rw ⟨ty, 6, s.2.2⟩]) (fun s => ∃ R, MkSt 6 V R s.2.2 s.1 bs' ∧ mkRowsAsked k0 ls = R ++ mkRowsAsked s.2.1 (ls.drop s.1.toNat) ∧ endMkAsked k0 ls = endMkAsked s.2.1 (ls.drop s.1.toNat) ∧ 0 ≤ s.2.1) (fun s => (lenI V).toNat - s.1.toNat)
    (0, k0, es) ⟨[], MkSt.start e1 e2 e3 e4, rfl, rfl, hk0⟩ (Wk.weak (wk1 ⟨⟨_, rfl, rfl, bare_plainE e3⟩, trivial⟩ ⟨rfl, rfl, rfl, trivial⟩)) (fun s B hs hB => ?_)
  clear e1 e2 e3 e4
  obtain ⟨z, kc, E⟩ := s
  obtain ⟨R, hs, hR, hK, hkc⟩ := hs
  simp only at hs hR hK hkc
  have h0 := hs.z0
  have h1 := hs.z1
  have hEV : lenI E = lenI V := by rw [lenI_eq, lenI_eq, hs.len]
  cbv
  cases hc : g .q .lss z (g .ln E)
  · rw [goLss hg, goLn hg, hEV, decide_eq_false_iff_not] at hc
    cbv
    have hall := hs.all hc
    have hdr : ls.drop z.toNat = [] := by rw [lenI_eq] at hc; exact List.drop_eq_nil_of_le (by omega)
    rw [hdr] at hR hK
    have hR' : mkRowsAsked k0 ls = R := by rw [hR]; exact List.append_nil R
    have hK' : endMkAsked k0 ls = kc := hK
    rw [hR', hK'] at hF
    exact finH1 hF (bare_plainE hs.bare) ⟨rfl, E, rfl, hall, hs.fp, hs.bare⟩
  · rw [goLss hg, goLn hg, hEV, decide_eq_true_eq] at hc
    cbv
    obtain ⟨j, hj⟩ : ∃ j, j = z.toNat := ⟨_, rfl⟩
    have hjV : j < V.length := by rw [hj]; rw [lenI_eq] at hc; omega
    have hjl : j < E.length := by rw [hs.len]; exact hjV
    obtain ⟨e, v, he, hv, hev, heb, hel⟩ := hs.at_ hj hc
    obtain ⟨l, hl0⟩ : ∃ l, ls[j]? = some l := ⟨_, List.getElem?_eq_getElem (by omega)⟩
    have hdr : ls.drop z.toNat = l :: ls.drop (z + 1).toNat := by
      rw [← hj, show (z + 1).toNat = j + 1 by omega]
      have hjl' : j < ls.length := by omega
      rw [List.drop_eq_getElem_cons hjl', ← Option.some.inj ((List.getElem?_eq_getElem hjl').symm.trans hl0)]
    rw [hdr] at hR hK
    obtain ⟨u0, u1, u2, u3, u4, u5, hve⟩ := hok j v l hv hl0
    subst hve
    obtain rfl : l = () := rfl
    obtain ⟨b0, b1, b2, b3, b4, b5, rfl⟩ : ∃ b0 b1 b2 b3 b4 b5, e = [b0, b1, b2, b3, b4, b5] := by
      match e, hel with
      | [b0, b1, b2, b3, b4, b5], _ => exact ⟨b0, b1, b2, b3, b4, b5, rfl⟩
    simp only [List.map_cons, List.map_nil, List.cons.injEq, and_true] at hev
    simp only [List.all_cons, List.all_nil, Bool.and_true, Bool.and_eq_true] at heb
    obtain ⟨v0, v1, v2, v3, v4, v5⟩ := hev
    obtain ⟨w0, w1, w2, w3, w4, w5⟩ := heb
    obtain rfl := bare_imm w0 v0
    obtain rfl := bare_imm w1 v1
    obtain rfl := bare_imm w2 v2
    obtain rfl := bare_imm w3 v3
    obtain rfl := bare_imm w4 v4
    obtain rfl := bare_imm w5 v5
    have hnd1 := fpE_nodupL (by rw [hs.fp]; exact hnd') he
    have hfpe : ∀ b ∈ fpL [.imm u0, .imm u1, .imm u2, .imm u3, .imm u4, .imm u5], b ∈ bs' := fun b hb => by rw [← hs.fp]; exact fp_mem he hb
    obtain ⟨E0, hE0⟩ : ∃ E0, E0 = E := ⟨_, rfl⟩
    have l0_ : j < E0.length := by rw [hE0]; exact hjl
    have h0_ := he
    have s0_ : E0 = E.set j [.imm u0, .imm u1, .imm u2, .imm u3, .imm u4, .imm u5] := hE0.trans (set_same he).symm
    rw [← hE0] at h0_ ⊢
    have ez : g .w .add .i64 z 1 = z + 1 := by rw [goAdd hg, wrap_small _ (by omega)]
    have hmu : (lenI V).toNat - (z + 1).toNat < (lenI V).toNat - z.toNat := by omega
    have hend := endMkAsked_le (ls.drop (z + 1).toNat) (nxMkAsked kc )
    have hK1 : endMkAsked (nxMkAsked kc ) (ls.drop (z + 1).toNat) ≤ 1152921504606846976 := by rw [show endMkAsked (nxMkAsked kc ) (ls.drop (z + 1).toNat) = endMkAsked k0 ls from hK.symm]; exact hk1
    have hkb : kc + 6 ≤ 1152921504606846976 := by rw [← nxMkAsked_eq]; exact Int.le_trans hend hK1
    obtain ⟨q0, hq0⟩ : ∃ q, q = kc + 1 := ⟨_, rfl⟩
    obtain ⟨q1, hq1⟩ : ∃ q, q = kc + 2 := ⟨_, rfl⟩
    obtain ⟨q2, hq2⟩ : ∃ q, q = kc + 3 := ⟨_, rfl⟩
    obtain ⟨q3, hq3⟩ : ∃ q, q = kc + 4 := ⟨_, rfl⟩
    obtain ⟨q4, hq4⟩ : ∃ q, q = kc + 5 := ⟨_, rfl⟩
    obtain ⟨q5, hq5⟩ : ∃ q, q = kc + 6 := ⟨_, rfl⟩
    obtain ⟨hnx, g_kc⟩ := numsAsked hkc hkb hq5
    clear hkb hend hK1
    have e0 := q_add hg g_kc.1 g_kc.2 (Int.add_zero _).symm hq0 rfl (by decide) (by decide)
    have e1 := q_add hg g_kc.1 g_kc.2 hq0 hq1 rfl (by decide) (by decide)
    have e2 := q_add hg g_kc.1 g_kc.2 hq1 hq2 rfl (by decide) (by decide)
    have e3 := q_add hg g_kc.1 g_kc.2 hq2 hq3 rfl (by decide) (by decide)
    have e4 := q_add hg g_kc.1 g_kc.2 hq3 hq4 rfl (by decide) (by decide)
    have e5 := q_add hg g_kc.1 g_kc.2 hq4 hq5 rfl (by decide) (by decide)
    obtain ⟨t5, ht5⟩ : ∃ t, t = m3 q4 := ⟨_, rfl⟩
    have m5 : g .q .eql (g .w .rem .i64 q4 3) 0 = t5 := by rw [ht5, goRem hg, goEql hg]; rfl
    refine goYt hg h0 hj l0_ ?_
    cbv
    refine ⟨_, h0_, ?_⟩
    cbv
    generalize hG1 : g .st _ _ _ = E1
    generalize hX : putC _ _ _ = x at hG1
    cbv at hX
    subst hX
    obtain ⟨s1_, h1_, l1_⟩ := st_step hg hG1 s0_ hjl
    clear hG1 s0_ h0_ l0_
    rw [e0]
    cbv
    refine goYt hg h0 hj l1_ ?_
    cbv
    refine ⟨_, h1_, ?_⟩
    cbv
    generalize hG2 : g .st _ _ _ = E2
    generalize hX : putC _ _ _ = x at hG2
    cbv at hX
    subst hX
    obtain ⟨s2_, h2_, l2_⟩ := st_step hg hG2 s1_ hjl
    clear hG2 s1_ h1_ l1_
    rw [e1]
    cbv
    refine goYt hg h0 hj l2_ ?_
    cbv
    refine ⟨_, h2_, ?_⟩
    cbv
    generalize hG3 : g .st _ _ _ = E3
    generalize hX : putC _ _ _ = x at hG3
    cbv at hX
    subst hX
    obtain ⟨s3_, h3_, l3_⟩ := st_step hg hG3 s2_ hjl
    clear hG3 s2_ h2_ l2_
    rw [e2]
    cbv
    refine goYt hg h0 hj l3_ ?_
    cbv
    refine ⟨_, h3_, ?_⟩
    cbv
    generalize hG4 : g .st _ _ _ = E4
    generalize hX : putC _ _ _ = x at hG4
    cbv at hX
    subst hX
    obtain ⟨s4_, h4_, l4_⟩ := st_step hg hG4 s3_ hjl
    clear hG4 s3_ h3_ l3_
    rw [e3]
    cbv
    refine goYt hg h0 hj l4_ ?_
    cbv
    refine ⟨_, h4_, ?_⟩
    cbv
    generalize hG5 : g .st _ _ _ = E5
    generalize hX : putC _ _ _ = x at hG5
    cbv at hX
    subst hX
    obtain ⟨s5_, h5_, l5_⟩ := st_step hg hG5 s4_ hjl
    clear hG5 s4_ h4_ l4_
    rw [e4]
    cbv
    refine goNZ hg (by decide) ?_
    cbv
    rw [m5]
    cbv
    refine goYt hg h0 hj l5_ ?_
    cbv
    refine ⟨_, h5_, ?_⟩
    cbv
    generalize hG6 : g .st _ _ _ = E6
    generalize hX : putC _ _ _ = x at hG6
    cbv at hX
    subst hX
    obtain ⟨s6_, h6_, l6_⟩ := st_step hg hG6 s5_ hjl
    clear hG6 s5_ h5_ l5_
    rw [e5]
    cbv
    rw [ez]
    rw [s6_]
    have hs' := hs.step (r := mkRowAsked kc ) hj hc he (e' := [.imm (.int .i64 kc), .imm (.int .i64 q0), .imm (.int .i64 q1), .imm (.int .i64 q2), .imm (.int .i64 q3), .imm (.bool t5)]) (rowAsked_eq  ht5 hq0 hq1 hq2 hq3 hq4 hq5) rfl rfl rfl
    rw [hB]
    refine ⟨(z + 1, q5, _), ⟨_, hs', ?_, ?_, by simp only; rw [hnx]; exact Int.le_trans hkc (by have := endMkAsked_le [()] kc; exact this)⟩, hmu, Wk.weak (wk1 ⟨⟨_, rfl, rfl, bare_plainE hs'.bare⟩, trivial⟩ ⟨rfl, rfl, rfl, trivial⟩)⟩
    · simp only
      rw [hnx, List.append_assoc]
      exact hR
    · simp only
      rw [hnx]
      exact hK
def mkRowMemo (k : Int) (l0 : Nat) : List AC := [.imm (.int .i64 (k)), .imm (.int .i64 (k + 1)), .imm (.int .i64 (k + 2)), .imm (.int .i64 (k + 3)), .imm (.int .i64 (k + 4)), .imm (.bool (m3 (k + 5))), .imm (.int .i64 (k + 6)), .imm (.int .i64 (k + 7)), .imm (.int .i64 (k + 8)), .view (vw GFrame.c (marksFrame (k + 9) l0))]
def nxMkMemo (k : Int) (l0 : Nat) : Int := k + 9 + 5 * ((l0 : Nat) : Int)
theorem nxMkMemo_eq (k : Int) (l0 : Nat) : nxMkMemo k l0 = k + 9 + 5 * ((l0 : Nat) : Int) := by unfold nxMkMemo; omega
def mkRowsMemo : Int → List (Nat) → List (List AC)
  | _, [] => []
  | k, l0 :: ls => mkRowMemo k l0 :: mkRowsMemo (nxMkMemo k l0) ls
def endMkMemo : Int → List (Nat) → Int
  | k, [] => k
  | k, l0 :: ls => endMkMemo (nxMkMemo k l0) ls
theorem endMkMemo_le : ∀ (ls : List (Nat)) (k : Int), k ≤ endMkMemo k ls
  | [], k => Int.le_refl k
  | l0 :: ls, k => by have := endMkMemo_le ls (nxMkMemo k l0); unfold nxMkMemo at this; unfold endMkMemo nxMkMemo; omega
theorem mkRowsMemo_len : ∀ (ls : List (Nat)) (k : Int), (mkRowsMemo k ls).length = ls.length
  | [], k => rfl
  | l0 :: ls, k => by simp [mkRowsMemo, mkRowsMemo_len ls]
theorem mkRowsMemo_k : ∀ (ls : List (Nat)) (k : Int), ∀ x ∈ mkRowsMemo k ls, x.length = 10
  | [], k, x, hx => by simp [mkRowsMemo] at hx
  | l0 :: ls, k, x, hx => by
    rcases List.mem_cons.1 hx with h | h
    · rw [h]; rfl
    · exact mkRowsMemo_k ls _ x h
theorem numsMemo {kc q8 q9 : Int} {l0 : Nat} (hkc : 0 ≤ kc) (hkb : kc + 9 + 5 * ((l0 : Nat) : Int) ≤ 1152921504606846976) (hq8 : q8 = kc + 9) (hq9 : q9 = q8 + 5 * ((l0 : Nat) : Int)) : q9 = nxMkMemo kc l0 ∧ (0 ≤ kc ∧ kc + 9 ≤ 1152921504606846976) ∧ (0 ≤ q9 ∧ q9 + 0 ≤ 1152921504606846976) := by
  unfold nxMkMemo
  refine ⟨?_, ?_, ?_⟩ <;> omega
def okMkMemo (x : List AC) (l : Nat) : Prop := ∃ u0 u1 u2 u3 u4 u5 u6 u7 u8 F0, x = [.imm u0, .imm u1, .imm u2, .imm u3, .imm u4, .imm u5, .imm u6, .imm u7, .imm u8, .view F0] ∧ (F0.length = l ∧ F0.length ≤ 1048576 ∧ immE F0 = true ∧ ∀ y ∈ F0, y.length = 5)
theorem rowMemo_eq {kc q0 q1 q2 q3 q4 q5 q6 q7 q8 q9 : Int} {l0 : Nat} {B0 : List Nat} {M0 : List (List AC)} {t5 : Bool} (hM0 : M0 = (vw GFrame.c (marksFrame q8 l0))) (ht5 : t5 = m3 q4) (hq0 : q0 = kc + 1) (hq1 : q1 = kc + 2) (hq2 : q2 = kc + 3) (hq3 : q3 = kc + 4) (hq4 : q4 = kc + 5) (hq5 : q5 = kc + 6) (hq6 : q6 = kc + 7) (hq7 : q7 = kc + 8) (hq8 : q8 = kc + 9) (hq9 : q9 = q8 + 5 * ((l0 : Nat) : Int)) :
    List.map vwC [.imm (.int .i64 kc), .imm (.int .i64 q0), .imm (.int .i64 q1), .imm (.int .i64 q2), .imm (.int .i64 q3), .imm (.bool t5), .imm (.int .i64 q5), .imm (.int .i64 q6), .imm (.int .i64 q7), .fv B0 M0] = mkRowMemo kc l0 := by
  subst hM0; subst ht5; subst hq9 hq8 hq7 hq6 hq5 hq4 hq3 hq2 hq1 hq0
  rfl
set_option maxHeartbeats 1600000 in
theorem laws_markMemoS_0 (k0 : Int) : PCon Tryz.prog 92 [.c (.view []), ai k0] fun res rows => res = .t (ai k0) ∧ rows = [] := by
  refine pcon_run4 ([(22, .hand)]) ([]) (c := body Tryz.f92) fits Tryz.func92 (by kernel_rfl) (by kernel_rfl) (by rfl) (by kernel_rfl) fun g eff hd F heff hhd hg hF => ?_
  cbv
  refine loop_runW4 [(22, .hand)] [] heff hhd hg fits (by kernel_rfl) (fun _ : Unit => [(0, .t (.c (.view []))), (1, .t (ai k0)), (5, .t (ai 0))]) (fun _ => []) (fun _ => True) (fun _ => 0) () trivial (Wk.weak (wk0 ⟨rfl, rfl, rfl, trivial⟩)) (fun s B _ hB => ?_)
  cbv
  have e : g .q .lss 0 (g .ln []) = false := by rw [goLss hg, goLn hg]; rfl
  rw [e]
  cbv
  exact fin0i hF rfl
set_option maxHeartbeats 8000000 in
theorem laws_markMemoS_m (k0 : Int) (bs : List Nat) (V : List (List AC)) (ls : List (Nat)) (hV : V.length = ls.length) (hl : V.length ≤ 1048576) (hok : ∀ (i : Nat) (x : List AC) (l : Nat), V[i]? = some x → ls[i]? = some l → okMkMemo x l) (hnd : bs.Nodup) (hk0 : 0 ≤ k0) (hk1 : endMkMemo k0 ls ≤ 1152921504606846976) :
    MCon Tryz.prog 92 [.c (.fv bs V), ai k0] [(bs, V, mkRowsMemo k0 ls)] (.int .i64 (endMkMemo k0 ls)) := by
  by_cases hne : V = []
  · subst hne
    obtain rfl : ls = [] := List.eq_nil_of_length_eq_zero (by simpa using hV.symm)
    exact mcon_nil (laws_markMemoS_0 k0)
  have dV : ∀ x ∈ V, x.all dat = true := fun x hx => by
    obtain ⟨i, hi, rfl⟩ := List.getElem_of_mem hx
    obtain ⟨u0, u1, u2, u3, u4, u5, u6, u7, u8, F0, he, -⟩ := hok i _ _ (List.getElem?_eq_getElem hi) (List.getElem?_eq_getElem (by omega))
    rw [he]; rfl
  have kV : ∀ x ∈ V, x.length = 10 := fun x hx => by
    obtain ⟨i, hi, rfl⟩ := List.getElem_of_mem hx
    obtain ⟨u0, u1, u2, u3, u4, u5, u6, u7, u8, F0, he, -⟩ := hok i _ _ (List.getElem?_eq_getElem hi) (List.getElem?_eq_getElem (by omega))
    rw [he]; rfl
  refine mcon_nest (by kernel_rfl) hne kV dV hnd (by rw [mkRowsMemo_len, hV]) fun bs' ty es hsub hnd' e1 e2 e3 e4 => ?_
  clear hnd hsub
  obtain ⟨β, hβ⟩ : ∃ β : BP, β = ⟨0, fun b => b ∈ bs'⟩ := ⟨_, rfl⟩
  have hex : ∀ b ∈ bs', β.ex b := by rw [hβ]; exact fun _ h => h
  rw [← hβ]
  clear hβ
  have hV0 : 0 ≤ lenI V := by rw [lenI_eq]; omega
  have hV20 : lenI V ≤ 1048576 := by rw [lenI_eq]; omega
  refine conx_run4 (h := [.rw ⟨ty, 10, es⟩]) [(22, .hand)] [] (c := body Tryz.f92) fits Tryz.func92 (by kernel_rfl) (by kernel_rfl) (bl (by rfl)) (by kernel_rfl) fun g eff hd F heff hhd hg hF => ?_
  cbv
  refine loop_runW4 [(22, .hand)] [] heff hhd hg fits (by kernel_rfl) (fun s : Int × Int × List (List AC) => [(0, .t (.c (.own 0))), (1, .t (ai s.2.1)), (5, .t (ai s.1))]) (fun s => [.rw ⟨ty, 10, s.2.2⟩]) (fun s => ∃ R, MkSt 10 V R s.2.2 s.1 bs' ∧ mkRowsMemo k0 ls = R ++ mkRowsMemo s.2.1 (ls.drop s.1.toNat) ∧ endMkMemo k0 ls = endMkMemo s.2.1 (ls.drop s.1.toNat) ∧ 0 ≤ s.2.1) (fun s => (lenI V).toNat - s.1.toNat)
    (0, k0, es) ⟨[], MkSt.start e1 e2 e3 e4, rfl, rfl, hk0⟩ (Wk.weak (wk1 ⟨⟨_, rfl, rfl, bare_plainE e3⟩, trivial⟩ ⟨rfl, rfl, rfl, trivial⟩)) (fun s B hs hB => ?_)
  clear e1 e2 e3 e4
  obtain ⟨z, kc, E⟩ := s
  obtain ⟨R, hs, hR, hK, hkc⟩ := hs
  simp only at hs hR hK hkc
  have h0 := hs.z0
  have h1 := hs.z1
  have hEV : lenI E = lenI V := by rw [lenI_eq, lenI_eq, hs.len]
  cbv
  cases hc : g .q .lss z (g .ln E)
  · rw [goLss hg, goLn hg, hEV, decide_eq_false_iff_not] at hc
    cbv
    have hall := hs.all hc
    have hdr : ls.drop z.toNat = [] := by rw [lenI_eq] at hc; exact List.drop_eq_nil_of_le (by omega)
    rw [hdr] at hR hK
    have hR' : mkRowsMemo k0 ls = R := by rw [hR]; exact List.append_nil R
    have hK' : endMkMemo k0 ls = kc := hK
    rw [hR', hK'] at hF
    exact finH1 hF (bare_plainE hs.bare) ⟨rfl, E, rfl, hall, hs.fp, hs.bare⟩
  · rw [goLss hg, goLn hg, hEV, decide_eq_true_eq] at hc
    cbv
    obtain ⟨j, hj⟩ : ∃ j, j = z.toNat := ⟨_, rfl⟩
    have hjV : j < V.length := by rw [hj]; rw [lenI_eq] at hc; omega
    have hjl : j < E.length := by rw [hs.len]; exact hjV
    obtain ⟨e, v, he, hv, hev, heb, hel⟩ := hs.at_ hj hc
    obtain ⟨l, hl0⟩ : ∃ l, ls[j]? = some l := ⟨_, List.getElem?_eq_getElem (by omega)⟩
    have hdr : ls.drop z.toNat = l :: ls.drop (z + 1).toNat := by
      rw [← hj, show (z + 1).toNat = j + 1 by omega]
      have hjl' : j < ls.length := by omega
      rw [List.drop_eq_getElem_cons hjl', ← Option.some.inj ((List.getElem?_eq_getElem hjl').symm.trans hl0)]
    rw [hdr] at hR hK
    obtain ⟨u0, u1, u2, u3, u4, u5, u6, u7, u8, F0, hve, ⟨hF0l, hF0s, hF0i, hF0k⟩⟩ := hok j v l hv hl0
    subst hve
    subst hF0l
    obtain ⟨l0, hl0'⟩ : ∃ l0, l0 = F0.length := ⟨_, rfl⟩
    rw [← hl0'] at hR hK
    obtain ⟨b0, b1, b2, b3, b4, b5, b6, b7, b8, b9, rfl⟩ : ∃ b0 b1 b2 b3 b4 b5 b6 b7 b8 b9, e = [b0, b1, b2, b3, b4, b5, b6, b7, b8, b9] := by
      match e, hel with
      | [b0, b1, b2, b3, b4, b5, b6, b7, b8, b9], _ => exact ⟨b0, b1, b2, b3, b4, b5, b6, b7, b8, b9, rfl⟩
    simp only [List.map_cons, List.map_nil, List.cons.injEq, and_true] at hev
    simp only [List.all_cons, List.all_nil, Bool.and_true, Bool.and_eq_true] at heb
    obtain ⟨v0, v1, v2, v3, v4, v5, v6, v7, v8, v9⟩ := hev
    obtain ⟨w0, w1, w2, w3, w4, w5, w6, w7, w8, w9⟩ := heb
    obtain rfl := bare_imm w0 v0
    obtain rfl := bare_imm w1 v1
    obtain rfl := bare_imm w2 v2
    obtain rfl := bare_imm w3 v3
    obtain rfl := bare_imm w4 v4
    obtain rfl := bare_imm w5 v5
    obtain rfl := bare_imm w6 v6
    obtain rfl := bare_imm w7 v7
    obtain rfl := bare_imm w8 v8
    obtain ⟨B0, rfl⟩ := bare_fv w9 v9
    have hnd1 := fpE_nodupL (by rw [hs.fp]; exact hnd') he
    have hfpe : ∀ b ∈ fpL [.imm u0, .imm u1, .imm u2, .imm u3, .imm u4, .imm u5, .imm u6, .imm u7, .imm u8, .fv B0 F0], b ∈ bs' := fun b hb => by rw [← hs.fp]; exact fp_mem he hb
    have hB0nd : B0.Nodup := by simpa [fpL, fpC] using hnd1
    obtain ⟨E0, hE0⟩ : ∃ E0, E0 = E := ⟨_, rfl⟩
    have l0_ : j < E0.length := by rw [hE0]; exact hjl
    have h0_ := he
    have s0_ : E0 = E.set j [.imm u0, .imm u1, .imm u2, .imm u3, .imm u4, .imm u5, .imm u6, .imm u7, .imm u8, .fv B0 F0] := hE0.trans (set_same he).symm
    rw [← hE0] at h0_ ⊢
    have ez : g .w .add .i64 z 1 = z + 1 := by rw [goAdd hg, wrap_small _ (by omega)]
    have hmu : (lenI V).toNat - (z + 1).toNat < (lenI V).toNat - z.toNat := by omega
    have hend := endMkMemo_le (ls.drop (z + 1).toNat) (nxMkMemo kc l0)
    have hK1 : endMkMemo (nxMkMemo kc l0) (ls.drop (z + 1).toNat) ≤ 1152921504606846976 := by rw [show endMkMemo (nxMkMemo kc l0) (ls.drop (z + 1).toNat) = endMkMemo k0 ls from hK.symm]; exact hk1
    have hkb : kc + 9 + 5 * ((l0 : Nat) : Int) ≤ 1152921504606846976 := by rw [← nxMkMemo_eq]; exact Int.le_trans hend hK1
    obtain ⟨q0, hq0⟩ : ∃ q, q = kc + 1 := ⟨_, rfl⟩
    obtain ⟨q1, hq1⟩ : ∃ q, q = kc + 2 := ⟨_, rfl⟩
    obtain ⟨q2, hq2⟩ : ∃ q, q = kc + 3 := ⟨_, rfl⟩
    obtain ⟨q3, hq3⟩ : ∃ q, q = kc + 4 := ⟨_, rfl⟩
    obtain ⟨q4, hq4⟩ : ∃ q, q = kc + 5 := ⟨_, rfl⟩
    obtain ⟨q5, hq5⟩ : ∃ q, q = kc + 6 := ⟨_, rfl⟩
    obtain ⟨q6, hq6⟩ : ∃ q, q = kc + 7 := ⟨_, rfl⟩
    obtain ⟨q7, hq7⟩ : ∃ q, q = kc + 8 := ⟨_, rfl⟩
    obtain ⟨q8, hq8⟩ : ∃ q, q = kc + 9 := ⟨_, rfl⟩
    obtain ⟨q9, hq9⟩ : ∃ q, q = q8 + 5 * ((l0 : Nat) : Int) := ⟨_, rfl⟩
    obtain ⟨hnx, g_kc, g_q9⟩ := numsMemo hkc hkb hq8 hq9
    clear hkb hend hK1
    have e0 := q_add hg g_kc.1 g_kc.2 (Int.add_zero _).symm hq0 rfl (by decide) (by decide)
    have e1 := q_add hg g_kc.1 g_kc.2 hq0 hq1 rfl (by decide) (by decide)
    have e2 := q_add hg g_kc.1 g_kc.2 hq1 hq2 rfl (by decide) (by decide)
    have e3 := q_add hg g_kc.1 g_kc.2 hq2 hq3 rfl (by decide) (by decide)
    have e4 := q_add hg g_kc.1 g_kc.2 hq3 hq4 rfl (by decide) (by decide)
    have e5 := q_add hg g_kc.1 g_kc.2 hq4 hq5 rfl (by decide) (by decide)
    obtain ⟨t5, ht5⟩ : ∃ t, t = m3 q4 := ⟨_, rfl⟩
    have m5 : g .q .eql (g .w .rem .i64 q4 3) 0 = t5 := by rw [ht5, goRem hg, goEql hg]; rfl
    have e6 := q_add hg g_kc.1 g_kc.2 hq5 hq6 rfl (by decide) (by decide)
    have e7 := q_add hg g_kc.1 g_kc.2 hq6 hq7 rfl (by decide) (by decide)
    have e8 := q_add hg g_kc.1 g_kc.2 hq7 hq8 rfl (by decide) (by decide)
    have r9 := q_bnd g_kc.1 g_kc.2 hq8 (by decide) (by decide)
    refine goYt hg h0 hj l0_ ?_
    cbv
    refine ⟨_, h0_, ?_⟩
    cbv
    generalize hG1 : g .st _ _ _ = E1
    generalize hX : putC _ _ _ = x at hG1
    cbv at hX
    subst hX
    obtain ⟨s1_, h1_, l1_⟩ := st_step hg hG1 s0_ hjl
    clear hG1 s0_ h0_ l0_
    rw [e0]
    cbv
    refine goYt hg h0 hj l1_ ?_
    cbv
    refine ⟨_, h1_, ?_⟩
    cbv
    generalize hG2 : g .st _ _ _ = E2
    generalize hX : putC _ _ _ = x at hG2
    cbv at hX
    subst hX
    obtain ⟨s2_, h2_, l2_⟩ := st_step hg hG2 s1_ hjl
    clear hG2 s1_ h1_ l1_
    rw [e1]
    cbv
    refine goYt hg h0 hj l2_ ?_
    cbv
    refine ⟨_, h2_, ?_⟩
    cbv
    generalize hG3 : g .st _ _ _ = E3
    generalize hX : putC _ _ _ = x at hG3
    cbv at hX
    subst hX
    obtain ⟨s3_, h3_, l3_⟩ := st_step hg hG3 s2_ hjl
    clear hG3 s2_ h2_ l2_
    rw [e2]
    cbv
    refine goYt hg h0 hj l3_ ?_
    cbv
    refine ⟨_, h3_, ?_⟩
    cbv
    generalize hG4 : g .st _ _ _ = E4
    generalize hX : putC _ _ _ = x at hG4
    cbv at hX
    subst hX
    obtain ⟨s4_, h4_, l4_⟩ := st_step hg hG4 s3_ hjl
    clear hG4 s3_ h3_ l3_
    rw [e3]
    cbv
    refine goYt hg h0 hj l4_ ?_
    cbv
    refine ⟨_, h4_, ?_⟩
    cbv
    generalize hG5 : g .st _ _ _ = E5
    generalize hX : putC _ _ _ = x at hG5
    cbv at hX
    subst hX
    obtain ⟨s5_, h5_, l5_⟩ := st_step hg hG5 s4_ hjl
    clear hG5 s4_ h4_ l4_
    rw [e4]
    cbv
    refine goNZ hg (by decide) ?_
    cbv
    rw [m5]
    cbv
    refine goYt hg h0 hj l5_ ?_
    cbv
    refine ⟨_, h5_, ?_⟩
    cbv
    generalize hG6 : g .st _ _ _ = E6
    generalize hX : putC _ _ _ = x at hG6
    cbv at hX
    subst hX
    obtain ⟨s6_, h6_, l6_⟩ := st_step hg hG6 s5_ hjl
    clear hG6 s5_ h5_ l5_
    rw [e5]
    cbv
    refine goYt hg h0 hj l6_ ?_
    cbv
    refine ⟨_, h6_, ?_⟩
    cbv
    generalize hG7 : g .st _ _ _ = E7
    generalize hX : putC _ _ _ = x at hG7
    cbv at hX
    subst hX
    obtain ⟨s7_, h7_, l7_⟩ := st_step hg hG7 s6_ hjl
    clear hG7 s6_ h6_ l6_
    rw [e6]
    cbv
    refine goYt hg h0 hj l7_ ?_
    cbv
    refine ⟨_, h7_, ?_⟩
    cbv
    generalize hG8 : g .st _ _ _ = E8
    generalize hX : putC _ _ _ = x at hG8
    cbv at hX
    subst hX
    obtain ⟨s8_, h8_, l8_⟩ := st_step hg hG8 s7_ hjl
    clear hG8 s7_ h7_ l7_
    rw [e7]
    cbv
    refine goYt hg h0 hj l8_ ?_
    cbv
    refine ⟨_, h8_, ?_⟩
    cbv
    generalize hG9 : g .st _ _ _ = E9
    generalize hX : putC _ _ _ = x at hG9
    cbv at hX
    subst hX
    obtain ⟨s9_, h9_, l9_⟩ := st_step hg hG9 s8_ hjl
    clear hG9 s8_ h8_ l8_
    rw [e8]
    cbv
    have hbare0 : ∀ x ∈ E9, x.all bareF = true := fun x hx => by
      rw [s9_] at hx
      rcases List.mem_or_eq_of_mem_set hx with h | h
      · exact hs.bare x h
      · rw [h]; rfl
    have hfp0 : fpE E9 = bs' := by rw [s9_]; exact (fpE_same he (by rfl)).trans hs.fp
    have hm0 := laws_markFrameS_n q8 B0 F0 hF0s hF0k hF0i hB0nd r9.1 r9.2
    rw [← hl0'] at hm0
    rw [← hq9] at hm0
    obtain ⟨M0, hM0⟩ : ∃ M, M = (vw GFrame.c (marksFrame q8 l0)) := ⟨_, rfl⟩
    rw [← hM0] at hm0
    refine hand_mark hg hhd fits 7 (by kernel_rfl) (fun mk hmk => ?_)
    cbv
    refine goYt hg h0 hj l9_ ?_
    cbv
    refine ⟨_, h9_, ?_⟩
    cbv
    subst hmk
    obtain ⟨E10, hE10⟩ : ∃ E', E' = E9.set j [.imm (.int .i64 kc), .imm (.int .i64 q0), .imm (.int .i64 q1), .imm (.int .i64 q2), .imm (.int .i64 q3), .imm (.bool t5), .imm (.int .i64 q5), .imm (.int .i64 q6), .imm (.int .i64 q7), .fv B0 M0] := ⟨_, rfl⟩
    obtain ⟨s10_, h10_, l10_⟩ := set_step hE10 s9_ hjl
    refine ⟨_, _, _, [(B0, F0, M0)], _, [(0, .t (.c (.own 0))), (1, .t (ai q8)), (5, .t (ai z))], [.rw ⟨ty, 10, E10⟩], rfl, rfl, rfl, rfl, rfl, hm0, fun u hu b hb => ?_, fun u hu => ?_, ⟨.inr (.inl ⟨rfl, trivial⟩), .inr (.inl ⟨rfl, trivial⟩), .inr (.inl ⟨rfl, trivial⟩), trivial⟩, ⟨?_, trivial⟩, ?_⟩
    · rw [List.mem_singleton.1 hu] at hb
      exact hex b (hfpe b (by simp [fpL, fpC]; first | exact hb | exact .inl hb | exact .inr hb))
    · rw [List.mem_singleton.1 hu]
      exact ⟨_, List.mem_cons_self .., List.mem_singleton.2 rfl⟩
    · rw [hE10]
      refine sf_row h9_ hbare0 (by rw [hfp0]; exact hnd') (fun u hu b hb => ?_) ⟨.inr (.inl ⟨rfl, trivial⟩), .inr (.inl ⟨rfl, trivial⟩), .inr (.inl ⟨rfl, trivial⟩), .inr (.inl ⟨rfl, trivial⟩), .inr (.inl ⟨rfl, trivial⟩), .inr (.inl ⟨rfl, trivial⟩), .inr (.inl ⟨rfl, trivial⟩), .inr (.inl ⟨rfl, trivial⟩), .inr (.inl ⟨rfl, trivial⟩), .inr (.inr ⟨_, List.mem_singleton.2 rfl, rfl, rfl⟩), trivial⟩
      rw [List.mem_singleton.1 hu] at hb
      simp [fpL, fpC]; first | exact hb | exact .inl hb | exact .inr hb
    cbv
    clear h9_ s9_ l9_
    rw [ez]
    rw [s10_]
    have hs' := hs.step (r := mkRowMemo kc l0) hj hc he (e' := [.imm (.int .i64 kc), .imm (.int .i64 q0), .imm (.int .i64 q1), .imm (.int .i64 q2), .imm (.int .i64 q3), .imm (.bool t5), .imm (.int .i64 q5), .imm (.int .i64 q6), .imm (.int .i64 q7), .fv B0 M0]) (rowMemo_eq hM0 ht5 hq0 hq1 hq2 hq3 hq4 hq5 hq6 hq7 hq8 hq9) rfl rfl rfl
    rw [hB]
    refine ⟨(z + 1, q9, _), ⟨_, hs', ?_, ?_, by simp only; rw [hnx]; exact Int.le_trans hkc (by have := endMkMemo_le [l0] kc; exact this)⟩, hmu, Wk.weak (wk1 ⟨⟨_, rfl, rfl, bare_plainE hs'.bare⟩, trivial⟩ ⟨rfl, rfl, rfl, trivial⟩)⟩
    · simp only
      rw [hnx, List.append_assoc]
      exact hR
    · simp only
      rw [hnx]
      exact hK
set_option maxHeartbeats 4000000 in
theorem laws_markKept_m (k0 : Int) (b0 b1 : List Nat) (V0 V1 : List (List AC)) (ls0 : List Nat) (ls1 : List Unit) (hV0 : V0.length = ls0.length) (hl0 : V0.length ≤ 1048576) (hok0 : ∀ (i : Nat) (x : List AC) (l : Nat), V0[i]? = some x → ls0[i]? = some l → okMkMemo x l)
    (hV1 : V1.length = ls1.length) (hl1 : V1.length ≤ 1048576) (hok1 : ∀ (i : Nat) (x : List AC) (l : Unit), V1[i]? = some x → ls1[i]? = some l → okMkAsked x l) (hnd : (b0 ++ b1).Nodup) (hk0 : 0 ≤ k0) (hk1 : endMkAsked (endMkMemo k0 ls0) ls1 ≤ 1152921504606846976) :
    MCon Tryz.prog 48 [.agg [.fv b0 V0, .fv b1 V1], ai k0] [(b0, V0, mkRowsMemo k0 ls0), (b1, V1, mkRowsAsked (endMkMemo k0 ls0) ls1)] (.int .i64 (endMkAsked (endMkMemo k0 ls0) ls1)) := by
  have hle := endMkAsked_le ls1 (endMkMemo k0 ls0)
  have hle0 := endMkMemo_le ls0 k0
  obtain ⟨hn0, hn1, hdj⟩ := List.nodup_append.1 hnd
  have hm0 := laws_markMemoS_m k0 b0 V0 ls0 hV0 hl0 hok0 hn0 hk0 (Int.le_trans hle hk1)
  have hm1 := laws_markAskedS_m (endMkMemo k0 ls0) b1 V1 ls1 hV1 hl1 hok1 hn1 (Int.le_trans hk0 hle0) hk1
  have kk0 : ∃ k : Nat, (∀ x ∈ V0, x.length = k) ∧ ∀ x ∈ mkRowsMemo k0 ls0, x.length = k := ⟨10, fun x hx => by
    obtain ⟨i, hi, rfl⟩ := List.getElem_of_mem hx
    obtain ⟨u0, u1, u2, u3, u4, u5, u6, u7, u8, F0, he, -⟩ := hok0 i _ _ (List.getElem?_eq_getElem hi) (List.getElem?_eq_getElem (by omega))
    rw [he]; rfl, mkRowsMemo_k ls0 k0⟩
  have kk1 : ∃ k : Nat, (∀ x ∈ V1, x.length = k) ∧ ∀ x ∈ mkRowsAsked (endMkMemo k0 ls0) ls1, x.length = k := ⟨6, fun x hx => by
    obtain ⟨i, hi, rfl⟩ := List.getElem_of_mem hx
    obtain ⟨u0, u1, u2, u3, u4, u5, he⟩ := hok1 i _ _ (List.getElem?_eq_getElem hi) (List.getElem?_eq_getElem (by omega))
    rw [he]; rfl, mkRowsAsked_k ls1 _⟩
  have ln0 : (mkRowsMemo k0 ls0).length = V0.length := by rw [mkRowsMemo_len, hV0]
  have ln1 : (mkRowsAsked (endMkMemo k0 ls0) ls1).length = V1.length := by rw [mkRowsAsked_len, hV1]
  clear hok0 hok1 hle hle0
  obtain ⟨R0, hR0⟩ : ∃ R, R = mkRowsMemo k0 ls0 := ⟨_, rfl⟩
  obtain ⟨R1, hR1⟩ : ∃ R, R = mkRowsAsked (endMkMemo k0 ls0) ls1 := ⟨_, rfl⟩
  obtain ⟨K1, hK1⟩ : ∃ K, K = endMkMemo k0 ls0 := ⟨_, rfl⟩
  obtain ⟨K2, hK2⟩ : ∃ K, K = endMkAsked (endMkMemo k0 ls0) ls1 := ⟨_, rfl⟩
  rw [← hR1, ← hK2, ← hK1] at hm1
  rw [← hR0, ← hK1] at hm0
  rw [← hR0] at kk0 ln0
  rw [← hR1] at kk1 ln1
  rw [← hR0, ← hR1, ← hK2]
  clear hR0 hR1 hK1 hK2 hk1
  refine mcon_wrap (fun u hu => ?_) ?_
  · rcases List.mem_cons.1 hu with rfl | hu
    · exact ⟨kk0, ln0⟩
    · rw [List.mem_singleton.1 hu]; exact ⟨kk1, ln1⟩
  obtain ⟨β, hβ⟩ : ∃ β : BP, β = ⟨0, fun b => ∃ u ∈ [(b0, V0, R0), (b1, V1, R1)], b ∈ u.1⟩ := ⟨_, rfl⟩
  have hx0 : ∀ b ∈ b0, β.ex b := by rw [hβ]; exact fun b hb => ⟨_, List.mem_cons_self .., hb⟩
  have hx1 : ∀ b ∈ b1, β.ex b := by rw [hβ]; exact fun b hb => ⟨_, List.mem_cons_of_mem _ (List.mem_cons_self ..), hb⟩
  rw [← hβ]
  clear hβ
  refine conx_run4 (h := []) [(1, .hand), (2, .hand)] [] (c := body Tryz.f48) fits Tryz.func48 (by kernel_rfl) (by kernel_rfl) (bl (by rfl)) (by kernel_rfl) fun g eff hd F heff hhd hg hF => ?_
  cbv
  refine hand_mark hg hhd fits 3 (by kernel_rfl) (fun mk hmk => ?_)
  cbv
  subst hmk
  refine ⟨_, _, _, [(b0, V0, R0)], _, [(2, .t (.c (.ptr 0 0 0))), (4, .t (ai 0))], [.bx 47 2 [.fv b0 R0, .fv b1 V1]], rfl, rfl, rfl, rfl, rfl, hm0, fun u hu b hb => hx0 b (by rw [List.mem_singleton.1 hu] at hb; exact hb), fun u hu => ?_, ⟨.inr (.inl ⟨rfl, trivial⟩), .inr (.inl ⟨rfl, trivial⟩), trivial⟩, ⟨⟨rfl, rfl, .inr (.inr ⟨_, List.mem_singleton.2 rfl, rfl, rfl⟩), .inr (.inl ⟨rfl, fun b hb u hu hbu => ?_⟩), trivial⟩, trivial⟩, ?_⟩
  · rw [List.mem_singleton.1 hu]; exact ⟨_, List.mem_cons_self .., List.mem_singleton.2 rfl⟩
  · rw [List.mem_singleton.1 hu] at hbu; exact hdj b hbu b hb rfl
  cbv
  refine hand_mark hg hhd fits 3 (by kernel_rfl) (fun mk hmk => ?_)
  cbv
  subst hmk
  refine ⟨_, _, _, [(b1, V1, R1)], _, [(2, .t (.c (.ptr 0 0 0))), (4, .t (ai 0))], [.bx 47 2 [.fv b0 R0, .fv b1 R1]], rfl, rfl, rfl, rfl, rfl, hm1, fun u hu b hb => hx1 b (by rw [List.mem_singleton.1 hu] at hb; exact hb), fun u hu => ?_, ⟨.inr (.inl ⟨rfl, trivial⟩), .inr (.inl ⟨rfl, trivial⟩), trivial⟩, ⟨⟨rfl, rfl, .inr (.inl ⟨rfl, fun b hb u hu hbu => ?_⟩), .inr (.inr ⟨_, List.mem_singleton.2 rfl, rfl, rfl⟩), trivial⟩, trivial⟩, ?_⟩
  · rw [List.mem_singleton.1 hu]; exact ⟨_, List.mem_cons_self .., List.mem_singleton.2 rfl⟩
  · rw [List.mem_singleton.1 hu] at hbu; exact hdj b hb b hbu rfl
  cbv
  refine finW hF 0 _ _ [.fv b0 R0, .fv b1 R1] rfl rfl (fun u hu => ?_)
  rcases List.mem_cons.1 hu with rfl | hu
  · exact List.mem_cons_self ..
  · rw [List.mem_singleton.1 hu]; exact List.mem_cons_of_mem _ (List.mem_cons_self ..)
theorem goNV {P : Program} {n0 N : Nat} {β : BP} {g : Gd} (hg : g = G0 P n0 N) {V : List (List AC)} {k by_ : Nat} {q : Prop} (hk : ∀ y ∈ V, y.length = k) (hb : by_ ≤ 65536) (hl : V.length ≤ 1048576) (hq : q) :
    g .N ((∀ x, x ∈ V → x.length = k) ∧ V.length * by_ ≤ 140737488355328 ∧ V.length ≤ 4611686018427387904) q :=
  goN hg ⟨hk, Nat.le_trans (Nat.mul_le_mul hl hb) (by decide), by omega⟩ hq
theorem goNV0 {P : Program} {n0 N : Nat} {β : BP} {g : Gd} (hg : g = G0 P n0 N) {V : List (List AC)} {t k k' by_ : Nat} {q : Prop} (hk : ∀ y ∈ V, y.length = k) (hb : by_ ≤ 65536) (hl : V.length ≤ 1048576) (hq : q) :
    g .N ((∀ x, x ∈ V → x.length = k) ∧ ((AB.mk t k' []).es.length + V.length) * by_ ≤ 140737488355328 ∧ (AB.mk t k' []).es.length + V.length ≤ 4611686018427387904) q :=
  goN hg ⟨hk, Nat.le_trans (Nat.mul_le_mul (show (0 : Nat) + V.length ≤ 1048576 by omega) hb) (by decide), by show 0 + V.length ≤ _; omega⟩ hq
section
variable {P : Program} {n0 N : Nat} {g : Gd}
end
theorem impl_copyFrames_a (xs : List GFrame) (hx : xs.length ≤ 1048576) : PCon Tryz.prog 85 [.c (.view (vw GFrame.c xs))] fun res rows => res = .t (.c (.own 0)) ∧ rows = [⟨128, 5, vw GFrame.c xs⟩] := by
  obtain ⟨V, hV⟩ : ∃ V, V = vw GFrame.c xs := ⟨_, rfl⟩
  have hVl : V.length = xs.length := by rw [hV, vw_length]
  have iV : immE V = true := by rw [hV]; exact vw_imm _ _
  have kV : ∀ y ∈ V, y.length = 5 := by rw [hV]; exact vw_k (c := GFrame.c) (k := 5) fun _ => rfl
  have dV : ∀ y ∈ V, y.all dat = true := by rw [hV]; exact vw_dat
  rw [← hV]
  refine pcon_run (c := body Tryz.f85) fits Tryz.func85 (by kernel_rfl) (by kernel_rfl) (by rfl) (by kernel_rfl) fun g F hg hF => ?_
  cbv
  refine goNV hg kV (by decide) (by rw [hVl]; exact hx) ?_
  cbv
  rw [goAp hg, List.nil_append]
  exact finRow hF rfl (imm_plainE iV)
section
variable {P : Program} {n0 N : Nat} {g : Gd}
end
theorem endMkMemo_bound : ∀ (ls : List Nat) (k : Int), (∀ l ∈ ls, l ≤ 1048576) → endMkMemo k ls ≤ k + 5242889 * (ls.length : Int)
  | [], k, _ => by simp [endMkMemo]
  | l :: ls, k, h => by
    have h1 := endMkMemo_bound ls (nxMkMemo k l) fun l' hl => h l' (List.mem_cons_of_mem _ hl)
    have h2 := h l (List.mem_cons_self ..)
    unfold endMkMemo
    unfold nxMkMemo at h1 ⊢
    simp only [List.length_cons]
    omega
theorem endMkAsked_bound : ∀ (ls : List Unit) (k : Int), endMkAsked k ls ≤ k + 6 * (ls.length : Int)
  | [], k => by simp [endMkAsked]
  | () :: ls, k => by
    have h1 := endMkAsked_bound ls (nxMkAsked k)
    unfold endMkAsked
    unfold nxMkAsked at h1 ⊢
    simp only [List.length_cons]
    omega
end Go.Proofs.YtenbloaopcfdlaaGreat
