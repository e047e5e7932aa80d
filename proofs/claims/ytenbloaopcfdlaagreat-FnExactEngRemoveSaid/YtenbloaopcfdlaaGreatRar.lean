/- The laws' copies and comparisons of structs that hold slices. -/
import Derived.Test.YtenbloaopcfdlaaGreatRaq
namespace Go.Proofs.YtenbloaopcfdlaaGreat
open Go.ChangeShapes Go.WideShapes Go.ChangeAt Go.RowKit Am
set_option linter.unusedVariables false
set_option linter.unusedSimpArgs false
set_option maxRecDepth 100000
set_option maxHeartbeats 8000000 in
theorem laws_toTable_n (x : NTable) (hs : x.small) : PCon Tryz.prog 23 [.agg x.ac] fun res rows => res = .t (.agg x.ac) ∧ rows = [] := by
  obtain ⟨a0⟩ := x
  obtain ⟨sa0, -⟩ := hs
  show PCon _ _ [.agg [.view (vw GRule.c a0)]] (fun res rows => res = .t (.agg [.view (vw GRule.c a0)]) ∧ rows = [])
  have c0 := toRow (laws_toRuleS_a a0 sa0)
  obtain ⟨Va0, hVa0⟩ : ∃ Va0, Va0 = vw GRule.c a0 := ⟨_, rfl⟩
  have hVa0l : Va0.length = a0.length := by rw [hVa0, vw_length]
  have iVa0 : immE Va0 = true := by rw [hVa0]; exact vw_imm _ _
  have kVa0 : ∀ y ∈ Va0, y.length = 3 := by rw [hVa0]; exact vw_k (c := GRule.c) (k := 3) fun _ => rfl
  have dVa0 : ∀ y ∈ Va0, y.all dat = true := by rw [hVa0]; exact vw_dat
  rw [← hVa0] at c0
  rw [← hVa0]
  refine pcon_run (c := body Tryz.f23) fits Tryz.func23 (by kernel_rfl) (by kernel_rfl) (by rfl) (by kernel_rfl) fun g F hg hF => ?_
  cbv
  repeat' (first | (refine callRow hg c0 (dat_data rfl) iVa0 ?_; cbv) | (refine callRowP hg c0 (dat_data rfl) iVa0 ?_; cbv))
  exact finFrz [.agg [.view Va0]] hF (.agg (by repeat' (first | exact .nil | refine .cons ?_ ?_ | exact .imm _ | exact .view _ | exact resRow (ab := ⟨_, _, Va0⟩) rfl kVa0 dVa0)) .nil) ⟨rfl, rfl⟩
set_option maxHeartbeats 8000000 in
theorem laws_eqTable_n (x : NTable) (hs : x.small) : PCon Tryz.prog 25 [.agg x.ac, .agg x.ac] fun res rows => res = .t (abl true) ∧ rows = [] := by
  obtain ⟨a0⟩ := x
  obtain ⟨sa0, -⟩ := hs
  show PCon _ _ [.agg [.view (vw GRule.c a0)], .agg [.view (vw GRule.c a0)]] (fun res rows => res = .t (abl true) ∧ rows = [])
  have c0 := laws_eqRuleS_a a0 a0 sa0
  rw [decide_eq_true rfl] at c0
  obtain ⟨Va0, hVa0⟩ : ∃ Va0, Va0 = vw GRule.c a0 := ⟨_, rfl⟩
  have hVa0l : Va0.length = a0.length := by rw [hVa0, vw_length]
  have iVa0 : immE Va0 = true := by rw [hVa0]; exact vw_imm _ _
  have kVa0 : ∀ y ∈ Va0, y.length = 3 := by rw [hVa0]; exact vw_k (c := GRule.c) (k := 3) fun _ => rfl
  have dVa0 : ∀ y ∈ Va0, y.all dat = true := by rw [hVa0]; exact vw_dat
  rw [← hVa0] at c0
  rw [← hVa0]
  refine pcon_run (c := body Tryz.f25) fits Tryz.func25 (by kernel_rfl) (by kernel_rfl) (by rfl) (by kernel_rfl) fun g F hg hF => ?_
  cbv
  have q : ∀ a : Int, g .q .neq a a = false := fun a => by rw [goNeq hg]; simp
  have qb : ∀ a : Bool, g .qb .neq a a = false := fun a => by rw [goNeqB hg]; simp
  repeat' (first | (rw [q]; cbv) | (rw [qb]; cbv) | (refine call0 hg c0 rfl rfl ?_; cbv) | (refine call0P hg c0 rfl rfl ?_; cbv))
  exact fin0b hF rfl
set_option maxHeartbeats 8000000 in
theorem laws_szTable_n (x : NTable) (L : Int) (hf : x.fit) (h0 : 0 ≤ L) (h1 : L ≤ 1048576) : PCon Tryz.prog 21 [.agg x.ac, ai L] fun res rows => ∃ R : Int, res = .t (ai R) ∧ rows = [] ∧ (R ≤ L ∨ R < 0) ∧ (0 ≤ R → x.small) := by
  obtain ⟨a0⟩ := x
  obtain ⟨sa0, -⟩ := hf
  show PCon _ _ [.agg [.view (vw GRule.c a0)], ai L] (fun res rows => ∃ R : Int, res = .t (ai R) ∧ rows = [] ∧ (R ≤ L ∨ R < 0) ∧ (0 ≤ R → NTable.small ⟨a0⟩))
  have c0 := fun (M : Int) (h0 : 0 ≤ M) (h1 : M ≤ 1048576) => szZ (laws_szRuleS_b (vw GRule.c a0) M (by rw [vw_length]; exact sa0) h0 h1)
  obtain ⟨Va0, hVa0⟩ : ∃ Va0, Va0 = vw GRule.c a0 := ⟨_, rfl⟩
  have hVa0l : Va0.length = a0.length := by rw [hVa0, vw_length]
  have iVa0 : immE Va0 = true := by rw [hVa0]; exact vw_imm _ _
  have kVa0 : ∀ y ∈ Va0, y.length = 3 := by rw [hVa0]; exact vw_k (c := GRule.c) (k := 3) fun _ => rfl
  have dVa0 : ∀ y ∈ Va0, y.all dat = true := by rw [hVa0]; exact vw_dat
  have c0' : ∀ (M : Int), 0 ≤ M → M ≤ 1048576 → PCon _ _ [.c (.view Va0), ai M] (fun res rows => ∃ R : Int, res = .t (ai R) ∧ rows = [] ∧ (R ≤ M ∨ R < 0) ∧ (0 ≤ R → ((Va0.length : Nat) : Int) ≤ M)) := fun M h0 h1 => by have := c0 M h0 h1; rw [← hVa0] at this; exact this
  rw [← hVa0]
  refine pcon_run (c := body Tryz.f21) fits Tryz.func21 (by kernel_rfl) (by kernel_rfl) (by rfl) (by kernel_rfl) fun g F hg hF => ?_
  cbv
  refine callZ hg (c0' L h0 h1) rfl (fun R0 hR0 => ?_)
  obtain ⟨hR0, hB0⟩ := hR0
  cbv
  cases e0 : g .q .lss R0 0
  case true =>
    cbv
    exact finZ hF ⟨.inr (by decide), fun h => absurd h (by decide)⟩
  rw [goLss hg, decide_eq_false_iff_not] at e0
  have p0 : 0 ≤ R0 := by omega
  have r0 : R0 ≤ 1048576 := by omega
  cbv
  exact finZ hF ⟨.inl (by omega), fun _ => ⟨small_of hVa0l (hB0 p0) h1, trivial⟩⟩
set_option maxHeartbeats 8000000 in
theorem laws_toNode_n (x : NNode) (hs : x.small) : PCon Tryz.prog 119 [.agg x.ac] fun res rows => res = .t (.agg x.ac) ∧ rows = [] := by
  obtain ⟨a0, a1, ⟨a2, a3, a4, a5, a6, a7, a8, a9, a10, a11, a12, ⟨a13, a14⟩, ⟨a15, a16⟩, ⟨a17, a18⟩, ⟨a19, a20⟩, ⟨a21, a22⟩, ⟨a23, a24⟩, ⟨a25, a26⟩, a27, ⟨⟨a28, a29⟩, ⟨a30, a31⟩, ⟨a32, a33⟩, ⟨a34, a35⟩, ⟨a36, a37⟩, ⟨a38, a39⟩⟩, ⟨⟨a40, a41⟩, ⟨a42, a43⟩, ⟨a44, a45⟩, ⟨a46, a47⟩, ⟨a48, a49⟩, ⟨a50, a51⟩⟩, ⟨a52, a53, a54, a55⟩, ⟨a56, a57, a58, a59⟩, a60, a61⟩, a62, ⟨a63⟩⟩ := x
  obtain ⟨sa1, sa63, -⟩ := hs
  show PCon _ _ [.agg [.imm (.int .i64 a0), .view (vw intC a1), .imm (.int .i64 a2), .imm (.int .i64 a3), .imm (.int .i64 a4), .imm (.int .i64 a5), .imm (.int .i64 a6), .imm (.int .i64 a7), .imm (.bool a8), .imm (.bool a9), .imm (.int .i64 a10), .imm (.int .i64 a11), .imm (.int .i64 a12), .imm (.int .i64 a13), .imm (.int .i64 a14), .imm (.int .i64 a15), .imm (.int .i64 a16), .imm (.int .i64 a17), .imm (.int .i64 a18), .imm (.int .i64 a19), .imm (.int .i64 a20), .imm (.int .i64 a21), .imm (.int .i64 a22), .imm (.int .i64 a23), .imm (.int .i64 a24), .imm (.int .i64 a25), .imm (.int .i64 a26), .imm (.int .i64 a27), .imm (.int .i64 a28), .imm (.int .i64 a29), .imm (.int .i64 a30), .imm (.int .i64 a31), .imm (.int .i64 a32), .imm (.int .i64 a33), .imm (.int .i64 a34), .imm (.int .i64 a35), .imm (.int .i64 a36), .imm (.int .i64 a37), .imm (.int .i64 a38), .imm (.int .i64 a39), .imm (.int .i64 a40), .imm (.int .i64 a41), .imm (.int .i64 a42), .imm (.int .i64 a43), .imm (.int .i64 a44), .imm (.int .i64 a45), .imm (.int .i64 a46), .imm (.int .i64 a47), .imm (.int .i64 a48), .imm (.int .i64 a49), .imm (.int .i64 a50), .imm (.int .i64 a51), .imm (.int .i64 a52), .imm (.int .i64 a53), .imm (.int .i64 a54), .imm (.int .i64 a55), .imm (.int .i64 a56), .imm (.int .i64 a57), .imm (.int .i64 a58), .imm (.int .i64 a59), .imm (.int .i64 a60), .imm (.int .i64 a61), .imm (.bool a62), .view (vw GRule.c a63)]] (fun res rows => res = .t (.agg [.imm (.int .i64 a0), .view (vw intC a1), .imm (.int .i64 a2), .imm (.int .i64 a3), .imm (.int .i64 a4), .imm (.int .i64 a5), .imm (.int .i64 a6), .imm (.int .i64 a7), .imm (.bool a8), .imm (.bool a9), .imm (.int .i64 a10), .imm (.int .i64 a11), .imm (.int .i64 a12), .imm (.int .i64 a13), .imm (.int .i64 a14), .imm (.int .i64 a15), .imm (.int .i64 a16), .imm (.int .i64 a17), .imm (.int .i64 a18), .imm (.int .i64 a19), .imm (.int .i64 a20), .imm (.int .i64 a21), .imm (.int .i64 a22), .imm (.int .i64 a23), .imm (.int .i64 a24), .imm (.int .i64 a25), .imm (.int .i64 a26), .imm (.int .i64 a27), .imm (.int .i64 a28), .imm (.int .i64 a29), .imm (.int .i64 a30), .imm (.int .i64 a31), .imm (.int .i64 a32), .imm (.int .i64 a33), .imm (.int .i64 a34), .imm (.int .i64 a35), .imm (.int .i64 a36), .imm (.int .i64 a37), .imm (.int .i64 a38), .imm (.int .i64 a39), .imm (.int .i64 a40), .imm (.int .i64 a41), .imm (.int .i64 a42), .imm (.int .i64 a43), .imm (.int .i64 a44), .imm (.int .i64 a45), .imm (.int .i64 a46), .imm (.int .i64 a47), .imm (.int .i64 a48), .imm (.int .i64 a49), .imm (.int .i64 a50), .imm (.int .i64 a51), .imm (.int .i64 a52), .imm (.int .i64 a53), .imm (.int .i64 a54), .imm (.int .i64 a55), .imm (.int .i64 a56), .imm (.int .i64 a57), .imm (.int .i64 a58), .imm (.int .i64 a59), .imm (.int .i64 a60), .imm (.int .i64 a61), .imm (.bool a62), .view (vw GRule.c a63)]) ∧ rows = [])
  have c1 := toRow (laws_toIntS_a a1 sa1)
  have c63 : PCon Tryz.prog 23 [.agg [.view (vw GRule.c a63)]] (fun res rows => res = .t (.agg [.view (vw GRule.c a63)]) ∧ rows = []) := laws_toTable_n ⟨a63⟩ ⟨sa63, trivial⟩
  obtain ⟨Va1, hVa1⟩ : ∃ Va1, Va1 = vw intC a1 := ⟨_, rfl⟩
  have hVa1l : Va1.length = a1.length := by rw [hVa1, vw_length]
  have iVa1 : immE Va1 = true := by rw [hVa1]; exact vw_imm _ _
  have kVa1 : ∀ y ∈ Va1, y.length = 1 := by rw [hVa1]; exact vw_k (c := intC) (k := 1) fun _ => rfl
  have dVa1 : ∀ y ∈ Va1, y.all dat = true := by rw [hVa1]; exact vw_dat
  obtain ⟨Va63, hVa63⟩ : ∃ Va63, Va63 = vw GRule.c a63 := ⟨_, rfl⟩
  have hVa63l : Va63.length = a63.length := by rw [hVa63, vw_length]
  have iVa63 : immE Va63 = true := by rw [hVa63]; exact vw_imm _ _
  have kVa63 : ∀ y ∈ Va63, y.length = 3 := by rw [hVa63]; exact vw_k (c := GRule.c) (k := 3) fun _ => rfl
  have dVa63 : ∀ y ∈ Va63, y.all dat = true := by rw [hVa63]; exact vw_dat
  rw [← hVa1] at c1
  rw [← hVa63] at c63
  rw [← hVa1, ← hVa63]
  refine pcon_run (c := body Tryz.f119) fits Tryz.func119 (by kernel_rfl) (by kernel_rfl) (by rfl) (by kernel_rfl) fun g F hg hF => ?_
  cbv
  repeat' (first | (refine callRow hg c1 (dat_data rfl) iVa1 ?_; cbv) | (refine callRowP hg c1 (dat_data rfl) iVa1 ?_; cbv) | (refine call0 hg (laws_toStyle_a (⟨a2, a3, a4, a5, a6, a7, a8, a9, a10, a11, a12, ⟨a13, a14⟩, ⟨a15, a16⟩, ⟨a17, a18⟩, ⟨a19, a20⟩, ⟨a21, a22⟩, ⟨a23, a24⟩, ⟨a25, a26⟩, a27, ⟨⟨a28, a29⟩, ⟨a30, a31⟩, ⟨a32, a33⟩, ⟨a34, a35⟩, ⟨a36, a37⟩, ⟨a38, a39⟩⟩, ⟨⟨a40, a41⟩, ⟨a42, a43⟩, ⟨a44, a45⟩, ⟨a46, a47⟩, ⟨a48, a49⟩, ⟨a50, a51⟩⟩, ⟨a52, a53, a54, a55⟩, ⟨a56, a57, a58, a59⟩, a60, a61⟩ : GStyle)) rfl rfl ?_; cbv) | (refine call0P hg (laws_toStyle_a (⟨a2, a3, a4, a5, a6, a7, a8, a9, a10, a11, a12, ⟨a13, a14⟩, ⟨a15, a16⟩, ⟨a17, a18⟩, ⟨a19, a20⟩, ⟨a21, a22⟩, ⟨a23, a24⟩, ⟨a25, a26⟩, a27, ⟨⟨a28, a29⟩, ⟨a30, a31⟩, ⟨a32, a33⟩, ⟨a34, a35⟩, ⟨a36, a37⟩, ⟨a38, a39⟩⟩, ⟨⟨a40, a41⟩, ⟨a42, a43⟩, ⟨a44, a45⟩, ⟨a46, a47⟩, ⟨a48, a49⟩, ⟨a50, a51⟩⟩, ⟨a52, a53, a54, a55⟩, ⟨a56, a57, a58, a59⟩, a60, a61⟩ : GStyle)) rfl rfl ?_; cbv) | (refine call0 hg c63 rfl rfl ?_; cbv) | (refine call0P hg c63 rfl rfl ?_; cbv))
  exact finFrz [.agg [.imm (.int .i64 a0), .view Va1, .imm (.int .i64 a2), .imm (.int .i64 a3), .imm (.int .i64 a4), .imm (.int .i64 a5), .imm (.int .i64 a6), .imm (.int .i64 a7), .imm (.bool a8), .imm (.bool a9), .imm (.int .i64 a10), .imm (.int .i64 a11), .imm (.int .i64 a12), .imm (.int .i64 a13), .imm (.int .i64 a14), .imm (.int .i64 a15), .imm (.int .i64 a16), .imm (.int .i64 a17), .imm (.int .i64 a18), .imm (.int .i64 a19), .imm (.int .i64 a20), .imm (.int .i64 a21), .imm (.int .i64 a22), .imm (.int .i64 a23), .imm (.int .i64 a24), .imm (.int .i64 a25), .imm (.int .i64 a26), .imm (.int .i64 a27), .imm (.int .i64 a28), .imm (.int .i64 a29), .imm (.int .i64 a30), .imm (.int .i64 a31), .imm (.int .i64 a32), .imm (.int .i64 a33), .imm (.int .i64 a34), .imm (.int .i64 a35), .imm (.int .i64 a36), .imm (.int .i64 a37), .imm (.int .i64 a38), .imm (.int .i64 a39), .imm (.int .i64 a40), .imm (.int .i64 a41), .imm (.int .i64 a42), .imm (.int .i64 a43), .imm (.int .i64 a44), .imm (.int .i64 a45), .imm (.int .i64 a46), .imm (.int .i64 a47), .imm (.int .i64 a48), .imm (.int .i64 a49), .imm (.int .i64 a50), .imm (.int .i64 a51), .imm (.int .i64 a52), .imm (.int .i64 a53), .imm (.int .i64 a54), .imm (.int .i64 a55), .imm (.int .i64 a56), .imm (.int .i64 a57), .imm (.int .i64 a58), .imm (.int .i64 a59), .imm (.int .i64 a60), .imm (.int .i64 a61), .imm (.bool a62), .view Va63]] hF (.agg (by repeat' (first | exact .nil | refine .cons ?_ ?_ | exact .imm _ | exact .view _ | exact resRow (ab := ⟨_, _, Va1⟩) rfl kVa1 dVa1 | exact resRow (ab := ⟨_, _, Va63⟩) rfl kVa63 dVa63)) .nil) ⟨rfl, rfl⟩
set_option maxHeartbeats 8000000 in
theorem laws_eqNode_n (x : NNode) (hs : x.small) : PCon Tryz.prog 126 [.agg x.ac, .agg x.ac] fun res rows => res = .t (abl true) ∧ rows = [] := by
  obtain ⟨a0, a1, ⟨a2, a3, a4, a5, a6, a7, a8, a9, a10, a11, a12, ⟨a13, a14⟩, ⟨a15, a16⟩, ⟨a17, a18⟩, ⟨a19, a20⟩, ⟨a21, a22⟩, ⟨a23, a24⟩, ⟨a25, a26⟩, a27, ⟨⟨a28, a29⟩, ⟨a30, a31⟩, ⟨a32, a33⟩, ⟨a34, a35⟩, ⟨a36, a37⟩, ⟨a38, a39⟩⟩, ⟨⟨a40, a41⟩, ⟨a42, a43⟩, ⟨a44, a45⟩, ⟨a46, a47⟩, ⟨a48, a49⟩, ⟨a50, a51⟩⟩, ⟨a52, a53, a54, a55⟩, ⟨a56, a57, a58, a59⟩, a60, a61⟩, a62, ⟨a63⟩⟩ := x
  obtain ⟨sa1, sa63, -⟩ := hs
  show PCon _ _ [.agg [.imm (.int .i64 a0), .view (vw intC a1), .imm (.int .i64 a2), .imm (.int .i64 a3), .imm (.int .i64 a4), .imm (.int .i64 a5), .imm (.int .i64 a6), .imm (.int .i64 a7), .imm (.bool a8), .imm (.bool a9), .imm (.int .i64 a10), .imm (.int .i64 a11), .imm (.int .i64 a12), .imm (.int .i64 a13), .imm (.int .i64 a14), .imm (.int .i64 a15), .imm (.int .i64 a16), .imm (.int .i64 a17), .imm (.int .i64 a18), .imm (.int .i64 a19), .imm (.int .i64 a20), .imm (.int .i64 a21), .imm (.int .i64 a22), .imm (.int .i64 a23), .imm (.int .i64 a24), .imm (.int .i64 a25), .imm (.int .i64 a26), .imm (.int .i64 a27), .imm (.int .i64 a28), .imm (.int .i64 a29), .imm (.int .i64 a30), .imm (.int .i64 a31), .imm (.int .i64 a32), .imm (.int .i64 a33), .imm (.int .i64 a34), .imm (.int .i64 a35), .imm (.int .i64 a36), .imm (.int .i64 a37), .imm (.int .i64 a38), .imm (.int .i64 a39), .imm (.int .i64 a40), .imm (.int .i64 a41), .imm (.int .i64 a42), .imm (.int .i64 a43), .imm (.int .i64 a44), .imm (.int .i64 a45), .imm (.int .i64 a46), .imm (.int .i64 a47), .imm (.int .i64 a48), .imm (.int .i64 a49), .imm (.int .i64 a50), .imm (.int .i64 a51), .imm (.int .i64 a52), .imm (.int .i64 a53), .imm (.int .i64 a54), .imm (.int .i64 a55), .imm (.int .i64 a56), .imm (.int .i64 a57), .imm (.int .i64 a58), .imm (.int .i64 a59), .imm (.int .i64 a60), .imm (.int .i64 a61), .imm (.bool a62), .view (vw GRule.c a63)], .agg [.imm (.int .i64 a0), .view (vw intC a1), .imm (.int .i64 a2), .imm (.int .i64 a3), .imm (.int .i64 a4), .imm (.int .i64 a5), .imm (.int .i64 a6), .imm (.int .i64 a7), .imm (.bool a8), .imm (.bool a9), .imm (.int .i64 a10), .imm (.int .i64 a11), .imm (.int .i64 a12), .imm (.int .i64 a13), .imm (.int .i64 a14), .imm (.int .i64 a15), .imm (.int .i64 a16), .imm (.int .i64 a17), .imm (.int .i64 a18), .imm (.int .i64 a19), .imm (.int .i64 a20), .imm (.int .i64 a21), .imm (.int .i64 a22), .imm (.int .i64 a23), .imm (.int .i64 a24), .imm (.int .i64 a25), .imm (.int .i64 a26), .imm (.int .i64 a27), .imm (.int .i64 a28), .imm (.int .i64 a29), .imm (.int .i64 a30), .imm (.int .i64 a31), .imm (.int .i64 a32), .imm (.int .i64 a33), .imm (.int .i64 a34), .imm (.int .i64 a35), .imm (.int .i64 a36), .imm (.int .i64 a37), .imm (.int .i64 a38), .imm (.int .i64 a39), .imm (.int .i64 a40), .imm (.int .i64 a41), .imm (.int .i64 a42), .imm (.int .i64 a43), .imm (.int .i64 a44), .imm (.int .i64 a45), .imm (.int .i64 a46), .imm (.int .i64 a47), .imm (.int .i64 a48), .imm (.int .i64 a49), .imm (.int .i64 a50), .imm (.int .i64 a51), .imm (.int .i64 a52), .imm (.int .i64 a53), .imm (.int .i64 a54), .imm (.int .i64 a55), .imm (.int .i64 a56), .imm (.int .i64 a57), .imm (.int .i64 a58), .imm (.int .i64 a59), .imm (.int .i64 a60), .imm (.int .i64 a61), .imm (.bool a62), .view (vw GRule.c a63)]] (fun res rows => res = .t (abl true) ∧ rows = [])
  have c1 := laws_eqIntS_a a1 a1 sa1
  rw [decide_eq_true rfl] at c1
  have c2 : PCon Tryz.prog 140 [.agg [.imm (.int .i64 a2), .imm (.int .i64 a3), .imm (.int .i64 a4), .imm (.int .i64 a5), .imm (.int .i64 a6), .imm (.int .i64 a7), .imm (.bool a8), .imm (.bool a9), .imm (.int .i64 a10), .imm (.int .i64 a11), .imm (.int .i64 a12), .imm (.int .i64 a13), .imm (.int .i64 a14), .imm (.int .i64 a15), .imm (.int .i64 a16), .imm (.int .i64 a17), .imm (.int .i64 a18), .imm (.int .i64 a19), .imm (.int .i64 a20), .imm (.int .i64 a21), .imm (.int .i64 a22), .imm (.int .i64 a23), .imm (.int .i64 a24), .imm (.int .i64 a25), .imm (.int .i64 a26), .imm (.int .i64 a27), .imm (.int .i64 a28), .imm (.int .i64 a29), .imm (.int .i64 a30), .imm (.int .i64 a31), .imm (.int .i64 a32), .imm (.int .i64 a33), .imm (.int .i64 a34), .imm (.int .i64 a35), .imm (.int .i64 a36), .imm (.int .i64 a37), .imm (.int .i64 a38), .imm (.int .i64 a39), .imm (.int .i64 a40), .imm (.int .i64 a41), .imm (.int .i64 a42), .imm (.int .i64 a43), .imm (.int .i64 a44), .imm (.int .i64 a45), .imm (.int .i64 a46), .imm (.int .i64 a47), .imm (.int .i64 a48), .imm (.int .i64 a49), .imm (.int .i64 a50), .imm (.int .i64 a51), .imm (.int .i64 a52), .imm (.int .i64 a53), .imm (.int .i64 a54), .imm (.int .i64 a55), .imm (.int .i64 a56), .imm (.int .i64 a57), .imm (.int .i64 a58), .imm (.int .i64 a59), .imm (.int .i64 a60), .imm (.int .i64 a61)], .agg [.imm (.int .i64 a2), .imm (.int .i64 a3), .imm (.int .i64 a4), .imm (.int .i64 a5), .imm (.int .i64 a6), .imm (.int .i64 a7), .imm (.bool a8), .imm (.bool a9), .imm (.int .i64 a10), .imm (.int .i64 a11), .imm (.int .i64 a12), .imm (.int .i64 a13), .imm (.int .i64 a14), .imm (.int .i64 a15), .imm (.int .i64 a16), .imm (.int .i64 a17), .imm (.int .i64 a18), .imm (.int .i64 a19), .imm (.int .i64 a20), .imm (.int .i64 a21), .imm (.int .i64 a22), .imm (.int .i64 a23), .imm (.int .i64 a24), .imm (.int .i64 a25), .imm (.int .i64 a26), .imm (.int .i64 a27), .imm (.int .i64 a28), .imm (.int .i64 a29), .imm (.int .i64 a30), .imm (.int .i64 a31), .imm (.int .i64 a32), .imm (.int .i64 a33), .imm (.int .i64 a34), .imm (.int .i64 a35), .imm (.int .i64 a36), .imm (.int .i64 a37), .imm (.int .i64 a38), .imm (.int .i64 a39), .imm (.int .i64 a40), .imm (.int .i64 a41), .imm (.int .i64 a42), .imm (.int .i64 a43), .imm (.int .i64 a44), .imm (.int .i64 a45), .imm (.int .i64 a46), .imm (.int .i64 a47), .imm (.int .i64 a48), .imm (.int .i64 a49), .imm (.int .i64 a50), .imm (.int .i64 a51), .imm (.int .i64 a52), .imm (.int .i64 a53), .imm (.int .i64 a54), .imm (.int .i64 a55), .imm (.int .i64 a56), .imm (.int .i64 a57), .imm (.int .i64 a58), .imm (.int .i64 a59), .imm (.int .i64 a60), .imm (.int .i64 a61)]] (fun res rows => res = .t (abl (decide ((⟨a2, a3, a4, a5, a6, a7, a8, a9, a10, a11, a12, ⟨a13, a14⟩, ⟨a15, a16⟩, ⟨a17, a18⟩, ⟨a19, a20⟩, ⟨a21, a22⟩, ⟨a23, a24⟩, ⟨a25, a26⟩, a27, ⟨⟨a28, a29⟩, ⟨a30, a31⟩, ⟨a32, a33⟩, ⟨a34, a35⟩, ⟨a36, a37⟩, ⟨a38, a39⟩⟩, ⟨⟨a40, a41⟩, ⟨a42, a43⟩, ⟨a44, a45⟩, ⟨a46, a47⟩, ⟨a48, a49⟩, ⟨a50, a51⟩⟩, ⟨a52, a53, a54, a55⟩, ⟨a56, a57, a58, a59⟩, a60, a61⟩ : GStyle) = ⟨a2, a3, a4, a5, a6, a7, a8, a9, a10, a11, a12, ⟨a13, a14⟩, ⟨a15, a16⟩, ⟨a17, a18⟩, ⟨a19, a20⟩, ⟨a21, a22⟩, ⟨a23, a24⟩, ⟨a25, a26⟩, a27, ⟨⟨a28, a29⟩, ⟨a30, a31⟩, ⟨a32, a33⟩, ⟨a34, a35⟩, ⟨a36, a37⟩, ⟨a38, a39⟩⟩, ⟨⟨a40, a41⟩, ⟨a42, a43⟩, ⟨a44, a45⟩, ⟨a46, a47⟩, ⟨a48, a49⟩, ⟨a50, a51⟩⟩, ⟨a52, a53, a54, a55⟩, ⟨a56, a57, a58, a59⟩, a60, a61⟩))) ∧ rows = []) := laws_eqStyle_a ⟨a2, a3, a4, a5, a6, a7, a8, a9, a10, a11, a12, ⟨a13, a14⟩, ⟨a15, a16⟩, ⟨a17, a18⟩, ⟨a19, a20⟩, ⟨a21, a22⟩, ⟨a23, a24⟩, ⟨a25, a26⟩, a27, ⟨⟨a28, a29⟩, ⟨a30, a31⟩, ⟨a32, a33⟩, ⟨a34, a35⟩, ⟨a36, a37⟩, ⟨a38, a39⟩⟩, ⟨⟨a40, a41⟩, ⟨a42, a43⟩, ⟨a44, a45⟩, ⟨a46, a47⟩, ⟨a48, a49⟩, ⟨a50, a51⟩⟩, ⟨a52, a53, a54, a55⟩, ⟨a56, a57, a58, a59⟩, a60, a61⟩ ⟨a2, a3, a4, a5, a6, a7, a8, a9, a10, a11, a12, ⟨a13, a14⟩, ⟨a15, a16⟩, ⟨a17, a18⟩, ⟨a19, a20⟩, ⟨a21, a22⟩, ⟨a23, a24⟩, ⟨a25, a26⟩, a27, ⟨⟨a28, a29⟩, ⟨a30, a31⟩, ⟨a32, a33⟩, ⟨a34, a35⟩, ⟨a36, a37⟩, ⟨a38, a39⟩⟩, ⟨⟨a40, a41⟩, ⟨a42, a43⟩, ⟨a44, a45⟩, ⟨a46, a47⟩, ⟨a48, a49⟩, ⟨a50, a51⟩⟩, ⟨a52, a53, a54, a55⟩, ⟨a56, a57, a58, a59⟩, a60, a61⟩
  rw [decide_eq_true rfl] at c2
  have c63 : PCon Tryz.prog 25 [.agg [.view (vw GRule.c a63)], .agg [.view (vw GRule.c a63)]] (fun res rows => res = .t (abl true) ∧ rows = []) := laws_eqTable_n ⟨a63⟩ ⟨sa63, trivial⟩
  obtain ⟨Va1, hVa1⟩ : ∃ Va1, Va1 = vw intC a1 := ⟨_, rfl⟩
  have hVa1l : Va1.length = a1.length := by rw [hVa1, vw_length]
  have iVa1 : immE Va1 = true := by rw [hVa1]; exact vw_imm _ _
  have kVa1 : ∀ y ∈ Va1, y.length = 1 := by rw [hVa1]; exact vw_k (c := intC) (k := 1) fun _ => rfl
  have dVa1 : ∀ y ∈ Va1, y.all dat = true := by rw [hVa1]; exact vw_dat
  obtain ⟨Va63, hVa63⟩ : ∃ Va63, Va63 = vw GRule.c a63 := ⟨_, rfl⟩
  have hVa63l : Va63.length = a63.length := by rw [hVa63, vw_length]
  have iVa63 : immE Va63 = true := by rw [hVa63]; exact vw_imm _ _
  have kVa63 : ∀ y ∈ Va63, y.length = 3 := by rw [hVa63]; exact vw_k (c := GRule.c) (k := 3) fun _ => rfl
  have dVa63 : ∀ y ∈ Va63, y.all dat = true := by rw [hVa63]; exact vw_dat
  rw [← hVa1] at c1
  rw [← hVa63] at c63
  rw [← hVa1, ← hVa63]
  refine pcon_run (c := body Tryz.f126) fits Tryz.func126 (by kernel_rfl) (by kernel_rfl) (by rfl) (by kernel_rfl) fun g F hg hF => ?_
  cbv
  have q : ∀ a : Int, g .q .neq a a = false := fun a => by rw [goNeq hg]; simp
  have qb : ∀ a : Bool, g .qb .neq a a = false := fun a => by rw [goNeqB hg]; simp
  repeat' (first | (rw [q]; cbv) | (rw [qb]; cbv) | (refine call0 hg c1 rfl rfl ?_; cbv) | (refine call0P hg c1 rfl rfl ?_; cbv) | (refine call0 hg c2 rfl rfl ?_; cbv) | (refine call0P hg c2 rfl rfl ?_; cbv) | (refine call0 hg c63 rfl rfl ?_; cbv) | (refine call0P hg c63 rfl rfl ?_; cbv))
  exact fin0b hF rfl
set_option maxHeartbeats 8000000 in
theorem laws_szNode_n (x : NNode) (L : Int) (hf : x.fit) (h0 : 0 ≤ L) (h1 : L ≤ 1048576) : PCon Tryz.prog 113 [.agg x.ac, ai L] fun res rows => ∃ R : Int, res = .t (ai R) ∧ rows = [] ∧ (R ≤ L ∨ R < 0) ∧ (0 ≤ R → x.small) := by
  obtain ⟨a0, a1, ⟨a2, a3, a4, a5, a6, a7, a8, a9, a10, a11, a12, ⟨a13, a14⟩, ⟨a15, a16⟩, ⟨a17, a18⟩, ⟨a19, a20⟩, ⟨a21, a22⟩, ⟨a23, a24⟩, ⟨a25, a26⟩, a27, ⟨⟨a28, a29⟩, ⟨a30, a31⟩, ⟨a32, a33⟩, ⟨a34, a35⟩, ⟨a36, a37⟩, ⟨a38, a39⟩⟩, ⟨⟨a40, a41⟩, ⟨a42, a43⟩, ⟨a44, a45⟩, ⟨a46, a47⟩, ⟨a48, a49⟩, ⟨a50, a51⟩⟩, ⟨a52, a53, a54, a55⟩, ⟨a56, a57, a58, a59⟩, a60, a61⟩, a62, ⟨a63⟩⟩ := x
  obtain ⟨sa1, sa63, -⟩ := hf
  show PCon _ _ [.agg [.imm (.int .i64 a0), .view (vw intC a1), .imm (.int .i64 a2), .imm (.int .i64 a3), .imm (.int .i64 a4), .imm (.int .i64 a5), .imm (.int .i64 a6), .imm (.int .i64 a7), .imm (.bool a8), .imm (.bool a9), .imm (.int .i64 a10), .imm (.int .i64 a11), .imm (.int .i64 a12), .imm (.int .i64 a13), .imm (.int .i64 a14), .imm (.int .i64 a15), .imm (.int .i64 a16), .imm (.int .i64 a17), .imm (.int .i64 a18), .imm (.int .i64 a19), .imm (.int .i64 a20), .imm (.int .i64 a21), .imm (.int .i64 a22), .imm (.int .i64 a23), .imm (.int .i64 a24), .imm (.int .i64 a25), .imm (.int .i64 a26), .imm (.int .i64 a27), .imm (.int .i64 a28), .imm (.int .i64 a29), .imm (.int .i64 a30), .imm (.int .i64 a31), .imm (.int .i64 a32), .imm (.int .i64 a33), .imm (.int .i64 a34), .imm (.int .i64 a35), .imm (.int .i64 a36), .imm (.int .i64 a37), .imm (.int .i64 a38), .imm (.int .i64 a39), .imm (.int .i64 a40), .imm (.int .i64 a41), .imm (.int .i64 a42), .imm (.int .i64 a43), .imm (.int .i64 a44), .imm (.int .i64 a45), .imm (.int .i64 a46), .imm (.int .i64 a47), .imm (.int .i64 a48), .imm (.int .i64 a49), .imm (.int .i64 a50), .imm (.int .i64 a51), .imm (.int .i64 a52), .imm (.int .i64 a53), .imm (.int .i64 a54), .imm (.int .i64 a55), .imm (.int .i64 a56), .imm (.int .i64 a57), .imm (.int .i64 a58), .imm (.int .i64 a59), .imm (.int .i64 a60), .imm (.int .i64 a61), .imm (.bool a62), .view (vw GRule.c a63)], ai L] (fun res rows => ∃ R : Int, res = .t (ai R) ∧ rows = [] ∧ (R ≤ L ∨ R < 0) ∧ (0 ≤ R → NNode.small ⟨a0, a1, ⟨a2, a3, a4, a5, a6, a7, a8, a9, a10, a11, a12, ⟨a13, a14⟩, ⟨a15, a16⟩, ⟨a17, a18⟩, ⟨a19, a20⟩, ⟨a21, a22⟩, ⟨a23, a24⟩, ⟨a25, a26⟩, a27, ⟨⟨a28, a29⟩, ⟨a30, a31⟩, ⟨a32, a33⟩, ⟨a34, a35⟩, ⟨a36, a37⟩, ⟨a38, a39⟩⟩, ⟨⟨a40, a41⟩, ⟨a42, a43⟩, ⟨a44, a45⟩, ⟨a46, a47⟩, ⟨a48, a49⟩, ⟨a50, a51⟩⟩, ⟨a52, a53, a54, a55⟩, ⟨a56, a57, a58, a59⟩, a60, a61⟩, a62, ⟨a63⟩⟩))
  have c1 := fun (M : Int) (h0 : 0 ≤ M) (h1 : M ≤ 1048576) => szZ (laws_szIntS_b (vw intC a1) M (by rw [vw_length]; exact sa1) h0 h1)
  have c63 : ∀ (M : Int) (h0 : 0 ≤ M) (h1 : M ≤ 1048576), PCon Tryz.prog 21 [.agg [.view (vw GRule.c a63)], ai M] (fun res rows => ∃ R : Int, res = .t (ai R) ∧ rows = [] ∧ (R ≤ M ∨ R < 0) ∧ (0 ≤ R → NTable.small ⟨a63⟩)) := fun M h0 h1 => laws_szTable_n ⟨a63⟩ M ⟨sa63, trivial⟩ h0 h1
  obtain ⟨Va1, hVa1⟩ : ∃ Va1, Va1 = vw intC a1 := ⟨_, rfl⟩
  have hVa1l : Va1.length = a1.length := by rw [hVa1, vw_length]
  have iVa1 : immE Va1 = true := by rw [hVa1]; exact vw_imm _ _
  have kVa1 : ∀ y ∈ Va1, y.length = 1 := by rw [hVa1]; exact vw_k (c := intC) (k := 1) fun _ => rfl
  have dVa1 : ∀ y ∈ Va1, y.all dat = true := by rw [hVa1]; exact vw_dat
  obtain ⟨Va63, hVa63⟩ : ∃ Va63, Va63 = vw GRule.c a63 := ⟨_, rfl⟩
  have hVa63l : Va63.length = a63.length := by rw [hVa63, vw_length]
  have iVa63 : immE Va63 = true := by rw [hVa63]; exact vw_imm _ _
  have kVa63 : ∀ y ∈ Va63, y.length = 3 := by rw [hVa63]; exact vw_k (c := GRule.c) (k := 3) fun _ => rfl
  have dVa63 : ∀ y ∈ Va63, y.all dat = true := by rw [hVa63]; exact vw_dat
  have c1' : ∀ (M : Int), 0 ≤ M → M ≤ 1048576 → PCon _ _ [.c (.view Va1), ai M] (fun res rows => ∃ R : Int, res = .t (ai R) ∧ rows = [] ∧ (R ≤ M ∨ R < 0) ∧ (0 ≤ R → ((Va1.length : Nat) : Int) ≤ M)) := fun M h0 h1 => by have := c1 M h0 h1; rw [← hVa1] at this; exact this
  simp only [← hVa63] at c63
  rw [← hVa1, ← hVa63]
  refine pcon_run (c := body Tryz.f113) fits Tryz.func113 (by kernel_rfl) (by kernel_rfl) (by rfl) (by kernel_rfl) fun g F hg hF => ?_
  cbv
  refine callZ hg (c1' L h0 h1) rfl (fun R0 hR0 => ?_)
  obtain ⟨hR0, hB0⟩ := hR0
  cbv
  cases e0 : g .q .lss R0 0
  case true =>
    cbv
    exact finZ hF ⟨.inr (by decide), fun h => absurd h (by decide)⟩
  rw [goLss hg, decide_eq_false_iff_not] at e0
  have p0 : 0 ≤ R0 := by omega
  have r0 : R0 ≤ 1048576 := by omega
  cbv
  refine callZ hg (c63 R0 p0 r0) rfl (fun R1 hR1 => ?_)
  obtain ⟨hR1, hB1⟩ := hR1
  cbv
  cases e1 : g .q .lss R1 0
  case true =>
    cbv
    exact finZ hF ⟨.inr (by decide), fun h => absurd h (by decide)⟩
  rw [goLss hg, decide_eq_false_iff_not] at e1
  have p1 : 0 ≤ R1 := by omega
  have r1 : R1 ≤ 1048576 := by omega
  cbv
  exact finZ hF ⟨.inl (by omega), fun _ => ⟨small_of hVa1l (hB0 p0) h1, (hB1 p1).1, trivial⟩⟩
set_option maxHeartbeats 8000000 in
theorem laws_toNodeS_n (xs : List NNode) (hl : xs.length ≤ 1048576) (hs : ∀ y ∈ xs, y.small) : PCon Tryz.prog 80 [.c (.view (vwA NNode.ac xs))] fun res rows => res = .t (.c (.view (vwA NNode.ac xs))) ∧ rows = [] := by
  obtain ⟨V, hV⟩ : ∃ V, V = vwA NNode.ac xs := ⟨_, rfl⟩
  have hVl : V.length = xs.length := by rw [hV, vwA_length]
  have kV : ∀ y ∈ V, y.length = 64 := by rw [hV]; exact vwA_k NNode.len
  have dV : ∀ y ∈ V, y.all dat = true := by rw [hV]; exact vwA_dat NNode.dat
  have hVx : lenI V = (xs.length : Int) := by rw [lenI_eq]; omega
  have hV1 : lenI V ≤ 1048576 := by omega
  have hV0 : 0 ≤ lenI V := by omega
  rw [← hV]
  refine pcon_run (c := body Tryz.f80) fits Tryz.func80 (by kernel_rfl) (by kernel_rfl) (by rfl) (by kernel_rfl) fun g F hg hF => ?_
  cbv
  refine goMk hg (by decide) (by rw [hVl]; exact hl) ?_
  cbv
  have hst : Fill 64 V (List.replicate (g .ln V).toNat [.imm (.int .i64 0), .imm (.slice none 0 0), .imm (.int .i64 0), .imm (.int .i64 0), .imm (.int .i64 0), .imm (.int .i64 0), .imm (.int .i64 0), .imm (.int .i64 0), .imm (.bool false), .imm (.bool false), .imm (.int .i64 0), .imm (.int .i64 0), .imm (.int .i64 0), .imm (.int .i64 0), .imm (.int .i64 0), .imm (.int .i64 0), .imm (.int .i64 0), .imm (.int .i64 0), .imm (.int .i64 0), .imm (.int .i64 0), .imm (.int .i64 0), .imm (.int .i64 0), .imm (.int .i64 0), .imm (.int .i64 0), .imm (.int .i64 0), .imm (.int .i64 0), .imm (.int .i64 0), .imm (.int .i64 0), .imm (.int .i64 0), .imm (.int .i64 0), .imm (.int .i64 0), .imm (.int .i64 0), .imm (.int .i64 0), .imm (.int .i64 0), .imm (.int .i64 0), .imm (.int .i64 0), .imm (.int .i64 0), .imm (.int .i64 0), .imm (.int .i64 0), .imm (.int .i64 0), .imm (.int .i64 0), .imm (.int .i64 0), .imm (.int .i64 0), .imm (.int .i64 0), .imm (.int .i64 0), .imm (.int .i64 0), .imm (.int .i64 0), .imm (.int .i64 0), .imm (.int .i64 0), .imm (.int .i64 0), .imm (.int .i64 0), .imm (.int .i64 0), .imm (.int .i64 0), .imm (.int .i64 0), .imm (.int .i64 0), .imm (.int .i64 0), .imm (.int .i64 0), .imm (.int .i64 0), .imm (.int .i64 0), .imm (.int .i64 0), .imm (.int .i64 0), .imm (.int .i64 0), .imm (.bool false), .imm (.slice none 0 0)]) 0 := Fill.start (k := 64) (z := [.imm (.int .i64 0), .imm (.slice none 0 0), .imm (.int .i64 0), .imm (.int .i64 0), .imm (.int .i64 0), .imm (.int .i64 0), .imm (.int .i64 0), .imm (.int .i64 0), .imm (.bool false), .imm (.bool false), .imm (.int .i64 0), .imm (.int .i64 0), .imm (.int .i64 0), .imm (.int .i64 0), .imm (.int .i64 0), .imm (.int .i64 0), .imm (.int .i64 0), .imm (.int .i64 0), .imm (.int .i64 0), .imm (.int .i64 0), .imm (.int .i64 0), .imm (.int .i64 0), .imm (.int .i64 0), .imm (.int .i64 0), .imm (.int .i64 0), .imm (.int .i64 0), .imm (.int .i64 0), .imm (.int .i64 0), .imm (.int .i64 0), .imm (.int .i64 0), .imm (.int .i64 0), .imm (.int .i64 0), .imm (.int .i64 0), .imm (.int .i64 0), .imm (.int .i64 0), .imm (.int .i64 0), .imm (.int .i64 0), .imm (.int .i64 0), .imm (.int .i64 0), .imm (.int .i64 0), .imm (.int .i64 0), .imm (.int .i64 0), .imm (.int .i64 0), .imm (.int .i64 0), .imm (.int .i64 0), .imm (.int .i64 0), .imm (.int .i64 0), .imm (.int .i64 0), .imm (.int .i64 0), .imm (.int .i64 0), .imm (.int .i64 0), .imm (.int .i64 0), .imm (.int .i64 0), .imm (.int .i64 0), .imm (.int .i64 0), .imm (.int .i64 0), .imm (.int .i64 0), .imm (.int .i64 0), .imm (.int .i64 0), .imm (.int .i64 0), .imm (.int .i64 0), .imm (.int .i64 0), .imm (.bool false), .imm (.slice none 0 0)]) rfl rfl (goLn hg V)
  refine loop_run hg fits (by kernel_rfl) (fun s : Int × List (List AC) => [(0, .t (.c (.view V))), (3, .t (.c (.own 0))), (4, .t (ai s.1))]) (fun s => [.rw ⟨106, 64, s.2⟩]) (fun s => Fill 64 V s.2 s.1) (fun s => (lenI V).toNat - s.1.toNat)
    (0, g .rp (g .ln V) [.imm (.int .i64 0), .imm (.slice none 0 0), .imm (.int .i64 0), .imm (.int .i64 0), .imm (.int .i64 0), .imm (.int .i64 0), .imm (.int .i64 0), .imm (.int .i64 0), .imm (.bool false), .imm (.bool false), .imm (.int .i64 0), .imm (.int .i64 0), .imm (.int .i64 0), .imm (.int .i64 0), .imm (.int .i64 0), .imm (.int .i64 0), .imm (.int .i64 0), .imm (.int .i64 0), .imm (.int .i64 0), .imm (.int .i64 0), .imm (.int .i64 0), .imm (.int .i64 0), .imm (.int .i64 0), .imm (.int .i64 0), .imm (.int .i64 0), .imm (.int .i64 0), .imm (.int .i64 0), .imm (.int .i64 0), .imm (.int .i64 0), .imm (.int .i64 0), .imm (.int .i64 0), .imm (.int .i64 0), .imm (.int .i64 0), .imm (.int .i64 0), .imm (.int .i64 0), .imm (.int .i64 0), .imm (.int .i64 0), .imm (.int .i64 0), .imm (.int .i64 0), .imm (.int .i64 0), .imm (.int .i64 0), .imm (.int .i64 0), .imm (.int .i64 0), .imm (.int .i64 0), .imm (.int .i64 0), .imm (.int .i64 0), .imm (.int .i64 0), .imm (.int .i64 0), .imm (.int .i64 0), .imm (.int .i64 0), .imm (.int .i64 0), .imm (.int .i64 0), .imm (.int .i64 0), .imm (.int .i64 0), .imm (.int .i64 0), .imm (.int .i64 0), .imm (.int .i64 0), .imm (.int .i64 0), .imm (.int .i64 0), .imm (.int .i64 0), .imm (.int .i64 0), .imm (.int .i64 0), .imm (.bool false), .imm (.slice none 0 0)]) [some 0] ?_ (wkS [0] (by decide) ⟨⟨_, rfl, rfl, ?_⟩, trivial⟩ ⟨rfl, rfl, rfl, trivial⟩) (fun s B hs' hB => ?_)
  · simp only [goRp hg]; exact hst
  · simp only [goRp hg]; exact hst.pl
  · obtain ⟨z, es⟩ := s
    simp only at hs'
    have h0 := hs'.z0
    have h1 := hs'.z1
    have hlen := hs'.len
    cbv
    cases hc : g .q .lss z (g .ln V)
    · cbv
      rw [goLss hg, goLn hg, decide_eq_false_iff_not] at hc
      obtain rfl := hs'.done hc
      exact finFrz [.c (.view es)] hF (.c (resRow (ab := ⟨_, _, es⟩) rfl kV dV) .nil) ⟨rfl, rfl⟩
    · cbv
      rw [goLss hg, goLn hg, decide_eq_true_eq] at hc
      obtain ⟨x, hx⟩ := at_z (xs := xs) h0 (lt_viaN hVx hc)
      have hsx := hs x (List.mem_of_getElem? hx)
      have hyy : V[z.toNat]? = some x.ac := by rw [hV]; exact vwA_at hx
      have cx := laws_toNode_n x hsx
      obtain ⟨a0, a1, ⟨a2, a3, a4, a5, a6, a7, a8, a9, a10, a11, a12, ⟨a13, a14⟩, ⟨a15, a16⟩, ⟨a17, a18⟩, ⟨a19, a20⟩, ⟨a21, a22⟩, ⟨a23, a24⟩, ⟨a25, a26⟩, a27, ⟨⟨a28, a29⟩, ⟨a30, a31⟩, ⟨a32, a33⟩, ⟨a34, a35⟩, ⟨a36, a37⟩, ⟨a38, a39⟩⟩, ⟨⟨a40, a41⟩, ⟨a42, a43⟩, ⟨a44, a45⟩, ⟨a46, a47⟩, ⟨a48, a49⟩, ⟨a50, a51⟩⟩, ⟨a52, a53, a54, a55⟩, ⟨a56, a57, a58, a59⟩, a60, a61⟩, a62, ⟨a63⟩⟩ := x
      replace hyy : V[z.toNat]? = some [.imm (.int .i64 a0), .view (vw intC a1), .imm (.int .i64 a2), .imm (.int .i64 a3), .imm (.int .i64 a4), .imm (.int .i64 a5), .imm (.int .i64 a6), .imm (.int .i64 a7), .imm (.bool a8), .imm (.bool a9), .imm (.int .i64 a10), .imm (.int .i64 a11), .imm (.int .i64 a12), .imm (.int .i64 a13), .imm (.int .i64 a14), .imm (.int .i64 a15), .imm (.int .i64 a16), .imm (.int .i64 a17), .imm (.int .i64 a18), .imm (.int .i64 a19), .imm (.int .i64 a20), .imm (.int .i64 a21), .imm (.int .i64 a22), .imm (.int .i64 a23), .imm (.int .i64 a24), .imm (.int .i64 a25), .imm (.int .i64 a26), .imm (.int .i64 a27), .imm (.int .i64 a28), .imm (.int .i64 a29), .imm (.int .i64 a30), .imm (.int .i64 a31), .imm (.int .i64 a32), .imm (.int .i64 a33), .imm (.int .i64 a34), .imm (.int .i64 a35), .imm (.int .i64 a36), .imm (.int .i64 a37), .imm (.int .i64 a38), .imm (.int .i64 a39), .imm (.int .i64 a40), .imm (.int .i64 a41), .imm (.int .i64 a42), .imm (.int .i64 a43), .imm (.int .i64 a44), .imm (.int .i64 a45), .imm (.int .i64 a46), .imm (.int .i64 a47), .imm (.int .i64 a48), .imm (.int .i64 a49), .imm (.int .i64 a50), .imm (.int .i64 a51), .imm (.int .i64 a52), .imm (.int .i64 a53), .imm (.int .i64 a54), .imm (.int .i64 a55), .imm (.int .i64 a56), .imm (.int .i64 a57), .imm (.int .i64 a58), .imm (.int .i64 a59), .imm (.int .i64 a60), .imm (.int .i64 a61), .imm (.bool a62), .view (vw GRule.c a63)] := hyy
      replace cx : PCon _ _ [.agg [.imm (.int .i64 a0), .view (vw intC a1), .imm (.int .i64 a2), .imm (.int .i64 a3), .imm (.int .i64 a4), .imm (.int .i64 a5), .imm (.int .i64 a6), .imm (.int .i64 a7), .imm (.bool a8), .imm (.bool a9), .imm (.int .i64 a10), .imm (.int .i64 a11), .imm (.int .i64 a12), .imm (.int .i64 a13), .imm (.int .i64 a14), .imm (.int .i64 a15), .imm (.int .i64 a16), .imm (.int .i64 a17), .imm (.int .i64 a18), .imm (.int .i64 a19), .imm (.int .i64 a20), .imm (.int .i64 a21), .imm (.int .i64 a22), .imm (.int .i64 a23), .imm (.int .i64 a24), .imm (.int .i64 a25), .imm (.int .i64 a26), .imm (.int .i64 a27), .imm (.int .i64 a28), .imm (.int .i64 a29), .imm (.int .i64 a30), .imm (.int .i64 a31), .imm (.int .i64 a32), .imm (.int .i64 a33), .imm (.int .i64 a34), .imm (.int .i64 a35), .imm (.int .i64 a36), .imm (.int .i64 a37), .imm (.int .i64 a38), .imm (.int .i64 a39), .imm (.int .i64 a40), .imm (.int .i64 a41), .imm (.int .i64 a42), .imm (.int .i64 a43), .imm (.int .i64 a44), .imm (.int .i64 a45), .imm (.int .i64 a46), .imm (.int .i64 a47), .imm (.int .i64 a48), .imm (.int .i64 a49), .imm (.int .i64 a50), .imm (.int .i64 a51), .imm (.int .i64 a52), .imm (.int .i64 a53), .imm (.int .i64 a54), .imm (.int .i64 a55), .imm (.int .i64 a56), .imm (.int .i64 a57), .imm (.int .i64 a58), .imm (.int .i64 a59), .imm (.int .i64 a60), .imm (.int .i64 a61), .imm (.bool a62), .view (vw GRule.c a63)]] (fun res rows => res = .t (.agg [.imm (.int .i64 a0), .view (vw intC a1), .imm (.int .i64 a2), .imm (.int .i64 a3), .imm (.int .i64 a4), .imm (.int .i64 a5), .imm (.int .i64 a6), .imm (.int .i64 a7), .imm (.bool a8), .imm (.bool a9), .imm (.int .i64 a10), .imm (.int .i64 a11), .imm (.int .i64 a12), .imm (.int .i64 a13), .imm (.int .i64 a14), .imm (.int .i64 a15), .imm (.int .i64 a16), .imm (.int .i64 a17), .imm (.int .i64 a18), .imm (.int .i64 a19), .imm (.int .i64 a20), .imm (.int .i64 a21), .imm (.int .i64 a22), .imm (.int .i64 a23), .imm (.int .i64 a24), .imm (.int .i64 a25), .imm (.int .i64 a26), .imm (.int .i64 a27), .imm (.int .i64 a28), .imm (.int .i64 a29), .imm (.int .i64 a30), .imm (.int .i64 a31), .imm (.int .i64 a32), .imm (.int .i64 a33), .imm (.int .i64 a34), .imm (.int .i64 a35), .imm (.int .i64 a36), .imm (.int .i64 a37), .imm (.int .i64 a38), .imm (.int .i64 a39), .imm (.int .i64 a40), .imm (.int .i64 a41), .imm (.int .i64 a42), .imm (.int .i64 a43), .imm (.int .i64 a44), .imm (.int .i64 a45), .imm (.int .i64 a46), .imm (.int .i64 a47), .imm (.int .i64 a48), .imm (.int .i64 a49), .imm (.int .i64 a50), .imm (.int .i64 a51), .imm (.int .i64 a52), .imm (.int .i64 a53), .imm (.int .i64 a54), .imm (.int .i64 a55), .imm (.int .i64 a56), .imm (.int .i64 a57), .imm (.int .i64 a58), .imm (.int .i64 a59), .imm (.int .i64 a60), .imm (.int .i64 a61), .imm (.bool a62), .view (vw GRule.c a63)]) ∧ rows = []) := cx
      obtain ⟨Va1, hVa1⟩ : ∃ V, V = vw intC a1 := ⟨_, rfl⟩
      obtain ⟨Va63, hVa63⟩ : ∃ V, V = vw GRule.c a63 := ⟨_, rfl⟩
      rw [← hVa1, ← hVa63] at hyy cx
      refine goX hg _ h0 hyy rfl ?_
      cbv
      refine call0 hg cx rfl rfl ?_
      cbv
      obtain ⟨j, hj⟩ : ∃ j, j = z.toNat := ⟨_, rfl⟩
      refine goYk hg h0 hj (lt_lenJ h0 (lt_eqI hlen hc) hj) ?_
      cbv
      refine goN hg (hs'.mem (lt_lenJ h0 (lt_eqI hlen hc) hj)) ?_
      cbv
      have h2 : g .w .add .i64 z 1 = z + 1 := by rw [goAdd hg, wrap_small _ (by omega)]
      rw [h2, goSt hg]
      have hs2 := hs'.step hc hj hyy rfl rfl
      exact back hB (z + 1, _) [some 0] (wkS [0] (by decide) ⟨⟨_, rfl, rfl, hs2.pl⟩, trivial⟩ ⟨rfl, rfl, rfl, trivial⟩) hs2 (by show (lenI V).toNat - (z + 1).toNat < (lenI V).toNat - z.toNat; omega)
set_option maxHeartbeats 8000000 in
theorem laws_eqNodeS_n (xs : List NNode) (hl : xs.length ≤ 1048576) (hs : ∀ y ∈ xs, y.small) : PCon Tryz.prog 87 [.c (.view (vwA NNode.ac xs)), .c (.view (vwA NNode.ac xs))] fun res rows => res = .t (abl true) ∧ rows = [] := by
  obtain ⟨V, hV⟩ : ∃ V, V = vwA NNode.ac xs := ⟨_, rfl⟩
  have hVl : V.length = xs.length := by rw [hV, vwA_length]
  have hVx : lenI V = (xs.length : Int) := by rw [lenI_eq]; omega
  have hV1 : lenI V ≤ 1048576 := by omega
  have hV0 : 0 ≤ lenI V := by omega
  rw [← hV]
  refine pcon_run (c := body Tryz.f87) fits Tryz.func87 (by kernel_rfl) (by kernel_rfl) (by rfl) (by kernel_rfl) fun g F hg hF => ?_
  cbv
  have q : ∀ a : Int, g .q .neq a a = false := fun a => by rw [goNeq hg]; simp
  rw [q]
  cbv
  refine loop_run hg fits (by kernel_rfl) (fun z : Int => [(0, .t (.c (.view V))), (1, .t (.c (.view V))), (5, .t (ai z))]) (fun _ => []) (fun z => 0 ≤ z ∧ z ≤ lenI V) (fun z => (lenI V).toNat - z.toNat)
    0 [] ⟨Int.le_refl 0, hV0⟩ (wk0 ⟨rfl, rfl, rfl, trivial⟩) (fun z B hs' hB => ?_)
  obtain ⟨h0, h1⟩ := hs'
  cbv
  cases hc : g .q .lss z (g .ln V)
  · cbv
    exact fin0b hF rfl
  · rw [goLss hg, goLn hg, decide_eq_true_eq] at hc
    cbv
    obtain ⟨x, hx⟩ := at_z (xs := xs) h0 (lt_viaN hVx hc)
    have hsx := hs x (List.mem_of_getElem? hx)
    have hyy : V[z.toNat]? = some x.ac := by rw [hV]; exact vwA_at hx
    have cx := laws_eqNode_n x hsx
    obtain ⟨a0, a1, ⟨a2, a3, a4, a5, a6, a7, a8, a9, a10, a11, a12, ⟨a13, a14⟩, ⟨a15, a16⟩, ⟨a17, a18⟩, ⟨a19, a20⟩, ⟨a21, a22⟩, ⟨a23, a24⟩, ⟨a25, a26⟩, a27, ⟨⟨a28, a29⟩, ⟨a30, a31⟩, ⟨a32, a33⟩, ⟨a34, a35⟩, ⟨a36, a37⟩, ⟨a38, a39⟩⟩, ⟨⟨a40, a41⟩, ⟨a42, a43⟩, ⟨a44, a45⟩, ⟨a46, a47⟩, ⟨a48, a49⟩, ⟨a50, a51⟩⟩, ⟨a52, a53, a54, a55⟩, ⟨a56, a57, a58, a59⟩, a60, a61⟩, a62, ⟨a63⟩⟩ := x
    replace hyy : V[z.toNat]? = some [.imm (.int .i64 a0), .view (vw intC a1), .imm (.int .i64 a2), .imm (.int .i64 a3), .imm (.int .i64 a4), .imm (.int .i64 a5), .imm (.int .i64 a6), .imm (.int .i64 a7), .imm (.bool a8), .imm (.bool a9), .imm (.int .i64 a10), .imm (.int .i64 a11), .imm (.int .i64 a12), .imm (.int .i64 a13), .imm (.int .i64 a14), .imm (.int .i64 a15), .imm (.int .i64 a16), .imm (.int .i64 a17), .imm (.int .i64 a18), .imm (.int .i64 a19), .imm (.int .i64 a20), .imm (.int .i64 a21), .imm (.int .i64 a22), .imm (.int .i64 a23), .imm (.int .i64 a24), .imm (.int .i64 a25), .imm (.int .i64 a26), .imm (.int .i64 a27), .imm (.int .i64 a28), .imm (.int .i64 a29), .imm (.int .i64 a30), .imm (.int .i64 a31), .imm (.int .i64 a32), .imm (.int .i64 a33), .imm (.int .i64 a34), .imm (.int .i64 a35), .imm (.int .i64 a36), .imm (.int .i64 a37), .imm (.int .i64 a38), .imm (.int .i64 a39), .imm (.int .i64 a40), .imm (.int .i64 a41), .imm (.int .i64 a42), .imm (.int .i64 a43), .imm (.int .i64 a44), .imm (.int .i64 a45), .imm (.int .i64 a46), .imm (.int .i64 a47), .imm (.int .i64 a48), .imm (.int .i64 a49), .imm (.int .i64 a50), .imm (.int .i64 a51), .imm (.int .i64 a52), .imm (.int .i64 a53), .imm (.int .i64 a54), .imm (.int .i64 a55), .imm (.int .i64 a56), .imm (.int .i64 a57), .imm (.int .i64 a58), .imm (.int .i64 a59), .imm (.int .i64 a60), .imm (.int .i64 a61), .imm (.bool a62), .view (vw GRule.c a63)] := hyy
    replace cx : PCon _ _ [.agg [.imm (.int .i64 a0), .view (vw intC a1), .imm (.int .i64 a2), .imm (.int .i64 a3), .imm (.int .i64 a4), .imm (.int .i64 a5), .imm (.int .i64 a6), .imm (.int .i64 a7), .imm (.bool a8), .imm (.bool a9), .imm (.int .i64 a10), .imm (.int .i64 a11), .imm (.int .i64 a12), .imm (.int .i64 a13), .imm (.int .i64 a14), .imm (.int .i64 a15), .imm (.int .i64 a16), .imm (.int .i64 a17), .imm (.int .i64 a18), .imm (.int .i64 a19), .imm (.int .i64 a20), .imm (.int .i64 a21), .imm (.int .i64 a22), .imm (.int .i64 a23), .imm (.int .i64 a24), .imm (.int .i64 a25), .imm (.int .i64 a26), .imm (.int .i64 a27), .imm (.int .i64 a28), .imm (.int .i64 a29), .imm (.int .i64 a30), .imm (.int .i64 a31), .imm (.int .i64 a32), .imm (.int .i64 a33), .imm (.int .i64 a34), .imm (.int .i64 a35), .imm (.int .i64 a36), .imm (.int .i64 a37), .imm (.int .i64 a38), .imm (.int .i64 a39), .imm (.int .i64 a40), .imm (.int .i64 a41), .imm (.int .i64 a42), .imm (.int .i64 a43), .imm (.int .i64 a44), .imm (.int .i64 a45), .imm (.int .i64 a46), .imm (.int .i64 a47), .imm (.int .i64 a48), .imm (.int .i64 a49), .imm (.int .i64 a50), .imm (.int .i64 a51), .imm (.int .i64 a52), .imm (.int .i64 a53), .imm (.int .i64 a54), .imm (.int .i64 a55), .imm (.int .i64 a56), .imm (.int .i64 a57), .imm (.int .i64 a58), .imm (.int .i64 a59), .imm (.int .i64 a60), .imm (.int .i64 a61), .imm (.bool a62), .view (vw GRule.c a63)], .agg [.imm (.int .i64 a0), .view (vw intC a1), .imm (.int .i64 a2), .imm (.int .i64 a3), .imm (.int .i64 a4), .imm (.int .i64 a5), .imm (.int .i64 a6), .imm (.int .i64 a7), .imm (.bool a8), .imm (.bool a9), .imm (.int .i64 a10), .imm (.int .i64 a11), .imm (.int .i64 a12), .imm (.int .i64 a13), .imm (.int .i64 a14), .imm (.int .i64 a15), .imm (.int .i64 a16), .imm (.int .i64 a17), .imm (.int .i64 a18), .imm (.int .i64 a19), .imm (.int .i64 a20), .imm (.int .i64 a21), .imm (.int .i64 a22), .imm (.int .i64 a23), .imm (.int .i64 a24), .imm (.int .i64 a25), .imm (.int .i64 a26), .imm (.int .i64 a27), .imm (.int .i64 a28), .imm (.int .i64 a29), .imm (.int .i64 a30), .imm (.int .i64 a31), .imm (.int .i64 a32), .imm (.int .i64 a33), .imm (.int .i64 a34), .imm (.int .i64 a35), .imm (.int .i64 a36), .imm (.int .i64 a37), .imm (.int .i64 a38), .imm (.int .i64 a39), .imm (.int .i64 a40), .imm (.int .i64 a41), .imm (.int .i64 a42), .imm (.int .i64 a43), .imm (.int .i64 a44), .imm (.int .i64 a45), .imm (.int .i64 a46), .imm (.int .i64 a47), .imm (.int .i64 a48), .imm (.int .i64 a49), .imm (.int .i64 a50), .imm (.int .i64 a51), .imm (.int .i64 a52), .imm (.int .i64 a53), .imm (.int .i64 a54), .imm (.int .i64 a55), .imm (.int .i64 a56), .imm (.int .i64 a57), .imm (.int .i64 a58), .imm (.int .i64 a59), .imm (.int .i64 a60), .imm (.int .i64 a61), .imm (.bool a62), .view (vw GRule.c a63)]] (fun res rows => res = .t (abl true) ∧ rows = []) := cx
    obtain ⟨Va1, hVa1⟩ : ∃ V, V = vw intC a1 := ⟨_, rfl⟩
    obtain ⟨Va63, hVa63⟩ : ∃ V, V = vw GRule.c a63 := ⟨_, rfl⟩
    rw [← hVa1, ← hVa63] at hyy cx
    refine goX hg _ h0 hyy rfl ?_
    cbv
    refine goX hg _ h0 hyy rfl ?_
    cbv
    (first | refine call0 hg cx rfl rfl ?_ | refine call0P hg cx rfl rfl ?_)
    cbv
    have h3 : g .w .add .i64 z 1 = z + 1 := by rw [goAdd hg, wrap_small _ (by omega)]
    rw [h3]
    exact back hB (z + 1) [] (wk0 ⟨rfl, rfl, rfl, trivial⟩) ⟨by omega, by omega⟩ (by show (lenI V).toNat - (z + 1).toNat < (lenI V).toNat - z.toNat; omega)
set_option maxHeartbeats 8000000 in
theorem laws_szNodeS_n (xs : List NNode) (L : Int) (hl : xs.length ≤ 9223372036854775807) (hf : ∀ y ∈ xs, y.fit) (h0L : 0 ≤ L) (h1L : L ≤ 1048576) : PCon Tryz.prog 74 [.c (.view (vwA NNode.ac xs)), ai L] fun res rows => ∃ R : Int, res = .t (ai R) ∧ rows = [] ∧ (R ≤ L ∨ R < 0) ∧ (0 ≤ R → xs.length ≤ 1048576 ∧ ∀ y ∈ xs, y.small) := by
  obtain ⟨V, hV⟩ : ∃ V, V = vwA NNode.ac xs := ⟨_, rfl⟩
  have hVl : V.length = xs.length := by rw [hV, vwA_length]
  have hVx : lenI V = (xs.length : Int) := by rw [lenI_eq]; omega
  have hV1 : lenI V ≤ 9223372036854775807 := by omega
  have hV0 : 0 ≤ lenI V := by omega
  have hsm : lenI V ≤ 1048576 → xs.length ≤ 1048576 := by omega
  rw [← hV]
  refine pcon_run (c := body Tryz.f74) fits Tryz.func74 (by kernel_rfl) (by kernel_rfl) (by rfl) (by kernel_rfl) fun g F hg hF => ?_
  cbv
  obtain ⟨D, hD⟩ : ∃ D, D = L - lenI V := ⟨_, rfl⟩
  have e1 : g .w .sub .i64 L (g .ln V) = D := by rw [goSub hg, goLn hg, wrap_small _ (by omega), hD]
  rw [e1]
  cases e : g .q .lss D 0
  case true =>
    cbv
    exact finZ hF ⟨.inr (by decide), fun h => absurd h (by decide)⟩
  rw [goLss hg, decide_eq_false_iff_not] at e
  have hsm2 := hsm (by omega)
  cbv
  refine loop_run hg fits (by kernel_rfl) (fun s : Int × Int => [(0, .t (.c (.view V))), (1, .t (ai s.2)), (5, .t (ai s.1))]) (fun _ => []) (fun s => 0 ≤ s.1 ∧ s.1 ≤ lenI V ∧ 0 ≤ s.2 ∧ s.2 ≤ L ∧ ∀ (i : Nat) (y : NNode), i < s.1.toNat → xs[i]? = some y → y.small) (fun s => (lenI V).toNat - s.1.toNat)
    (0, D) [] ⟨Int.le_refl 0, hV0, by simp only; omega, by simp only; omega, fun i y hi => by simp at hi⟩ (wk0 ⟨rfl, rfl, rfl, trivial⟩) (fun s B hs' hB => ?_)
  obtain ⟨z, M⟩ := s
  obtain ⟨h0, h1, h2, h3, h4⟩ := hs'
  simp only at h0 h1 h2 h3 h4
  cbv
  cases hc : g .q .lss z (g .ln V)
  · rw [goLss hg, goLn hg, decide_eq_false_iff_not] at hc
    cbv
    exact finZ hF ⟨.inl h3, fun _ => ⟨hsm2, all_upto hVx (by omega) h4⟩⟩
  · rw [goLss hg, goLn hg, decide_eq_true_eq] at hc
    cbv
    obtain ⟨x, hx⟩ := at_z (xs := xs) h0 (lt_viaN hVx hc)
    have hfx := hf x (List.mem_of_getElem? hx)
    have hyy : V[z.toNat]? = some x.ac := by rw [hV]; exact vwA_at hx
    have cx := laws_szNode_n x M hfx h2 (by omega)
    obtain ⟨Sm, hSm⟩ : ∃ Sm : Prop, Sm = x.small := ⟨_, rfl⟩
    rw [← hSm] at cx
    have hSx : Sm → ∀ y, xs[z.toNat]? = some y → y.small := fun h y hy => by rw [hx] at hy; cases hy; rw [← hSm]; exact h
    clear hSm hfx hx
    obtain ⟨a0, a1, ⟨a2, a3, a4, a5, a6, a7, a8, a9, a10, a11, a12, ⟨a13, a14⟩, ⟨a15, a16⟩, ⟨a17, a18⟩, ⟨a19, a20⟩, ⟨a21, a22⟩, ⟨a23, a24⟩, ⟨a25, a26⟩, a27, ⟨⟨a28, a29⟩, ⟨a30, a31⟩, ⟨a32, a33⟩, ⟨a34, a35⟩, ⟨a36, a37⟩, ⟨a38, a39⟩⟩, ⟨⟨a40, a41⟩, ⟨a42, a43⟩, ⟨a44, a45⟩, ⟨a46, a47⟩, ⟨a48, a49⟩, ⟨a50, a51⟩⟩, ⟨a52, a53, a54, a55⟩, ⟨a56, a57, a58, a59⟩, a60, a61⟩, a62, ⟨a63⟩⟩ := x
    replace hyy : V[z.toNat]? = some [.imm (.int .i64 a0), .view (vw intC a1), .imm (.int .i64 a2), .imm (.int .i64 a3), .imm (.int .i64 a4), .imm (.int .i64 a5), .imm (.int .i64 a6), .imm (.int .i64 a7), .imm (.bool a8), .imm (.bool a9), .imm (.int .i64 a10), .imm (.int .i64 a11), .imm (.int .i64 a12), .imm (.int .i64 a13), .imm (.int .i64 a14), .imm (.int .i64 a15), .imm (.int .i64 a16), .imm (.int .i64 a17), .imm (.int .i64 a18), .imm (.int .i64 a19), .imm (.int .i64 a20), .imm (.int .i64 a21), .imm (.int .i64 a22), .imm (.int .i64 a23), .imm (.int .i64 a24), .imm (.int .i64 a25), .imm (.int .i64 a26), .imm (.int .i64 a27), .imm (.int .i64 a28), .imm (.int .i64 a29), .imm (.int .i64 a30), .imm (.int .i64 a31), .imm (.int .i64 a32), .imm (.int .i64 a33), .imm (.int .i64 a34), .imm (.int .i64 a35), .imm (.int .i64 a36), .imm (.int .i64 a37), .imm (.int .i64 a38), .imm (.int .i64 a39), .imm (.int .i64 a40), .imm (.int .i64 a41), .imm (.int .i64 a42), .imm (.int .i64 a43), .imm (.int .i64 a44), .imm (.int .i64 a45), .imm (.int .i64 a46), .imm (.int .i64 a47), .imm (.int .i64 a48), .imm (.int .i64 a49), .imm (.int .i64 a50), .imm (.int .i64 a51), .imm (.int .i64 a52), .imm (.int .i64 a53), .imm (.int .i64 a54), .imm (.int .i64 a55), .imm (.int .i64 a56), .imm (.int .i64 a57), .imm (.int .i64 a58), .imm (.int .i64 a59), .imm (.int .i64 a60), .imm (.int .i64 a61), .imm (.bool a62), .view (vw GRule.c a63)] := hyy
    replace cx : PCon _ _ [.agg [.imm (.int .i64 a0), .view (vw intC a1), .imm (.int .i64 a2), .imm (.int .i64 a3), .imm (.int .i64 a4), .imm (.int .i64 a5), .imm (.int .i64 a6), .imm (.int .i64 a7), .imm (.bool a8), .imm (.bool a9), .imm (.int .i64 a10), .imm (.int .i64 a11), .imm (.int .i64 a12), .imm (.int .i64 a13), .imm (.int .i64 a14), .imm (.int .i64 a15), .imm (.int .i64 a16), .imm (.int .i64 a17), .imm (.int .i64 a18), .imm (.int .i64 a19), .imm (.int .i64 a20), .imm (.int .i64 a21), .imm (.int .i64 a22), .imm (.int .i64 a23), .imm (.int .i64 a24), .imm (.int .i64 a25), .imm (.int .i64 a26), .imm (.int .i64 a27), .imm (.int .i64 a28), .imm (.int .i64 a29), .imm (.int .i64 a30), .imm (.int .i64 a31), .imm (.int .i64 a32), .imm (.int .i64 a33), .imm (.int .i64 a34), .imm (.int .i64 a35), .imm (.int .i64 a36), .imm (.int .i64 a37), .imm (.int .i64 a38), .imm (.int .i64 a39), .imm (.int .i64 a40), .imm (.int .i64 a41), .imm (.int .i64 a42), .imm (.int .i64 a43), .imm (.int .i64 a44), .imm (.int .i64 a45), .imm (.int .i64 a46), .imm (.int .i64 a47), .imm (.int .i64 a48), .imm (.int .i64 a49), .imm (.int .i64 a50), .imm (.int .i64 a51), .imm (.int .i64 a52), .imm (.int .i64 a53), .imm (.int .i64 a54), .imm (.int .i64 a55), .imm (.int .i64 a56), .imm (.int .i64 a57), .imm (.int .i64 a58), .imm (.int .i64 a59), .imm (.int .i64 a60), .imm (.int .i64 a61), .imm (.bool a62), .view (vw GRule.c a63)], ai M] (fun res rows => ∃ R : Int, res = .t (ai R) ∧ rows = [] ∧ (R ≤ M ∨ R < 0) ∧ (0 ≤ R → Sm)) := cx
    obtain ⟨Va1, hVa1⟩ : ∃ V, V = vw intC a1 := ⟨_, rfl⟩
    obtain ⟨Va63, hVa63⟩ : ∃ V, V = vw GRule.c a63 := ⟨_, rfl⟩
    rw [← hVa1, ← hVa63] at hyy cx
    refine goX hg _ h0 hyy rfl ?_
    cbv
    refine callZ hg cx rfl (fun R hR => ?_)
    obtain ⟨hR, hBR⟩ := hR
    cbv
    cases e5 : g .q .lss R 0
    case true =>
      cbv
      exact finZ hF ⟨.inr (by decide), fun h => absurd h (by decide)⟩
    rw [goLss hg, decide_eq_false_iff_not] at e5
    have pR : 0 ≤ R := by omega
    cbv
    have h6 : g .w .add .i64 z 1 = z + 1 := by rw [goAdd hg, wrap_small _ (by omega)]
    rw [h6]
    refine back hB (z + 1, R) [] (wk0 ⟨rfl, rfl, rfl, trivial⟩) ⟨by simp only; omega, by simp only; omega, pR, by simp only; omega, fun i y hi hy => ?_⟩ (by show (lenI V).toNat - (z + 1).toNat < (lenI V).toNat - z.toNat; omega)
    by_cases hi2 : i < z.toNat
    · exact h4 i y hi2 hy
    · have : i = z.toNat := by simp only at hi; omega
      subst this
      exact hSx (hBR pR) y hy
set_option maxHeartbeats 8000000 in
theorem laws_toTree_n (x : NTree) (hs : x.small) : PCon Tryz.prog 36 [.agg x.ac] fun res rows => res = .t (.agg x.ac) ∧ rows = [] := by
  obtain ⟨a0⟩ := x
  obtain ⟨sa0, ua0, -⟩ := hs
  show PCon _ _ [.agg [.view (vwA NNode.ac a0)]] (fun res rows => res = .t (.agg [.view (vwA NNode.ac a0)]) ∧ rows = [])
  have c0 := laws_toNodeS_n a0 sa0 ua0
  obtain ⟨Va0, hVa0⟩ : ∃ V, V = vwA NNode.ac a0 := ⟨_, rfl⟩
  have hVa0l : Va0.length = a0.length := by rw [hVa0, vwA_length]
  have pVa0 : plainE Va0 = true := by rw [hVa0]; exact vwA_plain NNode.plain _
  have kVa0 : ∀ y ∈ Va0, y.length = 64 := by rw [hVa0]; exact vwA_k NNode.len
  have dVa0 : ∀ y ∈ Va0, y.all dat = true := by rw [hVa0]; exact vwA_dat NNode.dat
  rw [← hVa0] at c0
  rw [← hVa0]
  refine pcon_run (c := body Tryz.f36) fits Tryz.func36 (by kernel_rfl) (by kernel_rfl) (by rfl) (by kernel_rfl) fun g F hg hF => ?_
  cbv
  repeat' (first | (refine call0 hg c0 rfl rfl ?_; cbv) | (refine call0P hg c0 rfl rfl ?_; cbv))
  exact finFrz [.agg [.view Va0]] hF (.agg (by repeat' (first | exact .nil | refine .cons ?_ ?_ | exact .imm _ | exact .view _ | exact resRow (ab := ⟨_, _, Va0⟩) rfl kVa0 dVa0)) .nil) ⟨rfl, rfl⟩
set_option maxHeartbeats 8000000 in
theorem laws_eqTree_n (x : NTree) (hs : x.small) : PCon Tryz.prog 44 [.agg x.ac, .agg x.ac] fun res rows => res = .t (abl true) ∧ rows = [] := by
  obtain ⟨a0⟩ := x
  obtain ⟨sa0, ua0, -⟩ := hs
  show PCon _ _ [.agg [.view (vwA NNode.ac a0)], .agg [.view (vwA NNode.ac a0)]] (fun res rows => res = .t (abl true) ∧ rows = [])
  have c0 := laws_eqNodeS_n a0 sa0 ua0
  obtain ⟨Va0, hVa0⟩ : ∃ V, V = vwA NNode.ac a0 := ⟨_, rfl⟩
  have hVa0l : Va0.length = a0.length := by rw [hVa0, vwA_length]
  have pVa0 : plainE Va0 = true := by rw [hVa0]; exact vwA_plain NNode.plain _
  have kVa0 : ∀ y ∈ Va0, y.length = 64 := by rw [hVa0]; exact vwA_k NNode.len
  have dVa0 : ∀ y ∈ Va0, y.all dat = true := by rw [hVa0]; exact vwA_dat NNode.dat
  rw [← hVa0] at c0
  rw [← hVa0]
  refine pcon_run (c := body Tryz.f44) fits Tryz.func44 (by kernel_rfl) (by kernel_rfl) (by rfl) (by kernel_rfl) fun g F hg hF => ?_
  cbv
  have q : ∀ a : Int, g .q .neq a a = false := fun a => by rw [goNeq hg]; simp
  have qb : ∀ a : Bool, g .qb .neq a a = false := fun a => by rw [goNeqB hg]; simp
  repeat' (first | (rw [q]; cbv) | (rw [qb]; cbv) | (refine call0 hg c0 rfl rfl ?_; cbv) | (refine call0P hg c0 rfl rfl ?_; cbv))
  exact fin0b hF rfl
set_option maxHeartbeats 8000000 in
theorem laws_szTree_n (x : NTree) (L : Int) (hf : x.fit) (h0 : 0 ≤ L) (h1 : L ≤ 1048576) : PCon Tryz.prog 31 [.agg x.ac, ai L] fun res rows => ∃ R : Int, res = .t (ai R) ∧ rows = [] ∧ (R ≤ L ∨ R < 0) ∧ (0 ≤ R → x.small) := by
  obtain ⟨a0⟩ := x
  obtain ⟨sa0, ua0, -⟩ := hf
  show PCon _ _ [.agg [.view (vwA NNode.ac a0)], ai L] (fun res rows => ∃ R : Int, res = .t (ai R) ∧ rows = [] ∧ (R ≤ L ∨ R < 0) ∧ (0 ≤ R → NTree.small ⟨a0⟩))
  have c0 := fun (M : Int) (h0 : 0 ≤ M) (h1 : M ≤ 1048576) => laws_szNodeS_n a0 M sa0 ua0 h0 h1
  obtain ⟨Va0, hVa0⟩ : ∃ V, V = vwA NNode.ac a0 := ⟨_, rfl⟩
  have hVa0l : Va0.length = a0.length := by rw [hVa0, vwA_length]
  have pVa0 : plainE Va0 = true := by rw [hVa0]; exact vwA_plain NNode.plain _
  have kVa0 : ∀ y ∈ Va0, y.length = 64 := by rw [hVa0]; exact vwA_k NNode.len
  have dVa0 : ∀ y ∈ Va0, y.all dat = true := by rw [hVa0]; exact vwA_dat NNode.dat
  simp only [← hVa0] at c0
  rw [← hVa0]
  refine pcon_run (c := body Tryz.f31) fits Tryz.func31 (by kernel_rfl) (by kernel_rfl) (by rfl) (by kernel_rfl) fun g F hg hF => ?_
  cbv
  refine callZ hg (c0 L h0 h1) rfl (fun R0 hR0 => ?_)
  obtain ⟨hR0, hB0⟩ := hR0
  cbv
  cases e0 : g .q .lss R0 0
  case true =>
    cbv
    exact finZ hF ⟨.inr (by decide), fun h => absurd h (by decide)⟩
  rw [goLss hg, decide_eq_false_iff_not] at e0
  have p0 : 0 ≤ R0 := by omega
  have r0 : R0 ≤ 1048576 := by omega
  cbv
  exact finZ hF ⟨.inl (by omega), fun _ => ⟨(hB0 p0).1, (hB0 p0).2, trivial⟩⟩
set_option maxHeartbeats 8000000 in
theorem laws_toBox_n (x : NBox) (hs : x.small) : PCon Tryz.prog 137 [.agg x.ac] fun res rows => res = .t (.agg x.ac) ∧ rows = [] := by
  obtain ⟨a0, a1, a2, a3⟩ := x
  obtain ⟨sa3, -⟩ := hs
  show PCon _ _ [.agg [.imm (.int .i64 a0), .imm (.int .i64 a1), .imm (.int .i64 a2), .view (vw GFrame.c a3)]] (fun res rows => res = .t (.agg [.imm (.int .i64 a0), .imm (.int .i64 a1), .imm (.int .i64 a2), .view (vw GFrame.c a3)]) ∧ rows = [])
  have c3 := toRow (laws_toFrameS_a a3 sa3)
  obtain ⟨Va3, hVa3⟩ : ∃ Va3, Va3 = vw GFrame.c a3 := ⟨_, rfl⟩
  have hVa3l : Va3.length = a3.length := by rw [hVa3, vw_length]
  have iVa3 : immE Va3 = true := by rw [hVa3]; exact vw_imm _ _
  have kVa3 : ∀ y ∈ Va3, y.length = 5 := by rw [hVa3]; exact vw_k (c := GFrame.c) (k := 5) fun _ => rfl
  have dVa3 : ∀ y ∈ Va3, y.all dat = true := by rw [hVa3]; exact vw_dat
  rw [← hVa3] at c3
  rw [← hVa3]
  refine pcon_run (c := body Tryz.f137) fits Tryz.func137 (by kernel_rfl) (by kernel_rfl) (by rfl) (by kernel_rfl) fun g F hg hF => ?_
  cbv
  repeat' (first | (refine callRow hg c3 (dat_data rfl) iVa3 ?_; cbv) | (refine callRowP hg c3 (dat_data rfl) iVa3 ?_; cbv))
  exact finFrz [.agg [.imm (.int .i64 a0), .imm (.int .i64 a1), .imm (.int .i64 a2), .view Va3]] hF (.agg (by repeat' (first | exact .nil | refine .cons ?_ ?_ | exact .imm _ | exact .view _ | exact resRow (ab := ⟨_, _, Va3⟩) rfl kVa3 dVa3)) .nil) ⟨rfl, rfl⟩
set_option maxHeartbeats 8000000 in
theorem laws_eqBox_n (x : NBox) (hs : x.small) : PCon Tryz.prog 142 [.agg x.ac, .agg x.ac] fun res rows => res = .t (abl true) ∧ rows = [] := by
  obtain ⟨a0, a1, a2, a3⟩ := x
  obtain ⟨sa3, -⟩ := hs
  show PCon _ _ [.agg [.imm (.int .i64 a0), .imm (.int .i64 a1), .imm (.int .i64 a2), .view (vw GFrame.c a3)], .agg [.imm (.int .i64 a0), .imm (.int .i64 a1), .imm (.int .i64 a2), .view (vw GFrame.c a3)]] (fun res rows => res = .t (abl true) ∧ rows = [])
  have c3 := laws_eqFrameS_a a3 a3 sa3
  rw [decide_eq_true rfl] at c3
  obtain ⟨Va3, hVa3⟩ : ∃ Va3, Va3 = vw GFrame.c a3 := ⟨_, rfl⟩
  have hVa3l : Va3.length = a3.length := by rw [hVa3, vw_length]
  have iVa3 : immE Va3 = true := by rw [hVa3]; exact vw_imm _ _
  have kVa3 : ∀ y ∈ Va3, y.length = 5 := by rw [hVa3]; exact vw_k (c := GFrame.c) (k := 5) fun _ => rfl
  have dVa3 : ∀ y ∈ Va3, y.all dat = true := by rw [hVa3]; exact vw_dat
  rw [← hVa3] at c3
  rw [← hVa3]
  refine pcon_run (c := body Tryz.f142) fits Tryz.func142 (by kernel_rfl) (by kernel_rfl) (by rfl) (by kernel_rfl) fun g F hg hF => ?_
  cbv
  have q : ∀ a : Int, g .q .neq a a = false := fun a => by rw [goNeq hg]; simp
  have qb : ∀ a : Bool, g .qb .neq a a = false := fun a => by rw [goNeqB hg]; simp
  repeat' (first | (rw [q]; cbv) | (rw [qb]; cbv) | (refine call0 hg c3 rfl rfl ?_; cbv) | (refine call0P hg c3 rfl rfl ?_; cbv))
  exact fin0b hF rfl
set_option maxHeartbeats 8000000 in
theorem laws_szBox_n (x : NBox) (L : Int) (hf : x.fit) (h0 : 0 ≤ L) (h1 : L ≤ 1048576) : PCon Tryz.prog 133 [.agg x.ac, ai L] fun res rows => ∃ R : Int, res = .t (ai R) ∧ rows = [] ∧ (R ≤ L ∨ R < 0) ∧ (0 ≤ R → x.small) := by
  obtain ⟨a0, a1, a2, a3⟩ := x
  obtain ⟨sa3, -⟩ := hf
  show PCon _ _ [.agg [.imm (.int .i64 a0), .imm (.int .i64 a1), .imm (.int .i64 a2), .view (vw GFrame.c a3)], ai L] (fun res rows => ∃ R : Int, res = .t (ai R) ∧ rows = [] ∧ (R ≤ L ∨ R < 0) ∧ (0 ≤ R → NBox.small ⟨a0, a1, a2, a3⟩))
  have c3 := fun (M : Int) (h0 : 0 ≤ M) (h1 : M ≤ 1048576) => szZ (laws_szFrameS_b (vw GFrame.c a3) M (by rw [vw_length]; exact sa3) h0 h1)
  obtain ⟨Va3, hVa3⟩ : ∃ Va3, Va3 = vw GFrame.c a3 := ⟨_, rfl⟩
  have hVa3l : Va3.length = a3.length := by rw [hVa3, vw_length]
  have iVa3 : immE Va3 = true := by rw [hVa3]; exact vw_imm _ _
  have kVa3 : ∀ y ∈ Va3, y.length = 5 := by rw [hVa3]; exact vw_k (c := GFrame.c) (k := 5) fun _ => rfl
  have dVa3 : ∀ y ∈ Va3, y.all dat = true := by rw [hVa3]; exact vw_dat
  have c3' : ∀ (M : Int), 0 ≤ M → M ≤ 1048576 → PCon _ _ [.c (.view Va3), ai M] (fun res rows => ∃ R : Int, res = .t (ai R) ∧ rows = [] ∧ (R ≤ M ∨ R < 0) ∧ (0 ≤ R → ((Va3.length : Nat) : Int) ≤ M)) := fun M h0 h1 => by have := c3 M h0 h1; rw [← hVa3] at this; exact this
  rw [← hVa3]
  refine pcon_run (c := body Tryz.f133) fits Tryz.func133 (by kernel_rfl) (by kernel_rfl) (by rfl) (by kernel_rfl) fun g F hg hF => ?_
  cbv
  refine callZ hg (c3' L h0 h1) rfl (fun R0 hR0 => ?_)
  obtain ⟨hR0, hB0⟩ := hR0
  cbv
  cases e0 : g .q .lss R0 0
  case true =>
    cbv
    exact finZ hF ⟨.inr (by decide), fun h => absurd h (by decide)⟩
  rw [goLss hg, decide_eq_false_iff_not] at e0
  have p0 : 0 ≤ R0 := by omega
  have r0 : R0 ≤ 1048576 := by omega
  cbv
  exact finZ hF ⟨.inl (by omega), fun _ => ⟨small_of hVa3l (hB0 p0) h1, trivial⟩⟩
set_option maxHeartbeats 8000000 in
theorem laws_toMemo_n (x : NMemo) (hs : x.small) : PCon Tryz.prog 120 [.agg x.ac] fun res rows => res = .t (.agg x.ac) ∧ rows = [] := by
  obtain ⟨a0, ⟨a1, a2⟩, ⟨a3, a4⟩, a5, ⟨a6, a7, a8, a9⟩⟩ := x
  obtain ⟨sa9, -⟩ := hs
  show PCon _ _ [.agg [.imm (.int .i64 a0), .imm (.int .i64 a1), .imm (.int .i64 a2), .imm (.int .i64 a3), .imm (.int .i64 a4), .imm (.bool a5), .imm (.int .i64 a6), .imm (.int .i64 a7), .imm (.int .i64 a8), .view (vw GFrame.c a9)]] (fun res rows => res = .t (.agg [.imm (.int .i64 a0), .imm (.int .i64 a1), .imm (.int .i64 a2), .imm (.int .i64 a3), .imm (.int .i64 a4), .imm (.bool a5), .imm (.int .i64 a6), .imm (.int .i64 a7), .imm (.int .i64 a8), .view (vw GFrame.c a9)]) ∧ rows = [])
  have c6 : PCon Tryz.prog 137 [.agg [.imm (.int .i64 a6), .imm (.int .i64 a7), .imm (.int .i64 a8), .view (vw GFrame.c a9)]] (fun res rows => res = .t (.agg [.imm (.int .i64 a6), .imm (.int .i64 a7), .imm (.int .i64 a8), .view (vw GFrame.c a9)]) ∧ rows = []) := laws_toBox_n ⟨a6, a7, a8, a9⟩ ⟨sa9, trivial⟩
  obtain ⟨Va9, hVa9⟩ : ∃ Va9, Va9 = vw GFrame.c a9 := ⟨_, rfl⟩
  have hVa9l : Va9.length = a9.length := by rw [hVa9, vw_length]
  have iVa9 : immE Va9 = true := by rw [hVa9]; exact vw_imm _ _
  have kVa9 : ∀ y ∈ Va9, y.length = 5 := by rw [hVa9]; exact vw_k (c := GFrame.c) (k := 5) fun _ => rfl
  have dVa9 : ∀ y ∈ Va9, y.all dat = true := by rw [hVa9]; exact vw_dat
  rw [← hVa9] at c6
  rw [← hVa9]
  refine pcon_run (c := body Tryz.f120) fits Tryz.func120 (by kernel_rfl) (by kernel_rfl) (by rfl) (by kernel_rfl) fun g F hg hF => ?_
  cbv
  repeat' (first | (refine call0 hg (laws_toSpace_a (⟨a1, a2⟩ : GSpace)) rfl rfl ?_; cbv) | (refine call0P hg (laws_toSpace_a (⟨a1, a2⟩ : GSpace)) rfl rfl ?_; cbv) | (refine call0 hg (laws_toSpace_a (⟨a3, a4⟩ : GSpace)) rfl rfl ?_; cbv) | (refine call0P hg (laws_toSpace_a (⟨a3, a4⟩ : GSpace)) rfl rfl ?_; cbv) | (refine call0 hg c6 rfl rfl ?_; cbv) | (refine call0P hg c6 rfl rfl ?_; cbv))
  exact finFrz [.agg [.imm (.int .i64 a0), .imm (.int .i64 a1), .imm (.int .i64 a2), .imm (.int .i64 a3), .imm (.int .i64 a4), .imm (.bool a5), .imm (.int .i64 a6), .imm (.int .i64 a7), .imm (.int .i64 a8), .view Va9]] hF (.agg (by repeat' (first | exact .nil | refine .cons ?_ ?_ | exact .imm _ | exact .view _ | exact resRow (ab := ⟨_, _, Va9⟩) rfl kVa9 dVa9)) .nil) ⟨rfl, rfl⟩
set_option maxHeartbeats 8000000 in
theorem laws_eqMemo_n (x : NMemo) (hs : x.small) : PCon Tryz.prog 127 [.agg x.ac, .agg x.ac] fun res rows => res = .t (abl true) ∧ rows = [] := by
  obtain ⟨a0, ⟨a1, a2⟩, ⟨a3, a4⟩, a5, ⟨a6, a7, a8, a9⟩⟩ := x
  obtain ⟨sa9, -⟩ := hs
  show PCon _ _ [.agg [.imm (.int .i64 a0), .imm (.int .i64 a1), .imm (.int .i64 a2), .imm (.int .i64 a3), .imm (.int .i64 a4), .imm (.bool a5), .imm (.int .i64 a6), .imm (.int .i64 a7), .imm (.int .i64 a8), .view (vw GFrame.c a9)], .agg [.imm (.int .i64 a0), .imm (.int .i64 a1), .imm (.int .i64 a2), .imm (.int .i64 a3), .imm (.int .i64 a4), .imm (.bool a5), .imm (.int .i64 a6), .imm (.int .i64 a7), .imm (.int .i64 a8), .view (vw GFrame.c a9)]] (fun res rows => res = .t (abl true) ∧ rows = [])
  have c1 : PCon Tryz.prog 141 [.agg [.imm (.int .i64 a1), .imm (.int .i64 a2)], .agg [.imm (.int .i64 a1), .imm (.int .i64 a2)]] (fun res rows => res = .t (abl (decide ((⟨a1, a2⟩ : GSpace) = ⟨a1, a2⟩))) ∧ rows = []) := laws_eqSpace_a ⟨a1, a2⟩ ⟨a1, a2⟩
  rw [decide_eq_true rfl] at c1
  have c3 : PCon Tryz.prog 141 [.agg [.imm (.int .i64 a3), .imm (.int .i64 a4)], .agg [.imm (.int .i64 a3), .imm (.int .i64 a4)]] (fun res rows => res = .t (abl (decide ((⟨a3, a4⟩ : GSpace) = ⟨a3, a4⟩))) ∧ rows = []) := laws_eqSpace_a ⟨a3, a4⟩ ⟨a3, a4⟩
  rw [decide_eq_true rfl] at c3
  have c6 : PCon Tryz.prog 142 [.agg [.imm (.int .i64 a6), .imm (.int .i64 a7), .imm (.int .i64 a8), .view (vw GFrame.c a9)], .agg [.imm (.int .i64 a6), .imm (.int .i64 a7), .imm (.int .i64 a8), .view (vw GFrame.c a9)]] (fun res rows => res = .t (abl true) ∧ rows = []) := laws_eqBox_n ⟨a6, a7, a8, a9⟩ ⟨sa9, trivial⟩
  obtain ⟨Va9, hVa9⟩ : ∃ Va9, Va9 = vw GFrame.c a9 := ⟨_, rfl⟩
  have hVa9l : Va9.length = a9.length := by rw [hVa9, vw_length]
  have iVa9 : immE Va9 = true := by rw [hVa9]; exact vw_imm _ _
  have kVa9 : ∀ y ∈ Va9, y.length = 5 := by rw [hVa9]; exact vw_k (c := GFrame.c) (k := 5) fun _ => rfl
  have dVa9 : ∀ y ∈ Va9, y.all dat = true := by rw [hVa9]; exact vw_dat
  rw [← hVa9] at c6
  rw [← hVa9]
  refine pcon_run (c := body Tryz.f127) fits Tryz.func127 (by kernel_rfl) (by kernel_rfl) (by rfl) (by kernel_rfl) fun g F hg hF => ?_
  cbv
  have q : ∀ a : Int, g .q .neq a a = false := fun a => by rw [goNeq hg]; simp
  have qb : ∀ a : Bool, g .qb .neq a a = false := fun a => by rw [goNeqB hg]; simp
  repeat' (first | (rw [q]; cbv) | (rw [qb]; cbv) | (refine call0 hg c1 rfl rfl ?_; cbv) | (refine call0P hg c1 rfl rfl ?_; cbv) | (refine call0 hg c3 rfl rfl ?_; cbv) | (refine call0P hg c3 rfl rfl ?_; cbv) | (refine call0 hg c6 rfl rfl ?_; cbv) | (refine call0P hg c6 rfl rfl ?_; cbv))
  exact fin0b hF rfl
set_option maxHeartbeats 8000000 in
theorem laws_szMemo_n (x : NMemo) (L : Int) (hf : x.fit) (h0 : 0 ≤ L) (h1 : L ≤ 1048576) : PCon Tryz.prog 114 [.agg x.ac, ai L] fun res rows => ∃ R : Int, res = .t (ai R) ∧ rows = [] ∧ (R ≤ L ∨ R < 0) ∧ (0 ≤ R → x.small) := by
  obtain ⟨a0, ⟨a1, a2⟩, ⟨a3, a4⟩, a5, ⟨a6, a7, a8, a9⟩⟩ := x
  obtain ⟨sa9, -⟩ := hf
  show PCon _ _ [.agg [.imm (.int .i64 a0), .imm (.int .i64 a1), .imm (.int .i64 a2), .imm (.int .i64 a3), .imm (.int .i64 a4), .imm (.bool a5), .imm (.int .i64 a6), .imm (.int .i64 a7), .imm (.int .i64 a8), .view (vw GFrame.c a9)], ai L] (fun res rows => ∃ R : Int, res = .t (ai R) ∧ rows = [] ∧ (R ≤ L ∨ R < 0) ∧ (0 ≤ R → NMemo.small ⟨a0, ⟨a1, a2⟩, ⟨a3, a4⟩, a5, ⟨a6, a7, a8, a9⟩⟩))
  have c6 : ∀ (M : Int) (h0 : 0 ≤ M) (h1 : M ≤ 1048576), PCon Tryz.prog 133 [.agg [.imm (.int .i64 a6), .imm (.int .i64 a7), .imm (.int .i64 a8), .view (vw GFrame.c a9)], ai M] (fun res rows => ∃ R : Int, res = .t (ai R) ∧ rows = [] ∧ (R ≤ M ∨ R < 0) ∧ (0 ≤ R → NBox.small ⟨a6, a7, a8, a9⟩)) := fun M h0 h1 => laws_szBox_n ⟨a6, a7, a8, a9⟩ M ⟨sa9, trivial⟩ h0 h1
  obtain ⟨Va9, hVa9⟩ : ∃ Va9, Va9 = vw GFrame.c a9 := ⟨_, rfl⟩
  have hVa9l : Va9.length = a9.length := by rw [hVa9, vw_length]
  have iVa9 : immE Va9 = true := by rw [hVa9]; exact vw_imm _ _
  have kVa9 : ∀ y ∈ Va9, y.length = 5 := by rw [hVa9]; exact vw_k (c := GFrame.c) (k := 5) fun _ => rfl
  have dVa9 : ∀ y ∈ Va9, y.all dat = true := by rw [hVa9]; exact vw_dat
  simp only [← hVa9] at c6
  rw [← hVa9]
  refine pcon_run (c := body Tryz.f114) fits Tryz.func114 (by kernel_rfl) (by kernel_rfl) (by rfl) (by kernel_rfl) fun g F hg hF => ?_
  cbv
  refine callZ hg (c6 L h0 h1) rfl (fun R0 hR0 => ?_)
  obtain ⟨hR0, hB0⟩ := hR0
  cbv
  cases e0 : g .q .lss R0 0
  case true =>
    cbv
    exact finZ hF ⟨.inr (by decide), fun h => absurd h (by decide)⟩
  rw [goLss hg, decide_eq_false_iff_not] at e0
  have p0 : 0 ≤ R0 := by omega
  have r0 : R0 ≤ 1048576 := by omega
  cbv
  exact finZ hF ⟨.inl (by omega), fun _ => ⟨(hB0 p0).1, trivial⟩⟩
set_option maxHeartbeats 8000000 in
theorem laws_toMemoS_n (xs : List NMemo) (hl : xs.length ≤ 1048576) (hs : ∀ y ∈ xs, y.small) : PCon Tryz.prog 81 [.c (.view (vwA NMemo.ac xs))] fun res rows => res = .t (.c (.view (vwA NMemo.ac xs))) ∧ rows = [] := by
  obtain ⟨V, hV⟩ : ∃ V, V = vwA NMemo.ac xs := ⟨_, rfl⟩
  have hVl : V.length = xs.length := by rw [hV, vwA_length]
  have kV : ∀ y ∈ V, y.length = 10 := by rw [hV]; exact vwA_k NMemo.len
  have dV : ∀ y ∈ V, y.all dat = true := by rw [hV]; exact vwA_dat NMemo.dat
  have hVx : lenI V = (xs.length : Int) := by rw [lenI_eq]; omega
  have hV1 : lenI V ≤ 1048576 := by omega
  have hV0 : 0 ≤ lenI V := by omega
  rw [← hV]
  refine pcon_run (c := body Tryz.f81) fits Tryz.func81 (by kernel_rfl) (by kernel_rfl) (by rfl) (by kernel_rfl) fun g F hg hF => ?_
  cbv
  refine goMk hg (by decide) (by rw [hVl]; exact hl) ?_
  cbv
  have hst : Fill 10 V (List.replicate (g .ln V).toNat [.imm (.int .i64 0), .imm (.int .i64 0), .imm (.int .i64 0), .imm (.int .i64 0), .imm (.int .i64 0), .imm (.bool false), .imm (.int .i64 0), .imm (.int .i64 0), .imm (.int .i64 0), .imm (.slice none 0 0)]) 0 := Fill.start (k := 10) (z := [.imm (.int .i64 0), .imm (.int .i64 0), .imm (.int .i64 0), .imm (.int .i64 0), .imm (.int .i64 0), .imm (.bool false), .imm (.int .i64 0), .imm (.int .i64 0), .imm (.int .i64 0), .imm (.slice none 0 0)]) rfl rfl (goLn hg V)
  refine loop_run hg fits (by kernel_rfl) (fun s : Int × List (List AC) => [(0, .t (.c (.view V))), (3, .t (.c (.own 0))), (4, .t (ai s.1))]) (fun s => [.rw ⟨166, 10, s.2⟩]) (fun s => Fill 10 V s.2 s.1) (fun s => (lenI V).toNat - s.1.toNat)
    (0, g .rp (g .ln V) [.imm (.int .i64 0), .imm (.int .i64 0), .imm (.int .i64 0), .imm (.int .i64 0), .imm (.int .i64 0), .imm (.bool false), .imm (.int .i64 0), .imm (.int .i64 0), .imm (.int .i64 0), .imm (.slice none 0 0)]) [some 0] ?_ (wkS [0] (by decide) ⟨⟨_, rfl, rfl, ?_⟩, trivial⟩ ⟨rfl, rfl, rfl, trivial⟩) (fun s B hs' hB => ?_)
  · simp only [goRp hg]; exact hst
  · simp only [goRp hg]; exact hst.pl
  · obtain ⟨z, es⟩ := s
    simp only at hs'
    have h0 := hs'.z0
    have h1 := hs'.z1
    have hlen := hs'.len
    cbv
    cases hc : g .q .lss z (g .ln V)
    · cbv
      rw [goLss hg, goLn hg, decide_eq_false_iff_not] at hc
      obtain rfl := hs'.done hc
      exact finFrz [.c (.view es)] hF (.c (resRow (ab := ⟨_, _, es⟩) rfl kV dV) .nil) ⟨rfl, rfl⟩
    · cbv
      rw [goLss hg, goLn hg, decide_eq_true_eq] at hc
      obtain ⟨x, hx⟩ := at_z (xs := xs) h0 (lt_viaN hVx hc)
      have hsx := hs x (List.mem_of_getElem? hx)
      have hyy : V[z.toNat]? = some x.ac := by rw [hV]; exact vwA_at hx
      have cx := laws_toMemo_n x hsx
      obtain ⟨a0, ⟨a1, a2⟩, ⟨a3, a4⟩, a5, ⟨a6, a7, a8, a9⟩⟩ := x
      replace hyy : V[z.toNat]? = some [.imm (.int .i64 a0), .imm (.int .i64 a1), .imm (.int .i64 a2), .imm (.int .i64 a3), .imm (.int .i64 a4), .imm (.bool a5), .imm (.int .i64 a6), .imm (.int .i64 a7), .imm (.int .i64 a8), .view (vw GFrame.c a9)] := hyy
      replace cx : PCon _ _ [.agg [.imm (.int .i64 a0), .imm (.int .i64 a1), .imm (.int .i64 a2), .imm (.int .i64 a3), .imm (.int .i64 a4), .imm (.bool a5), .imm (.int .i64 a6), .imm (.int .i64 a7), .imm (.int .i64 a8), .view (vw GFrame.c a9)]] (fun res rows => res = .t (.agg [.imm (.int .i64 a0), .imm (.int .i64 a1), .imm (.int .i64 a2), .imm (.int .i64 a3), .imm (.int .i64 a4), .imm (.bool a5), .imm (.int .i64 a6), .imm (.int .i64 a7), .imm (.int .i64 a8), .view (vw GFrame.c a9)]) ∧ rows = []) := cx
      obtain ⟨Va9, hVa9⟩ : ∃ V, V = vw GFrame.c a9 := ⟨_, rfl⟩
      rw [← hVa9] at hyy cx
      refine goX hg _ h0 hyy rfl ?_
      cbv
      refine call0 hg cx rfl rfl ?_
      cbv
      obtain ⟨j, hj⟩ : ∃ j, j = z.toNat := ⟨_, rfl⟩
      refine goYk hg h0 hj (lt_lenJ h0 (lt_eqI hlen hc) hj) ?_
      cbv
      refine goN hg (hs'.mem (lt_lenJ h0 (lt_eqI hlen hc) hj)) ?_
      cbv
      have h2 : g .w .add .i64 z 1 = z + 1 := by rw [goAdd hg, wrap_small _ (by omega)]
      rw [h2, goSt hg]
      have hs2 := hs'.step hc hj hyy rfl rfl
      exact back hB (z + 1, _) [some 0] (wkS [0] (by decide) ⟨⟨_, rfl, rfl, hs2.pl⟩, trivial⟩ ⟨rfl, rfl, rfl, trivial⟩) hs2 (by show (lenI V).toNat - (z + 1).toNat < (lenI V).toNat - z.toNat; omega)
set_option maxHeartbeats 8000000 in
theorem laws_eqMemoS_n (xs : List NMemo) (hl : xs.length ≤ 1048576) (hs : ∀ y ∈ xs, y.small) : PCon Tryz.prog 88 [.c (.view (vwA NMemo.ac xs)), .c (.view (vwA NMemo.ac xs))] fun res rows => res = .t (abl true) ∧ rows = [] := by
  obtain ⟨V, hV⟩ : ∃ V, V = vwA NMemo.ac xs := ⟨_, rfl⟩
  have hVl : V.length = xs.length := by rw [hV, vwA_length]
  have hVx : lenI V = (xs.length : Int) := by rw [lenI_eq]; omega
  have hV1 : lenI V ≤ 1048576 := by omega
  have hV0 : 0 ≤ lenI V := by omega
  rw [← hV]
  refine pcon_run (c := body Tryz.f88) fits Tryz.func88 (by kernel_rfl) (by kernel_rfl) (by rfl) (by kernel_rfl) fun g F hg hF => ?_
  cbv
  have q : ∀ a : Int, g .q .neq a a = false := fun a => by rw [goNeq hg]; simp
  rw [q]
  cbv
  refine loop_run hg fits (by kernel_rfl) (fun z : Int => [(0, .t (.c (.view V))), (1, .t (.c (.view V))), (5, .t (ai z))]) (fun _ => []) (fun z => 0 ≤ z ∧ z ≤ lenI V) (fun z => (lenI V).toNat - z.toNat)
    0 [] ⟨Int.le_refl 0, hV0⟩ (wk0 ⟨rfl, rfl, rfl, trivial⟩) (fun z B hs' hB => ?_)
  obtain ⟨h0, h1⟩ := hs'
  cbv
  cases hc : g .q .lss z (g .ln V)
  · cbv
    exact fin0b hF rfl
  · rw [goLss hg, goLn hg, decide_eq_true_eq] at hc
    cbv
    obtain ⟨x, hx⟩ := at_z (xs := xs) h0 (lt_viaN hVx hc)
    have hsx := hs x (List.mem_of_getElem? hx)
    have hyy : V[z.toNat]? = some x.ac := by rw [hV]; exact vwA_at hx
    have cx := laws_eqMemo_n x hsx
    obtain ⟨a0, ⟨a1, a2⟩, ⟨a3, a4⟩, a5, ⟨a6, a7, a8, a9⟩⟩ := x
    replace hyy : V[z.toNat]? = some [.imm (.int .i64 a0), .imm (.int .i64 a1), .imm (.int .i64 a2), .imm (.int .i64 a3), .imm (.int .i64 a4), .imm (.bool a5), .imm (.int .i64 a6), .imm (.int .i64 a7), .imm (.int .i64 a8), .view (vw GFrame.c a9)] := hyy
    replace cx : PCon _ _ [.agg [.imm (.int .i64 a0), .imm (.int .i64 a1), .imm (.int .i64 a2), .imm (.int .i64 a3), .imm (.int .i64 a4), .imm (.bool a5), .imm (.int .i64 a6), .imm (.int .i64 a7), .imm (.int .i64 a8), .view (vw GFrame.c a9)], .agg [.imm (.int .i64 a0), .imm (.int .i64 a1), .imm (.int .i64 a2), .imm (.int .i64 a3), .imm (.int .i64 a4), .imm (.bool a5), .imm (.int .i64 a6), .imm (.int .i64 a7), .imm (.int .i64 a8), .view (vw GFrame.c a9)]] (fun res rows => res = .t (abl true) ∧ rows = []) := cx
    obtain ⟨Va9, hVa9⟩ : ∃ V, V = vw GFrame.c a9 := ⟨_, rfl⟩
    rw [← hVa9] at hyy cx
    refine goX hg _ h0 hyy rfl ?_
    cbv
    refine goX hg _ h0 hyy rfl ?_
    cbv
    (first | refine call0 hg cx rfl rfl ?_ | refine call0P hg cx rfl rfl ?_)
    cbv
    have h3 : g .w .add .i64 z 1 = z + 1 := by rw [goAdd hg, wrap_small _ (by omega)]
    rw [h3]
    exact back hB (z + 1) [] (wk0 ⟨rfl, rfl, rfl, trivial⟩) ⟨by omega, by omega⟩ (by show (lenI V).toNat - (z + 1).toNat < (lenI V).toNat - z.toNat; omega)
set_option maxHeartbeats 8000000 in
theorem laws_szMemoS_n (xs : List NMemo) (L : Int) (hl : xs.length ≤ 9223372036854775807) (hf : ∀ y ∈ xs, y.fit) (h0L : 0 ≤ L) (h1L : L ≤ 1048576) : PCon Tryz.prog 75 [.c (.view (vwA NMemo.ac xs)), ai L] fun res rows => ∃ R : Int, res = .t (ai R) ∧ rows = [] ∧ (R ≤ L ∨ R < 0) ∧ (0 ≤ R → xs.length ≤ 1048576 ∧ ∀ y ∈ xs, y.small) := by
  obtain ⟨V, hV⟩ : ∃ V, V = vwA NMemo.ac xs := ⟨_, rfl⟩
  have hVl : V.length = xs.length := by rw [hV, vwA_length]
  have hVx : lenI V = (xs.length : Int) := by rw [lenI_eq]; omega
  have hV1 : lenI V ≤ 9223372036854775807 := by omega
  have hV0 : 0 ≤ lenI V := by omega
  have hsm : lenI V ≤ 1048576 → xs.length ≤ 1048576 := by omega
  rw [← hV]
  refine pcon_run (c := body Tryz.f75) fits Tryz.func75 (by kernel_rfl) (by kernel_rfl) (by rfl) (by kernel_rfl) fun g F hg hF => ?_
  cbv
  obtain ⟨D, hD⟩ : ∃ D, D = L - lenI V := ⟨_, rfl⟩
  have e1 : g .w .sub .i64 L (g .ln V) = D := by rw [goSub hg, goLn hg, wrap_small _ (by omega), hD]
  rw [e1]
  cases e : g .q .lss D 0
  case true =>
    cbv
    exact finZ hF ⟨.inr (by decide), fun h => absurd h (by decide)⟩
  rw [goLss hg, decide_eq_false_iff_not] at e
  have hsm2 := hsm (by omega)
  cbv
  refine loop_run hg fits (by kernel_rfl) (fun s : Int × Int => [(0, .t (.c (.view V))), (1, .t (ai s.2)), (5, .t (ai s.1))]) (fun _ => []) (fun s => 0 ≤ s.1 ∧ s.1 ≤ lenI V ∧ 0 ≤ s.2 ∧ s.2 ≤ L ∧ ∀ (i : Nat) (y : NMemo), i < s.1.toNat → xs[i]? = some y → y.small) (fun s => (lenI V).toNat - s.1.toNat)
    (0, D) [] ⟨Int.le_refl 0, hV0, by simp only; omega, by simp only; omega, fun i y hi => by simp at hi⟩ (wk0 ⟨rfl, rfl, rfl, trivial⟩) (fun s B hs' hB => ?_)
  obtain ⟨z, M⟩ := s
  obtain ⟨h0, h1, h2, h3, h4⟩ := hs'
  simp only at h0 h1 h2 h3 h4
  cbv
  cases hc : g .q .lss z (g .ln V)
  · rw [goLss hg, goLn hg, decide_eq_false_iff_not] at hc
    cbv
    exact finZ hF ⟨.inl h3, fun _ => ⟨hsm2, all_upto hVx (by omega) h4⟩⟩
  · rw [goLss hg, goLn hg, decide_eq_true_eq] at hc
    cbv
    obtain ⟨x, hx⟩ := at_z (xs := xs) h0 (lt_viaN hVx hc)
    have hfx := hf x (List.mem_of_getElem? hx)
    have hyy : V[z.toNat]? = some x.ac := by rw [hV]; exact vwA_at hx
    have cx := laws_szMemo_n x M hfx h2 (by omega)
    obtain ⟨Sm, hSm⟩ : ∃ Sm : Prop, Sm = x.small := ⟨_, rfl⟩
    rw [← hSm] at cx
    have hSx : Sm → ∀ y, xs[z.toNat]? = some y → y.small := fun h y hy => by rw [hx] at hy; cases hy; rw [← hSm]; exact h
    clear hSm hfx hx
    obtain ⟨a0, ⟨a1, a2⟩, ⟨a3, a4⟩, a5, ⟨a6, a7, a8, a9⟩⟩ := x
    replace hyy : V[z.toNat]? = some [.imm (.int .i64 a0), .imm (.int .i64 a1), .imm (.int .i64 a2), .imm (.int .i64 a3), .imm (.int .i64 a4), .imm (.bool a5), .imm (.int .i64 a6), .imm (.int .i64 a7), .imm (.int .i64 a8), .view (vw GFrame.c a9)] := hyy
    replace cx : PCon _ _ [.agg [.imm (.int .i64 a0), .imm (.int .i64 a1), .imm (.int .i64 a2), .imm (.int .i64 a3), .imm (.int .i64 a4), .imm (.bool a5), .imm (.int .i64 a6), .imm (.int .i64 a7), .imm (.int .i64 a8), .view (vw GFrame.c a9)], ai M] (fun res rows => ∃ R : Int, res = .t (ai R) ∧ rows = [] ∧ (R ≤ M ∨ R < 0) ∧ (0 ≤ R → Sm)) := cx
    obtain ⟨Va9, hVa9⟩ : ∃ V, V = vw GFrame.c a9 := ⟨_, rfl⟩
    rw [← hVa9] at hyy cx
    refine goX hg _ h0 hyy rfl ?_
    cbv
    refine callZ hg cx rfl (fun R hR => ?_)
    obtain ⟨hR, hBR⟩ := hR
    cbv
    cases e5 : g .q .lss R 0
    case true =>
      cbv
      exact finZ hF ⟨.inr (by decide), fun h => absurd h (by decide)⟩
    rw [goLss hg, decide_eq_false_iff_not] at e5
    have pR : 0 ≤ R := by omega
    cbv
    have h6 : g .w .add .i64 z 1 = z + 1 := by rw [goAdd hg, wrap_small _ (by omega)]
    rw [h6]
    refine back hB (z + 1, R) [] (wk0 ⟨rfl, rfl, rfl, trivial⟩) ⟨by simp only; omega, by simp only; omega, pR, by simp only; omega, fun i y hi hy => ?_⟩ (by show (lenI V).toNat - (z + 1).toNat < (lenI V).toNat - z.toNat; omega)
    by_cases hi2 : i < z.toNat
    · exact h4 i y hi2 hy
    · have : i = z.toNat := by simp only at hi; omega
      subst this
      exact hSx (hBR pR) y hy
set_option maxHeartbeats 8000000 in
theorem laws_toKept_n (x : NKept) (hs : x.small) : PCon Tryz.prog 37 [.agg x.ac] fun res rows => res = .t (.agg x.ac) ∧ rows = [] := by
  obtain ⟨a0, a1⟩ := x
  obtain ⟨sa0, ua0, sa1, -⟩ := hs
  show PCon _ _ [.agg [.view (vwA NMemo.ac a0), .view (vw GAsked.c a1)]] (fun res rows => res = .t (.agg [.view (vwA NMemo.ac a0), .view (vw GAsked.c a1)]) ∧ rows = [])
  have c0 := laws_toMemoS_n a0 sa0 ua0
  have c1 := toRow (laws_toAskedS_a a1 sa1)
  obtain ⟨Va0, hVa0⟩ : ∃ V, V = vwA NMemo.ac a0 := ⟨_, rfl⟩
  have hVa0l : Va0.length = a0.length := by rw [hVa0, vwA_length]
  have pVa0 : plainE Va0 = true := by rw [hVa0]; exact vwA_plain NMemo.plain _
  have kVa0 : ∀ y ∈ Va0, y.length = 10 := by rw [hVa0]; exact vwA_k NMemo.len
  have dVa0 : ∀ y ∈ Va0, y.all dat = true := by rw [hVa0]; exact vwA_dat NMemo.dat
  obtain ⟨Va1, hVa1⟩ : ∃ Va1, Va1 = vw GAsked.c a1 := ⟨_, rfl⟩
  have hVa1l : Va1.length = a1.length := by rw [hVa1, vw_length]
  have iVa1 : immE Va1 = true := by rw [hVa1]; exact vw_imm _ _
  have kVa1 : ∀ y ∈ Va1, y.length = 6 := by rw [hVa1]; exact vw_k (c := GAsked.c) (k := 6) fun _ => rfl
  have dVa1 : ∀ y ∈ Va1, y.all dat = true := by rw [hVa1]; exact vw_dat
  rw [← hVa0] at c0
  rw [← hVa1] at c1
  rw [← hVa0, ← hVa1]
  refine pcon_run (c := body Tryz.f37) fits Tryz.func37 (by kernel_rfl) (by kernel_rfl) (by rfl) (by kernel_rfl) fun g F hg hF => ?_
  cbv
  repeat' (first | (refine call0 hg c0 rfl rfl ?_; cbv) | (refine call0P hg c0 rfl rfl ?_; cbv) | (refine callRow hg c1 (dat_data rfl) iVa1 ?_; cbv) | (refine callRowP hg c1 (dat_data rfl) iVa1 ?_; cbv))
  exact finFrz [.agg [.view Va0, .view Va1]] hF (.agg (by repeat' (first | exact .nil | refine .cons ?_ ?_ | exact .imm _ | exact .view _ | exact resRow (ab := ⟨_, _, Va0⟩) rfl kVa0 dVa0 | exact resRow (ab := ⟨_, _, Va1⟩) rfl kVa1 dVa1)) .nil) ⟨rfl, rfl⟩
set_option maxHeartbeats 8000000 in
theorem laws_eqKept_n (x : NKept) (hs : x.small) : PCon Tryz.prog 45 [.agg x.ac, .agg x.ac] fun res rows => res = .t (abl true) ∧ rows = [] := by
  obtain ⟨a0, a1⟩ := x
  obtain ⟨sa0, ua0, sa1, -⟩ := hs
  show PCon _ _ [.agg [.view (vwA NMemo.ac a0), .view (vw GAsked.c a1)], .agg [.view (vwA NMemo.ac a0), .view (vw GAsked.c a1)]] (fun res rows => res = .t (abl true) ∧ rows = [])
  have c0 := laws_eqMemoS_n a0 sa0 ua0
  have c1 := laws_eqAskedS_a a1 a1 sa1
  rw [decide_eq_true rfl] at c1
  obtain ⟨Va0, hVa0⟩ : ∃ V, V = vwA NMemo.ac a0 := ⟨_, rfl⟩
  have hVa0l : Va0.length = a0.length := by rw [hVa0, vwA_length]
  have pVa0 : plainE Va0 = true := by rw [hVa0]; exact vwA_plain NMemo.plain _
  have kVa0 : ∀ y ∈ Va0, y.length = 10 := by rw [hVa0]; exact vwA_k NMemo.len
  have dVa0 : ∀ y ∈ Va0, y.all dat = true := by rw [hVa0]; exact vwA_dat NMemo.dat
  obtain ⟨Va1, hVa1⟩ : ∃ Va1, Va1 = vw GAsked.c a1 := ⟨_, rfl⟩
  have hVa1l : Va1.length = a1.length := by rw [hVa1, vw_length]
  have iVa1 : immE Va1 = true := by rw [hVa1]; exact vw_imm _ _
  have kVa1 : ∀ y ∈ Va1, y.length = 6 := by rw [hVa1]; exact vw_k (c := GAsked.c) (k := 6) fun _ => rfl
  have dVa1 : ∀ y ∈ Va1, y.all dat = true := by rw [hVa1]; exact vw_dat
  rw [← hVa0] at c0
  rw [← hVa1] at c1
  rw [← hVa0, ← hVa1]
  refine pcon_run (c := body Tryz.f45) fits Tryz.func45 (by kernel_rfl) (by kernel_rfl) (by rfl) (by kernel_rfl) fun g F hg hF => ?_
  cbv
  have q : ∀ a : Int, g .q .neq a a = false := fun a => by rw [goNeq hg]; simp
  have qb : ∀ a : Bool, g .qb .neq a a = false := fun a => by rw [goNeqB hg]; simp
  repeat' (first | (rw [q]; cbv) | (rw [qb]; cbv) | (refine call0 hg c0 rfl rfl ?_; cbv) | (refine call0P hg c0 rfl rfl ?_; cbv) | (refine call0 hg c1 rfl rfl ?_; cbv) | (refine call0P hg c1 rfl rfl ?_; cbv))
  exact fin0b hF rfl
set_option maxHeartbeats 8000000 in
theorem laws_szKept_n (x : NKept) (L : Int) (hf : x.fit) (h0 : 0 ≤ L) (h1 : L ≤ 1048576) : PCon Tryz.prog 32 [.agg x.ac, ai L] fun res rows => ∃ R : Int, res = .t (ai R) ∧ rows = [] ∧ (R ≤ L ∨ R < 0) ∧ (0 ≤ R → x.small) := by
  obtain ⟨a0, a1⟩ := x
  obtain ⟨sa0, ua0, sa1, -⟩ := hf
  show PCon _ _ [.agg [.view (vwA NMemo.ac a0), .view (vw GAsked.c a1)], ai L] (fun res rows => ∃ R : Int, res = .t (ai R) ∧ rows = [] ∧ (R ≤ L ∨ R < 0) ∧ (0 ≤ R → NKept.small ⟨a0, a1⟩))
  have c0 := fun (M : Int) (h0 : 0 ≤ M) (h1 : M ≤ 1048576) => laws_szMemoS_n a0 M sa0 ua0 h0 h1
  have c1 := fun (M : Int) (h0 : 0 ≤ M) (h1 : M ≤ 1048576) => szZ (laws_szAskedS_b (vw GAsked.c a1) M (by rw [vw_length]; exact sa1) h0 h1)
  obtain ⟨Va0, hVa0⟩ : ∃ V, V = vwA NMemo.ac a0 := ⟨_, rfl⟩
  have hVa0l : Va0.length = a0.length := by rw [hVa0, vwA_length]
  have pVa0 : plainE Va0 = true := by rw [hVa0]; exact vwA_plain NMemo.plain _
  have kVa0 : ∀ y ∈ Va0, y.length = 10 := by rw [hVa0]; exact vwA_k NMemo.len
  have dVa0 : ∀ y ∈ Va0, y.all dat = true := by rw [hVa0]; exact vwA_dat NMemo.dat
  obtain ⟨Va1, hVa1⟩ : ∃ Va1, Va1 = vw GAsked.c a1 := ⟨_, rfl⟩
  have hVa1l : Va1.length = a1.length := by rw [hVa1, vw_length]
  have iVa1 : immE Va1 = true := by rw [hVa1]; exact vw_imm _ _
  have kVa1 : ∀ y ∈ Va1, y.length = 6 := by rw [hVa1]; exact vw_k (c := GAsked.c) (k := 6) fun _ => rfl
  have dVa1 : ∀ y ∈ Va1, y.all dat = true := by rw [hVa1]; exact vw_dat
  simp only [← hVa0] at c0
  have c1' : ∀ (M : Int), 0 ≤ M → M ≤ 1048576 → PCon _ _ [.c (.view Va1), ai M] (fun res rows => ∃ R : Int, res = .t (ai R) ∧ rows = [] ∧ (R ≤ M ∨ R < 0) ∧ (0 ≤ R → ((Va1.length : Nat) : Int) ≤ M)) := fun M h0 h1 => by have := c1 M h0 h1; rw [← hVa1] at this; exact this
  rw [← hVa0, ← hVa1]
  refine pcon_run (c := body Tryz.f32) fits Tryz.func32 (by kernel_rfl) (by kernel_rfl) (by rfl) (by kernel_rfl) fun g F hg hF => ?_
  cbv
  refine callZ hg (c0 L h0 h1) rfl (fun R0 hR0 => ?_)
  obtain ⟨hR0, hB0⟩ := hR0
  cbv
  cases e0 : g .q .lss R0 0
  case true =>
    cbv
    exact finZ hF ⟨.inr (by decide), fun h => absurd h (by decide)⟩
  rw [goLss hg, decide_eq_false_iff_not] at e0
  have p0 : 0 ≤ R0 := by omega
  have r0 : R0 ≤ 1048576 := by omega
  cbv
  refine callZ hg (c1' R0 p0 r0) rfl (fun R1 hR1 => ?_)
  obtain ⟨hR1, hB1⟩ := hR1
  cbv
  cases e1 : g .q .lss R1 0
  case true =>
    cbv
    exact finZ hF ⟨.inr (by decide), fun h => absurd h (by decide)⟩
  rw [goLss hg, decide_eq_false_iff_not] at e1
  have p1 : 0 ≤ R1 := by omega
  have r1 : R1 ≤ 1048576 := by omega
  cbv
  exact finZ hF ⟨.inl (by omega), fun _ => ⟨(hB0 p0).1, (hB0 p0).2, small_of hVa1l (hB1 p1) r0, trivial⟩⟩
set_option maxHeartbeats 8000000 in
theorem laws_toEngine_n (x : NEngine) (hs : x.small) : PCon Tryz.prog 11 [.agg x.ac] fun res rows => res = .t (.agg x.ac) ∧ rows = [] := by
  obtain ⟨⟨a0⟩, ⟨a1, a2⟩, a3, a4, a5, a6, a7⟩ := x
  obtain ⟨sa0, ua0, sa1, ua1, sa2, sa3, -⟩ := hs
  show PCon _ _ [.agg [.view (vwA NNode.ac a0), .view (vwA NMemo.ac a1), .view (vw GAsked.c a2), .view (vw GFrame.c a3), .imm (.int .i64 a4), .imm (.int .i64 a5), .imm (.int .i64 a6), .imm (.bool a7)]] (fun res rows => res = .t (.agg [.view (vwA NNode.ac a0), .view (vwA NMemo.ac a1), .view (vw GAsked.c a2), .view (vw GFrame.c a3), .imm (.int .i64 a4), .imm (.int .i64 a5), .imm (.int .i64 a6), .imm (.bool a7)]) ∧ rows = [])
  have c0 : PCon Tryz.prog 36 [.agg [.view (vwA NNode.ac a0)]] (fun res rows => res = .t (.agg [.view (vwA NNode.ac a0)]) ∧ rows = []) := laws_toTree_n ⟨a0⟩ ⟨sa0, ua0, trivial⟩
  have c1 : PCon Tryz.prog 37 [.agg [.view (vwA NMemo.ac a1), .view (vw GAsked.c a2)]] (fun res rows => res = .t (.agg [.view (vwA NMemo.ac a1), .view (vw GAsked.c a2)]) ∧ rows = []) := laws_toKept_n ⟨a1, a2⟩ ⟨sa1, ua1, sa2, trivial⟩
  have c3 := toRow (laws_toFrameS_a a3 sa3)
  obtain ⟨Va0, hVa0⟩ : ∃ V, V = vwA NNode.ac a0 := ⟨_, rfl⟩
  have hVa0l : Va0.length = a0.length := by rw [hVa0, vwA_length]
  have pVa0 : plainE Va0 = true := by rw [hVa0]; exact vwA_plain NNode.plain _
  have kVa0 : ∀ y ∈ Va0, y.length = 64 := by rw [hVa0]; exact vwA_k NNode.len
  have dVa0 : ∀ y ∈ Va0, y.all dat = true := by rw [hVa0]; exact vwA_dat NNode.dat
  obtain ⟨Va1, hVa1⟩ : ∃ V, V = vwA NMemo.ac a1 := ⟨_, rfl⟩
  have hVa1l : Va1.length = a1.length := by rw [hVa1, vwA_length]
  have pVa1 : plainE Va1 = true := by rw [hVa1]; exact vwA_plain NMemo.plain _
  have kVa1 : ∀ y ∈ Va1, y.length = 10 := by rw [hVa1]; exact vwA_k NMemo.len
  have dVa1 : ∀ y ∈ Va1, y.all dat = true := by rw [hVa1]; exact vwA_dat NMemo.dat
  obtain ⟨Va2, hVa2⟩ : ∃ Va2, Va2 = vw GAsked.c a2 := ⟨_, rfl⟩
  have hVa2l : Va2.length = a2.length := by rw [hVa2, vw_length]
  have iVa2 : immE Va2 = true := by rw [hVa2]; exact vw_imm _ _
  have kVa2 : ∀ y ∈ Va2, y.length = 6 := by rw [hVa2]; exact vw_k (c := GAsked.c) (k := 6) fun _ => rfl
  have dVa2 : ∀ y ∈ Va2, y.all dat = true := by rw [hVa2]; exact vw_dat
  obtain ⟨Va3, hVa3⟩ : ∃ Va3, Va3 = vw GFrame.c a3 := ⟨_, rfl⟩
  have hVa3l : Va3.length = a3.length := by rw [hVa3, vw_length]
  have iVa3 : immE Va3 = true := by rw [hVa3]; exact vw_imm _ _
  have kVa3 : ∀ y ∈ Va3, y.length = 5 := by rw [hVa3]; exact vw_k (c := GFrame.c) (k := 5) fun _ => rfl
  have dVa3 : ∀ y ∈ Va3, y.all dat = true := by rw [hVa3]; exact vw_dat
  rw [← hVa0] at c0
  rw [← hVa1, ← hVa2] at c1
  rw [← hVa3] at c3
  rw [← hVa0, ← hVa1, ← hVa2, ← hVa3]
  refine pcon_run (c := body Tryz.f11) fits Tryz.func11 (by kernel_rfl) (by kernel_rfl) (by rfl) (by kernel_rfl) fun g F hg hF => ?_
  cbv
  repeat' (first | (refine call0 hg c0 rfl rfl ?_; cbv) | (refine call0P hg c0 rfl rfl ?_; cbv) | (refine call0 hg c1 rfl rfl ?_; cbv) | (refine call0P hg c1 rfl rfl ?_; cbv) | (refine callRow hg c3 (dat_data rfl) iVa3 ?_; cbv) | (refine callRowP hg c3 (dat_data rfl) iVa3 ?_; cbv))
  exact finFrz [.agg [.view Va0, .view Va1, .view Va2, .view Va3, .imm (.int .i64 a4), .imm (.int .i64 a5), .imm (.int .i64 a6), .imm (.bool a7)]] hF (.agg (by repeat' (first | exact .nil | refine .cons ?_ ?_ | exact .imm _ | exact .view _ | exact resRow (ab := ⟨_, _, Va0⟩) rfl kVa0 dVa0 | exact resRow (ab := ⟨_, _, Va1⟩) rfl kVa1 dVa1 | exact resRow (ab := ⟨_, _, Va2⟩) rfl kVa2 dVa2 | exact resRow (ab := ⟨_, _, Va3⟩) rfl kVa3 dVa3)) .nil) ⟨rfl, rfl⟩
set_option maxHeartbeats 8000000 in
theorem laws_eqEngine_n (x : NEngine) (hs : x.small) : PCon Tryz.prog 14 [.agg x.ac, .agg x.ac] fun res rows => res = .t (abl true) ∧ rows = [] := by
  obtain ⟨⟨a0⟩, ⟨a1, a2⟩, a3, a4, a5, a6, a7⟩ := x
  obtain ⟨sa0, ua0, sa1, ua1, sa2, sa3, -⟩ := hs
  show PCon _ _ [.agg [.view (vwA NNode.ac a0), .view (vwA NMemo.ac a1), .view (vw GAsked.c a2), .view (vw GFrame.c a3), .imm (.int .i64 a4), .imm (.int .i64 a5), .imm (.int .i64 a6), .imm (.bool a7)], .agg [.view (vwA NNode.ac a0), .view (vwA NMemo.ac a1), .view (vw GAsked.c a2), .view (vw GFrame.c a3), .imm (.int .i64 a4), .imm (.int .i64 a5), .imm (.int .i64 a6), .imm (.bool a7)]] (fun res rows => res = .t (abl true) ∧ rows = [])
  have c0 : PCon Tryz.prog 44 [.agg [.view (vwA NNode.ac a0)], .agg [.view (vwA NNode.ac a0)]] (fun res rows => res = .t (abl true) ∧ rows = []) := laws_eqTree_n ⟨a0⟩ ⟨sa0, ua0, trivial⟩
  have c1 : PCon Tryz.prog 45 [.agg [.view (vwA NMemo.ac a1), .view (vw GAsked.c a2)], .agg [.view (vwA NMemo.ac a1), .view (vw GAsked.c a2)]] (fun res rows => res = .t (abl true) ∧ rows = []) := laws_eqKept_n ⟨a1, a2⟩ ⟨sa1, ua1, sa2, trivial⟩
  have c3 := laws_eqFrameS_a a3 a3 sa3
  rw [decide_eq_true rfl] at c3
  obtain ⟨Va0, hVa0⟩ : ∃ V, V = vwA NNode.ac a0 := ⟨_, rfl⟩
  have hVa0l : Va0.length = a0.length := by rw [hVa0, vwA_length]
  have pVa0 : plainE Va0 = true := by rw [hVa0]; exact vwA_plain NNode.plain _
  have kVa0 : ∀ y ∈ Va0, y.length = 64 := by rw [hVa0]; exact vwA_k NNode.len
  have dVa0 : ∀ y ∈ Va0, y.all dat = true := by rw [hVa0]; exact vwA_dat NNode.dat
  obtain ⟨Va1, hVa1⟩ : ∃ V, V = vwA NMemo.ac a1 := ⟨_, rfl⟩
  have hVa1l : Va1.length = a1.length := by rw [hVa1, vwA_length]
  have pVa1 : plainE Va1 = true := by rw [hVa1]; exact vwA_plain NMemo.plain _
  have kVa1 : ∀ y ∈ Va1, y.length = 10 := by rw [hVa1]; exact vwA_k NMemo.len
  have dVa1 : ∀ y ∈ Va1, y.all dat = true := by rw [hVa1]; exact vwA_dat NMemo.dat
  obtain ⟨Va2, hVa2⟩ : ∃ Va2, Va2 = vw GAsked.c a2 := ⟨_, rfl⟩
  have hVa2l : Va2.length = a2.length := by rw [hVa2, vw_length]
  have iVa2 : immE Va2 = true := by rw [hVa2]; exact vw_imm _ _
  have kVa2 : ∀ y ∈ Va2, y.length = 6 := by rw [hVa2]; exact vw_k (c := GAsked.c) (k := 6) fun _ => rfl
  have dVa2 : ∀ y ∈ Va2, y.all dat = true := by rw [hVa2]; exact vw_dat
  obtain ⟨Va3, hVa3⟩ : ∃ Va3, Va3 = vw GFrame.c a3 := ⟨_, rfl⟩
  have hVa3l : Va3.length = a3.length := by rw [hVa3, vw_length]
  have iVa3 : immE Va3 = true := by rw [hVa3]; exact vw_imm _ _
  have kVa3 : ∀ y ∈ Va3, y.length = 5 := by rw [hVa3]; exact vw_k (c := GFrame.c) (k := 5) fun _ => rfl
  have dVa3 : ∀ y ∈ Va3, y.all dat = true := by rw [hVa3]; exact vw_dat
  rw [← hVa0] at c0
  rw [← hVa1, ← hVa2] at c1
  rw [← hVa3] at c3
  rw [← hVa0, ← hVa1, ← hVa2, ← hVa3]
  refine pcon_run (c := body Tryz.f14) fits Tryz.func14 (by kernel_rfl) (by kernel_rfl) (by rfl) (by kernel_rfl) fun g F hg hF => ?_
  cbv
  have q : ∀ a : Int, g .q .neq a a = false := fun a => by rw [goNeq hg]; simp
  have qb : ∀ a : Bool, g .qb .neq a a = false := fun a => by rw [goNeqB hg]; simp
  repeat' (first | (rw [q]; cbv) | (rw [qb]; cbv) | (refine call0 hg c0 rfl rfl ?_; cbv) | (refine call0P hg c0 rfl rfl ?_; cbv) | (refine call0 hg c1 rfl rfl ?_; cbv) | (refine call0P hg c1 rfl rfl ?_; cbv) | (refine call0 hg c3 rfl rfl ?_; cbv) | (refine call0P hg c3 rfl rfl ?_; cbv))
  exact fin0b hF rfl
set_option maxHeartbeats 8000000 in
theorem laws_szEngine_n (x : NEngine) (L : Int) (hf : x.fit) (h0 : 0 ≤ L) (h1 : L ≤ 1048576) : PCon Tryz.prog 9 [.agg x.ac, ai L] fun res rows => ∃ R : Int, res = .t (ai R) ∧ rows = [] ∧ (R ≤ L ∨ R < 0) ∧ (0 ≤ R → x.small) := by
  obtain ⟨⟨a0⟩, ⟨a1, a2⟩, a3, a4, a5, a6, a7⟩ := x
  obtain ⟨sa0, ua0, sa1, ua1, sa2, sa3, -⟩ := hf
  show PCon _ _ [.agg [.view (vwA NNode.ac a0), .view (vwA NMemo.ac a1), .view (vw GAsked.c a2), .view (vw GFrame.c a3), .imm (.int .i64 a4), .imm (.int .i64 a5), .imm (.int .i64 a6), .imm (.bool a7)], ai L] (fun res rows => ∃ R : Int, res = .t (ai R) ∧ rows = [] ∧ (R ≤ L ∨ R < 0) ∧ (0 ≤ R → NEngine.small ⟨⟨a0⟩, ⟨a1, a2⟩, a3, a4, a5, a6, a7⟩))
  have c0 : ∀ (M : Int) (h0 : 0 ≤ M) (h1 : M ≤ 1048576), PCon Tryz.prog 31 [.agg [.view (vwA NNode.ac a0)], ai M] (fun res rows => ∃ R : Int, res = .t (ai R) ∧ rows = [] ∧ (R ≤ M ∨ R < 0) ∧ (0 ≤ R → NTree.small ⟨a0⟩)) := fun M h0 h1 => laws_szTree_n ⟨a0⟩ M ⟨sa0, ua0, trivial⟩ h0 h1
  have c1 : ∀ (M : Int) (h0 : 0 ≤ M) (h1 : M ≤ 1048576), PCon Tryz.prog 32 [.agg [.view (vwA NMemo.ac a1), .view (vw GAsked.c a2)], ai M] (fun res rows => ∃ R : Int, res = .t (ai R) ∧ rows = [] ∧ (R ≤ M ∨ R < 0) ∧ (0 ≤ R → NKept.small ⟨a1, a2⟩)) := fun M h0 h1 => laws_szKept_n ⟨a1, a2⟩ M ⟨sa1, ua1, sa2, trivial⟩ h0 h1
  have c3 := fun (M : Int) (h0 : 0 ≤ M) (h1 : M ≤ 1048576) => szZ (laws_szFrameS_b (vw GFrame.c a3) M (by rw [vw_length]; exact sa3) h0 h1)
  obtain ⟨Va0, hVa0⟩ : ∃ V, V = vwA NNode.ac a0 := ⟨_, rfl⟩
  have hVa0l : Va0.length = a0.length := by rw [hVa0, vwA_length]
  have pVa0 : plainE Va0 = true := by rw [hVa0]; exact vwA_plain NNode.plain _
  have kVa0 : ∀ y ∈ Va0, y.length = 64 := by rw [hVa0]; exact vwA_k NNode.len
  have dVa0 : ∀ y ∈ Va0, y.all dat = true := by rw [hVa0]; exact vwA_dat NNode.dat
  obtain ⟨Va1, hVa1⟩ : ∃ V, V = vwA NMemo.ac a1 := ⟨_, rfl⟩
  have hVa1l : Va1.length = a1.length := by rw [hVa1, vwA_length]
  have pVa1 : plainE Va1 = true := by rw [hVa1]; exact vwA_plain NMemo.plain _
  have kVa1 : ∀ y ∈ Va1, y.length = 10 := by rw [hVa1]; exact vwA_k NMemo.len
  have dVa1 : ∀ y ∈ Va1, y.all dat = true := by rw [hVa1]; exact vwA_dat NMemo.dat
  obtain ⟨Va2, hVa2⟩ : ∃ Va2, Va2 = vw GAsked.c a2 := ⟨_, rfl⟩
  have hVa2l : Va2.length = a2.length := by rw [hVa2, vw_length]
  have iVa2 : immE Va2 = true := by rw [hVa2]; exact vw_imm _ _
  have kVa2 : ∀ y ∈ Va2, y.length = 6 := by rw [hVa2]; exact vw_k (c := GAsked.c) (k := 6) fun _ => rfl
  have dVa2 : ∀ y ∈ Va2, y.all dat = true := by rw [hVa2]; exact vw_dat
  obtain ⟨Va3, hVa3⟩ : ∃ Va3, Va3 = vw GFrame.c a3 := ⟨_, rfl⟩
  have hVa3l : Va3.length = a3.length := by rw [hVa3, vw_length]
  have iVa3 : immE Va3 = true := by rw [hVa3]; exact vw_imm _ _
  have kVa3 : ∀ y ∈ Va3, y.length = 5 := by rw [hVa3]; exact vw_k (c := GFrame.c) (k := 5) fun _ => rfl
  have dVa3 : ∀ y ∈ Va3, y.all dat = true := by rw [hVa3]; exact vw_dat
  simp only [← hVa0] at c0
  simp only [← hVa1, ← hVa2] at c1
  have c3' : ∀ (M : Int), 0 ≤ M → M ≤ 1048576 → PCon _ _ [.c (.view Va3), ai M] (fun res rows => ∃ R : Int, res = .t (ai R) ∧ rows = [] ∧ (R ≤ M ∨ R < 0) ∧ (0 ≤ R → ((Va3.length : Nat) : Int) ≤ M)) := fun M h0 h1 => by have := c3 M h0 h1; rw [← hVa3] at this; exact this
  rw [← hVa0, ← hVa1, ← hVa2, ← hVa3]
  refine pcon_run (c := body Tryz.f9) fits Tryz.func9 (by kernel_rfl) (by kernel_rfl) (by rfl) (by kernel_rfl) fun g F hg hF => ?_
  cbv
  refine callZ hg (c0 L h0 h1) rfl (fun R0 hR0 => ?_)
  obtain ⟨hR0, hB0⟩ := hR0
  cbv
  cases e0 : g .q .lss R0 0
  case true =>
    cbv
    exact finZ hF ⟨.inr (by decide), fun h => absurd h (by decide)⟩
  rw [goLss hg, decide_eq_false_iff_not] at e0
  have p0 : 0 ≤ R0 := by omega
  have r0 : R0 ≤ 1048576 := by omega
  cbv
  refine callZ hg (c1 R0 p0 r0) rfl (fun R1 hR1 => ?_)
  obtain ⟨hR1, hB1⟩ := hR1
  cbv
  cases e1 : g .q .lss R1 0
  case true =>
    cbv
    exact finZ hF ⟨.inr (by decide), fun h => absurd h (by decide)⟩
  rw [goLss hg, decide_eq_false_iff_not] at e1
  have p1 : 0 ≤ R1 := by omega
  have r1 : R1 ≤ 1048576 := by omega
  cbv
  refine callZ hg (c3' R1 p1 r1) rfl (fun R2 hR2 => ?_)
  obtain ⟨hR2, hB2⟩ := hR2
  cbv
  cases e2 : g .q .lss R2 0
  case true =>
    cbv
    exact finZ hF ⟨.inr (by decide), fun h => absurd h (by decide)⟩
  rw [goLss hg, decide_eq_false_iff_not] at e2
  have p2 : 0 ≤ R2 := by omega
  have r2 : R2 ≤ 1048576 := by omega
  cbv
  exact finZ hF ⟨.inl (by omega), fun _ => ⟨(hB0 p0).1, (hB0 p0).2.1, (hB1 p1).1, (hB1 p1).2.1, (hB1 p1).2.2.1, small_of hVa3l (hB2 p2) r1, trivial⟩⟩
end Go.Proofs.YtenbloaopcfdlaaGreat
