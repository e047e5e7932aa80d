/- Marks on what is kept, and what is found of them. -/
import Derived.Test.YtenbloaopcfdlaaW3
import Derived.Test.YtenbloaopcfdlaaW6
import Derived.Test.YtenbloaopcfdlaaW10
import Derived.Test.YtenbloaopcfdlaaH2
import Derived.Test.YtenbloaopcfdlaaH3
namespace Go.Proofs.Ytenbloaopcfdlaa
open Go.ChangeShapes Go.WideShapes Go.ChangeAt Go.RowKit Am
set_option linter.unusedVariables false
set_option linter.unusedSimpArgs false
set_option maxRecDepth 100000

/-- A function that returns data of its own making, as one that returns data. -/
theorem pcon_of_tcon {P : Program} {f : FuncId} {args : List AT} {y : AT} {Q : Nat → AT → Prop} (hc : TCon P f args fun lo res rows => (∃ x, res = .t x ∧ dwT x y ∧ Q lo x) ∧ plainV res = true ∧ rows = []) : PCon P f args fun res rows => res = .t y ∧ rows = [] :=
  ⟨(hc 0).1, fun F w m vs hH hl ha => ((hc 0).2 F w m vs hH hl ha).mono fun e w' ⟨v, res, h', m', F', he, ⟨rows, hrows, ⟨x, hx, hd, hq⟩, hp, hr⟩, hG, hs, hv⟩ => ⟨v, .t y, h', m', F', he, ⟨rows, hrows, rfl, hr⟩, hG, hs, by
    subst hx
    exact RT.ext (fun _ h => h) (fun _ _ => rfl) (fun r => ⟨fun h => by simp at h, fun ab h => by simp at h⟩) (hd.rt hv)⟩⟩
set_option maxHeartbeats 4000000 in
theorem laws_heldKept_n (k0 : Int) (ls0 : List Nat) (ls1 : List Unit) (hl0 : ls0.length ≤ 1048576) (hs0 : ∀ l ∈ ls0, l ≤ 1048576) (hl1 : ls1.length ≤ 1048576) (hk0 : 0 ≤ k0) (hk1 : endMkAsked (endMkMemo k0 ls0) ls1 ≤ 1152921504606846976) :
    PCon Try.prog 29 [.agg [.view (mkRowsMemo k0 ls0), .view (mkRowsAsked (endMkMemo k0 ls0) ls1)], ai k0] fun res rows => res = .t (ai (endMkAsked (endMkMemo k0 ls0) ls1)) ∧ rows = [] := by
  have hle := endMkAsked_le ls1 (endMkMemo k0 ls0)
  have hle0 := endMkMemo_le ls0 k0
  have c0 := laws_heldMemoS_n k0 ls0 hl0 hs0 hk0 (Int.le_trans hle hk1)
  have c1 := laws_heldAskedS_n (endMkMemo k0 ls0) ls1 hl1 (Int.le_trans hk0 hle0) hk1
  obtain ⟨R0, hR0⟩ : ∃ R, R = mkRowsMemo k0 ls0 := ⟨_, rfl⟩
  obtain ⟨R1, hR1⟩ : ∃ R, R = mkRowsAsked (endMkMemo k0 ls0) ls1 := ⟨_, rfl⟩
  obtain ⟨K2, hK2⟩ : ∃ K, K = endMkAsked (endMkMemo k0 ls0) ls1 := ⟨_, rfl⟩
  obtain ⟨K1, hK1⟩ : ∃ K, K = endMkMemo k0 ls0 := ⟨_, rfl⟩
  rw [← hR1, ← hK2, ← hK1] at c1
  rw [← hR0, ← hK1] at c0
  rw [← hR0, ← hR1, ← hK2]
  rw [← hK1] at hle0 hle hK2
  rw [← hK2] at hle
  refine pcon_run (c := body Try.f29) fits Try.func29 (by kernel_rfl) (by kernel_rfl) (by rfl) (by kernel_rfl) fun g F hg hF => ?_
  cbv
  have n1 : g .q .lss K1 0 = false := by rw [goLss hg]; exact decide_eq_false (by omega)
  have n2 : g .q .lss K2 0 = false := by rw [goLss hg]; exact decide_eq_false (by omega)
  refine call0 hg c0 rfl rfl ?_
  cbv
  rw [n1]
  cbv
  refine call0 hg c1 rfl rfl ?_
  cbv
  rw [n2]
  cbv
  exact fin0i hF rfl
/-- What is known of marks on a copy of a tree, from k0 on. -/
theorem markTree_x (ns : List NNode) (hl : ns.length ≤ 1048576) (hs : ∀ y ∈ ns, NNode.small y) (k0 : Int) (h0 : 0 ≤ k0) (h1 : k0 ≤ 1000000000000000) : ∃ (R0 : List (List AC)) (K : Int), k0 ≤ K ∧ K ≤ k0 + 10000000000000 ∧ ∀ b0 : List Nat, b0.Nodup → MCon Try.prog 24 [.agg [.fv b0 (vwA NNode.ac ns)], ai k0] [(b0, vwA NNode.ac ns, R0)] (.int .i64 K) := by
  have k1 := endMkNode_le (ns.map fun m => (m.kids.length, m.table.rules.length)) k0
  have k2 := endMkNode_bound (ns.map fun m => (m.kids.length, m.table.rules.length)) k0 (fun l hl => by
    obtain ⟨m, hm, rfl⟩ := List.mem_map.1 hl
    have := hs m hm
    obtain ⟨a0, a1, ⟨a2, a3, a4, a5, a6, a7, a8, a9, a10, a11, a12, ⟨a13, a14⟩, ⟨a15, a16⟩, ⟨a17, a18⟩, ⟨a19, a20⟩, ⟨a21, a22⟩, ⟨a23, a24⟩, ⟨a25, a26⟩, a27, ⟨⟨a28, a29⟩, ⟨a30, a31⟩, ⟨a32, a33⟩, ⟨a34, a35⟩, ⟨a36, a37⟩, ⟨a38, a39⟩⟩, ⟨⟨a40, a41⟩, ⟨a42, a43⟩, ⟨a44, a45⟩, ⟨a46, a47⟩, ⟨a48, a49⟩, ⟨a50, a51⟩⟩, ⟨a52, a53, a54, a55⟩, ⟨a56, a57, a58, a59⟩, a60, a61⟩, a62, ⟨a63⟩⟩ := m
    exact ⟨this.1, this.2.1⟩)
  rw [List.length_map] at k2
  have k3 : endMkNode k0 (ns.map fun m => (m.kids.length, m.table.rules.length)) ≤ k0 + 10000000000000 := by
    have : (ns.length : Int) ≤ 1048576 := by omega
    omega
  refine ⟨_, _, k1, k3, fun b0 hnd => laws_markTree_m k0 b0 _ (ns.map fun m => (m.kids.length, m.table.rules.length)) (by simp [vwA]) (by simpa [vwA] using hl) (fun i x l hx hl => ?_) hnd h0 (by omega)⟩
  simp only [vwA, List.getElem?_map, Option.map_eq_some_iff] at hx hl
  obtain ⟨m, hm, rfl⟩ := hx
  obtain ⟨m', hm', rfl⟩ := hl
  rw [hm] at hm'
  cases hm'
  exact okMkNode_of m (hs m (List.mem_of_getElem? hm))
theorem okMkMemo_of (m : NMemo) (hs : m.small) : okMkMemo m.ac m.box.frames.length := by
  obtain ⟨a0, ⟨a1, a2⟩, ⟨a3, a4⟩, a5, ⟨a6, a7, a8, a9⟩⟩ := m
  exact ⟨_, _, _, _, _, _, _, _, _, _, rfl, by simp [vw], by simpa [vw] using hs.1, vw_imm _ _, vw_k (c := GFrame.c) (k := 5) fun _ => rfl⟩
/-- What is known of marks on a copy of what is kept, from k0 on. -/
theorem markKept_x (x : NKept) (hs : x.small) (k0 : Int) (h0 : 0 ≤ k0) (h1 : k0 ≤ 1000000000000000) : ∃ (R0 R1 : List (List AC)) (K : Int), k0 ≤ K ∧ K ≤ k0 + 10000000000000 ∧
    (∀ b0 b1 : List Nat, (b0 ++ b1).Nodup → MCon Try.prog 13 [.agg [.fv b0 (vwA NMemo.ac x.memos), .fv b1 (vw GAsked.c x.asked)], ai k0] [(b0, vwA NMemo.ac x.memos, R0), (b1, vw GAsked.c x.asked, R1)] (.int .i64 K)) ∧
    PCon Try.prog 29 [.agg [.view R0, .view R1], ai k0] (fun res rows => res = .t (ai K) ∧ rows = []) := by
  obtain ⟨ms, qs⟩ := x
  obtain ⟨hm, u0, hq, -⟩ := hs
  have hlm : ∀ l ∈ ms.map (fun m => m.box.frames.length), l ≤ 1048576 := fun l hl => by
    obtain ⟨m, hm, rfl⟩ := List.mem_map.1 hl
    have := u0 m hm
    obtain ⟨a0, ⟨a1, a2⟩, ⟨a3, a4⟩, a5, ⟨a6, a7, a8, a9⟩⟩ := m
    exact this.1
  have k0' := endMkMemo_le (ms.map fun m => m.box.frames.length) k0
  have k1 := endMkAsked_le (qs.map fun _ => ()) (endMkMemo k0 (ms.map fun m => m.box.frames.length))
  have k2 := endMkMemo_bound (ms.map fun m => m.box.frames.length) k0 hlm
  have k3 := endMkAsked_bound (qs.map fun _ => ()) (endMkMemo k0 (ms.map fun m => m.box.frames.length))
  rw [List.length_map] at k2 k3
  have hK : endMkAsked (endMkMemo k0 (ms.map fun m => m.box.frames.length)) (qs.map fun _ => ()) ≤ k0 + 10000000000000 := by
    have : (ms.length : Int) ≤ 1048576 := by omega
    have : (qs.length : Int) ≤ 1048576 := by omega
    omega
  have hK' : endMkAsked (endMkMemo k0 (ms.map fun m => m.box.frames.length)) (qs.map fun _ => ()) ≤ 1152921504606846976 := by omega
  refine ⟨mkRowsMemo k0 (ms.map fun m => m.box.frames.length), mkRowsAsked (endMkMemo k0 (ms.map fun m => m.box.frames.length)) (qs.map fun _ => ()), _, Int.le_trans k0' k1, hK, fun b0 b1 hnd => laws_markKept_m k0 b0 b1 _ _ (ms.map fun m => m.box.frames.length) (qs.map fun _ => ()) (by simp [vwA]) (by simpa [vwA] using hm) (fun i x l hx hl => ?_) (by simp [vw]) (by simpa [vw] using hq) (fun i x l hx hl => ?_) hnd h0 hK', laws_heldKept_n k0 _ _ (by simpa using hm) hlm (by simpa using hq) h0 hK'⟩
  · simp only [vwA, List.getElem?_map, Option.map_eq_some_iff] at hx hl
    obtain ⟨m, hm, rfl⟩ := hx
    obtain ⟨m', hm', rfl⟩ := hl
    rw [hm] at hm'
    cases hm'
    exact okMkMemo_of m (u0 m (List.mem_of_getElem? hm))
  · simp only [vw, List.getElem?_map, Option.map_eq_some_iff] at hx
    obtain ⟨q, hq, rfl⟩ := hx
    exact ⟨_, _, _, _, _, _, rfl⟩
theorem markTree_m (x : NTree) (hs : x.small) (k0 : Int) (h0 : 0 ≤ k0) (h1 : k0 ≤ 1000000000000000) : ∃ (R0 : List (List AC)) (K : Int), k0 ≤ K ∧ K ≤ k0 + 100000000000000 ∧ ∀ b0 : List Nat, b0.Nodup → MCon Try.prog 24 [.agg [.fv b0 (vwA NNode.ac x.nodes)], ai k0] [(b0, vwA NNode.ac x.nodes, R0)] (.int .i64 K) := by
  obtain ⟨ns⟩ := x
  obtain ⟨R0, K, h2, h3, h4⟩ := markTree_x ns hs.1 hs.2.1 k0 h0 h1
  exact ⟨R0, K, h2, by omega, h4⟩
theorem markKept_m (x : NKept) (hs : x.small) (k0 : Int) (h0 : 0 ≤ k0) (h1 : k0 ≤ 1000000000000000) : ∃ (R0 R1 : List (List AC)) (K : Int), k0 ≤ K ∧ K ≤ k0 + 100000000000000 ∧ ∀ b0 b1 : List Nat, (b0 ++ b1).Nodup → MCon Try.prog 13 [.agg [.fv b0 (vwA NMemo.ac x.memos), .fv b1 (vw GAsked.c x.asked)], ai k0] [(b0, vwA NMemo.ac x.memos, R0), (b1, vw GAsked.c x.asked, R1)] (.int .i64 K) := by
  obtain ⟨R0, R1, K, h2, h3, h4, -⟩ := markKept_x x hs k0 h0 h1
  exact ⟨R0, R1, K, h2, by omega, h4⟩
theorem markKept_h (x : NKept) (hs : x.small) : ∃ (R0 R1 : List (List AC)) (K : Int), 1 ≤ K ∧ K ≤ 1 + 100000000000000 ∧
    (∀ b0 b1 : List Nat, (b0 ++ b1).Nodup → MCon Try.prog 13 [.agg [.fv b0 (vwA NMemo.ac x.memos), .fv b1 (vw GAsked.c x.asked)], ai 1] [(b0, vwA NMemo.ac x.memos, R0), (b1, vw GAsked.c x.asked, R1)] (.int .i64 K)) ∧
    PCon Try.prog 29 [.agg [.view R0, .view R1], ai 1] (fun res rows => res = .t (ai K) ∧ rows = []) := by
  obtain ⟨R0, R1, K, h2, h3, h4, h5⟩ := markKept_x x hs 1 (by decide) (by decide)
  exact ⟨R0, R1, K, h2, by omega, h4, h5⟩
theorem fgM_small (ns : List NNode) (x : NKept) (n : Int) (hs : x.small) : NKept.small ⟨fgM ns x.memos n, x.asked⟩ := by
  obtain ⟨ms, qs⟩ := x
  obtain ⟨hm, u0, hq, -⟩ := hs
  have h1 : ∀ y ∈ fgM ns ms n, y ∈ ms := fun y hy => by
    unfold fgM at hy
    split at hy
    · exact (List.mem_filter.1 hy).1
    · exact hy
  have h2 : (fgM ns ms n).length ≤ ms.length := by
    unfold fgM
    split
    · exact List.length_filter_le _ _
    · exact Nat.le_refl _
  exact ⟨Nat.le_trans h2 hm, fun y hy => u0 y (h1 y hy), hq, trivial⟩

end Go.Proofs.Ytenbloaopcfdlaa
