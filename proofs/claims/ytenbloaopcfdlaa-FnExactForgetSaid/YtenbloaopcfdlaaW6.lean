/- Marks on a tree. -/
import Derived.Test.YtenbloaopcfdlaaM5
import Derived.Test.YtenbloaopcfdlaaW1
import Derived.Test.YtenbloaopcfdlaaN4
namespace Go.Proofs.Ytenbloaopcfdlaa
open Go.ChangeShapes Go.WideShapes Go.ChangeAt Go.RowKit Am
set_option linter.unusedVariables false
set_option linter.unusedSimpArgs false
set_option maxRecDepth 100000

theorem okMkNode_len {x : List AC} {l : Nat × Nat} (h : okMkNode x l) : x.length = 64 := by
  obtain ⟨u0, u2, u3, u4, u5, u6, u7, u8, u9, u10, u11, u12, u13, u14, u15, u16, u17, u18, u19, u20, u21, u22, u23, u24, u25, u26, u27, u28, u29, u30, u31, u32, u33, u34, u35, u36, u37, u38, u39, u40, u41, u42, u43, u44, u45, u46, u47, u48, u49, u50, u51, u52, u53, u54, u55, u56, u57, u58, u59, u60, u61, u62, F0, F1, he, -⟩ := h
  rw [he]; rfl
theorem okMkNode_of (x : NNode) (hs : x.small) : okMkNode x.ac (x.kids.length, x.table.rules.length) := by
  obtain ⟨a0, a1, ⟨a2, a3, a4, a5, a6, a7, a8, a9, a10, a11, a12, ⟨a13, a14⟩, ⟨a15, a16⟩, ⟨a17, a18⟩, ⟨a19, a20⟩, ⟨a21, a22⟩, ⟨a23, a24⟩, ⟨a25, a26⟩, a27, ⟨⟨a28, a29⟩, ⟨a30, a31⟩, ⟨a32, a33⟩, ⟨a34, a35⟩, ⟨a36, a37⟩, ⟨a38, a39⟩⟩, ⟨⟨a40, a41⟩, ⟨a42, a43⟩, ⟨a44, a45⟩, ⟨a46, a47⟩, ⟨a48, a49⟩, ⟨a50, a51⟩⟩, ⟨a52, a53, a54, a55⟩, ⟨a56, a57, a58, a59⟩, a60, a61⟩, a62, ⟨a63⟩⟩ := x
  obtain ⟨sa1, sa63, -⟩ := hs
  exact ⟨_, _, _, _, _, _, _, _, _, _, _, _, _, _, _, _, _, _, _, _, _, _, _, _, _, _, _, _, _, _, _, _, _, _, _, _, _, _, _, _, _, _, _, _, _, _, _, _, _, _, _, _, _, _, _, _, _, _, _, _, _, _, _, _, rfl, ⟨by simp [vw], by simpa [vw] using sa1, vw_imm _ _, vw_k (c := intC) (k := 1) fun _ => rfl⟩, ⟨by simp [vw], by simpa [vw] using sa63, vw_imm _ _, vw_k (c := GRule.c) (k := 3) fun _ => rfl⟩⟩
set_option maxHeartbeats 4000000 in
theorem laws_markTree_m (k0 : Int) (b0 : List Nat) (V0 : List (List AC)) (ls0 : List (Nat × Nat)) (hV0 : V0.length = ls0.length) (hl0 : V0.length ≤ 1048576) (hok0 : ∀ (i : Nat) (x : List AC) (l : Nat × Nat), V0[i]? = some x → ls0[i]? = some l → okMkNode x l)
    (hnd : b0.Nodup) (hk0 : 0 ≤ k0) (hk1 : endMkNode k0 ls0 ≤ 1152921504606846976) :
    MCon Try.prog 24 [.agg [.fv b0 V0], ai k0] [(b0, V0, mkRowsNode k0 ls0)] (.int .i64 (endMkNode k0 ls0)) := by
  have hm0 := laws_markNodeS_m k0 b0 V0 ls0 hV0 hl0 hok0 hnd hk0 hk1
  have kk0 : ∃ k : Nat, (∀ x ∈ V0, x.length = k) ∧ ∀ x ∈ mkRowsNode k0 ls0, x.length = k := ⟨64, fun x hx => by
    obtain ⟨i, hi, rfl⟩ := List.getElem_of_mem hx
    exact okMkNode_len (hok0 i _ _ (List.getElem?_eq_getElem hi) (List.getElem?_eq_getElem (by omega))), mkRowsNode_k ls0 k0⟩
  have ln0 : (mkRowsNode k0 ls0).length = V0.length := by rw [mkRowsNode_len, hV0]
  clear hok0
  obtain ⟨R0, hR0⟩ : ∃ R, R = mkRowsNode k0 ls0 := ⟨_, rfl⟩
  obtain ⟨K1, hK1⟩ : ∃ K, K = endMkNode k0 ls0 := ⟨_, rfl⟩
  rw [← hR0, ← hK1] at hm0
  rw [← hR0] at kk0 ln0
  rw [← hR0, ← hK1]
  clear hR0 hK1 hk1
  refine mcon_wrap (fun u hu => ?_) ?_
  · rw [List.mem_singleton.1 hu]; exact ⟨kk0, ln0⟩
  obtain ⟨β, hβ⟩ : ∃ β : BP, β = ⟨0, fun b => ∃ u ∈ [(b0, V0, R0)], b ∈ u.1⟩ := ⟨_, rfl⟩
  have hx0 : ∀ b ∈ b0, β.ex b := by rw [hβ]; exact fun b hb => ⟨_, List.mem_cons_self .., hb⟩
  rw [← hβ]
  clear hβ
  refine conx_run4 (h := []) [(1, .hand)] [] (c := body Try.f24) fits Try.func24 (by kernel_rfl) (by kernel_rfl) (bl (by rfl)) (by kernel_rfl) fun g eff hd F heff hhd hg hF => ?_
  cbv
  refine hand_mark hg hhd fits 3 (by kernel_rfl) (fun mk hmk => ?_)
  cbv
  subst hmk
  refine ⟨_, _, _, [(b0, V0, R0)], _, [(2, .t (.c (.ptr 0 0 0))), (4, .t (ai 0))], [.bx 55 1 [.fv b0 R0]], rfl, rfl, rfl, rfl, rfl, hm0, fun u hu b hb => hx0 b (by rw [List.mem_singleton.1 hu] at hb; exact hb), fun u hu => ?_, ⟨.inr (.inl ⟨rfl, trivial⟩), .inr (.inl ⟨rfl, trivial⟩), trivial⟩, ⟨⟨rfl, rfl, .inr (.inr ⟨_, List.mem_singleton.2 rfl, rfl, rfl⟩), trivial⟩, trivial⟩, ?_⟩
  · rw [List.mem_singleton.1 hu]; exact ⟨_, List.mem_cons_self .., List.mem_singleton.2 rfl⟩
  cbv
  refine finW hF 0 _ _ [.fv b0 R0] rfl rfl (fun u hu => ?_)
  rw [List.mem_singleton.1 hu]; exact List.mem_cons_self ..
theorem endMkNode_bound : ∀ (ls : List (Nat × Nat)) (k : Int), (∀ l ∈ ls, l.1 ≤ 1048576 ∧ l.2 ≤ 1048576) → endMkNode k ls ≤ k + 4194366 * (ls.length : Int)
  | [], k, _ => by simp [endMkNode]
  | l :: ls, k, h => by
    have h1 := endMkNode_bound ls (nxMkNode k l.1 l.2) fun l' hl => h l' (List.mem_cons_of_mem _ hl)
    obtain ⟨h2, h3⟩ := h l (List.mem_cons_self ..)
    unfold endMkNode
    unfold nxMkNode at h1 ⊢
    simp only [List.length_cons]
    omega
/-- What marking a copy of a tree comes to. -/
theorem markTree_of (ns : List NNode) (hl : ns.length ≤ 1048576) (hs : ∀ y ∈ ns, NNode.small y) : ∃ (R0 : List (List AC)) (K : Int), 0 ≤ K ∧ K ≤ 1152921504606846976 ∧ ∀ b0 : List Nat, b0.Nodup → MCon Try.prog 24 [.agg [.fv b0 (vwA NNode.ac ns)], ai 1] [(b0, vwA NNode.ac ns, R0)] (.int .i64 K) := by
  have k0 := endMkNode_le (ns.map fun m => (m.kids.length, m.table.rules.length)) 1
  have k2 := endMkNode_bound (ns.map fun m => (m.kids.length, m.table.rules.length)) 1 (fun l hl => by
    obtain ⟨m, hm, rfl⟩ := List.mem_map.1 hl
    have := hs m hm
    obtain ⟨a0, a1, ⟨a2, a3, a4, a5, a6, a7, a8, a9, a10, a11, a12, ⟨a13, a14⟩, ⟨a15, a16⟩, ⟨a17, a18⟩, ⟨a19, a20⟩, ⟨a21, a22⟩, ⟨a23, a24⟩, ⟨a25, a26⟩, a27, ⟨⟨a28, a29⟩, ⟨a30, a31⟩, ⟨a32, a33⟩, ⟨a34, a35⟩, ⟨a36, a37⟩, ⟨a38, a39⟩⟩, ⟨⟨a40, a41⟩, ⟨a42, a43⟩, ⟨a44, a45⟩, ⟨a46, a47⟩, ⟨a48, a49⟩, ⟨a50, a51⟩⟩, ⟨a52, a53, a54, a55⟩, ⟨a56, a57, a58, a59⟩, a60, a61⟩, a62, ⟨a63⟩⟩ := m
    exact ⟨this.1, this.2.1⟩)
  rw [List.length_map] at k2
  refine ⟨_, _, Int.le_trans (by decide) k0, by omega, fun b0 hnd => laws_markTree_m 1 b0 _ (ns.map fun m => (m.kids.length, m.table.rules.length)) (by simp [vwA]) (by simpa [vwA] using hl) (fun i x l hx hl => ?_) hnd (by decide) (by omega)⟩
  simp only [vwA, List.getElem?_map, Option.map_eq_some_iff] at hx hl
  obtain ⟨m, hm, rfl⟩ := hx
  obtain ⟨m', hm', rfl⟩ := hl
  rw [hm] at hm'
  cases hm'
  exact okMkNode_of m (hs m (List.mem_of_getElem? hm))

end Go.Proofs.Ytenbloaopcfdlaa
