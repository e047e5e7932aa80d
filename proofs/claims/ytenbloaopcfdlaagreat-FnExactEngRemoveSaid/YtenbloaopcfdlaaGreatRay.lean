/- Valid trees. Valid trees, as the program tells them. -/
import Derived.Test.YtenbloaopcfdlaaGreatRax
namespace Go.Proofs.YtenbloaopcfdlaaGreat
open Go.ChangeShapes Go.WideShapes Go.ChangeAt Go.RowKit Am
set_option linter.unusedVariables false
set_option linter.unusedSimpArgs false
set_option maxRecDepth 100000
def kidsN (ns : List NNode) (n : Int) : List Int := match ns[(n - 1).toNat]? with | some x => x.kids | none => []
def kidOk (ns : List NNode) (n : Int) (k : Int) : Bool := isN ns k && decide (upN ns k = n)
def tabE (x : NNode) : Bool := !((x.measured && (!taOk x.table.rules || decide ((0 : Int) < (x.kids.length : Int)))) || (!x.measured && decide ((0 : Int) < (x.table.rules.length : Int))))
def upOk (ns : List NNode) (n up : Int) : Bool := decide (up = 0) || decide (cnt (kidsN ns up) n = 1)
def nodeOk (ns : List NNode) (n : Int) (x : NNode) : Bool := stOk x.style && (rng (depN ns n) 1 4 && (upOk ns n x.up && (x.kids.all (kidOk ns n) && tabE x)))
def goT (ns : List NNode) : List NNode → Int → Bool
  | [], _ => true
  | x :: xs, i => nodeOk ns (i + 1) x && goT ns xs (i + 1)
def treeB (ns : List NNode) : Bool := decide ((ns.length : Int) ≤ 12) && goT ns ns 0
theorem goT_iff (ns : List NNode) : ∀ (xs : List NNode) (k : Int), goT ns xs k = true ↔ ∀ (i : Nat) (x : NNode), xs[i]? = some x → nodeOk ns (k + (i : Int) + 1) x = true
  | [], k => by simp [goT]
  | x :: xs, k => by
    simp only [goT, Bool.and_eq_true]
    rw [goT_iff ns xs (k + 1)]
    constructor
    · rintro ⟨h1, h2⟩ i y hy
      cases i with
      | zero => simp at hy; subst hy; simpa using h1
      | succ i => have := h2 i y (by simpa using hy); rw [show k + ((i + 1 : Nat) : Int) + 1 = k + 1 + (i : Int) + 1 by omega]; exact this
    · intro h
      refine ⟨by simpa using h 0 x rfl, fun i y hy => ?_⟩
      have := h (i + 1) y (by simpa using hy)
      rw [show k + ((i + 1 : Nat) : Int) + 1 = k + 1 + (i : Int) + 1 by omega] at this
      exact this
theorem tree_no {ns : List NNode} {z : Int} {x : NNode} (h0 : 0 ≤ z) (hx : ns[z.toNat]? = some x) (h : nodeOk ns (z + 1) x = false) : treeB ns = false := by
  cases hg : goT ns ns 0
  · simp [treeB, hg]
  · have := (goT_iff ns ns 0).1 hg z.toNat x hx
    rw [show (0 : Int) + ((z.toNat : Nat) : Int) + 1 = z + 1 by omega, h] at this
    cases this
theorem tree_yes {ns : List NNode} {z M : Int} (hM : M = (ns.length : Int)) (h12 : M ≤ 12) (hz : M ≤ z) (h : ∀ (i : Nat) (x : NNode), i < z.toNat → ns[i]? = some x → nodeOk ns ((i : Int) + 1) x = true) : treeB ns = true := by
  have hg : goT ns ns 0 = true := (goT_iff ns ns 0).2 fun i x hx => by
    have hi := (List.getElem?_eq_some_iff.1 hx).1
    have := h i x (by omega) hx
    rwa [show (0 : Int) + (i : Int) + 1 = (i : Int) + 1 by omega]
  simp only [treeB, hg, Bool.and_true, decide_eq_true_eq]
  omega
theorem tree_big {ns : List NNode} {M : Int} (hM : M = (ns.length : Int)) (h : ¬ M ≤ 12) : treeB ns = false := by
  simp only [treeB, Bool.and_eq_false_iff, decide_eq_false_iff_not]
  left; omega
theorem dep_up {ns : List NNode} {n : Int} {x : NNode} (h0 : n ≠ 0) (hn : isN ns n = true) (hx : ns[(n - 1).toNat]? = some x) (hd : rng (depN ns n) 1 4 = true) (hu : x.up ≠ 0) : isN ns x.up = true := by
  cases hi : isN ns x.up
  · exfalso
    have hl : ns.length ≠ 0 := fun h => by
      have := (isN_at hn).2.1
      have := (isN_at hn).1
      omega
    obtain ⟨L, hL⟩ : ∃ L, ns.length = L + 1 := ⟨ns.length - 1, by omega⟩
    rw [depN, hL, dep_step ns h0 hn, upN_at hx, dep_out ns _ _ _ hu hi] at hd
    simp [rng] at hd
  · rfl
theorem kids_no {ns : List NNode} {n : Int} {xs : List Int} {i : Nat} {k : Int} (h : xs[i]? = some k) (hk : kidOk ns n k = false) : xs.all (kidOk ns n) = false := by
  rw [List.all_eq_false]
  exact ⟨k, List.mem_of_getElem? h, by rw [hk]; decide⟩
theorem kids_to {ns : List NNode} {n : Int} {xs : List Int} {z M : Int} (hM : M = (xs.length : Int)) (hz : M ≤ z) (h : ∀ (i : Nat) (v : Int), i < z.toNat → xs[i]? = some v → kidOk ns n v = true) : xs.all (kidOk ns n) = true := by
  rw [List.all_eq_true]
  exact all_upto hM hz h
theorem le_viaN {n : Nat} {a z : Int} (h : a = (n : Int)) (hz : z ≤ (n : Int)) : z ≤ a := h ▸ hz
theorem isN_of {ns : List NNode} {z M : Int} (hM : M = (ns.length : Int)) (h0 : 0 ≤ z) (h1 : z < M) : isN ns (z + 1) = true := by
  simp only [isN, rng, Bool.and_eq_true, decide_eq_true_eq]; omega
theorem at_of {ns : List NNode} {z : Int} {x : NNode} (h : ns[z.toNat]? = some x) : ns[(z + 1 - 1).toNat]? = some x := by rw [show z + 1 - 1 = z by omega]; exact h
theorem len_pos {α : Type} {c : α → Array Value} {xs : List α} {V : List (List AC)} (hV : V = vw c xs) : lenI V = (xs.length : Int) := by rw [hV, lenI_eq, vw_length]
end Go.Proofs.YtenbloaopcfdlaaGreat
namespace Go.Proofs.YtenbloaopcfdlaaGreat
open Go.ChangeShapes Go.WideShapes Go.ChangeAt Go.RowKit Am
set_option linter.unusedVariables false
set_option linter.unusedSimpArgs false
set_option maxRecDepth 100000
set_option maxHeartbeats 16000000 in
theorem impl_TreeOk_a (ns : List NNode) (hl : ns.length ≤ 1048576) (hs : ∀ y ∈ ns, y.small) : PCon Tryz.prog 57 [.agg [.view (vwA NNode.ac ns)]] fun res rows => res = .t (abl (treeB ns)) ∧ rows = [] := by
  obtain ⟨V, hV⟩ : ∃ V, V = vwA NNode.ac ns := ⟨_, rfl⟩
  have hVx : lenI V = (ns.length : Int) := by rw [lenI_eq, hV, vwA_length]
  have hV0 : 0 ≤ lenI V := by omega
  have hV1 : lenI V ≤ 1048576 := by omega
  have hisN : ∀ n, isN ns n = rng n 1 (lenI V) := fun n => by rw [hVx]; rfl
  have cD := fun n => impl_DepthOf_a ns n hl
  obtain ⟨R, hR⟩ : ∃ R, R = treeB ns := ⟨_, rfl⟩
  rw [← hR]
  rw [← hV] at cD ⊢
  refine pcon_run (c := body Tryz.f57) fits Tryz.func57 (by kernel_rfl) (by kernel_rfl) (by rfl) (by kernel_rfl) fun g F hg hF => ?_
  cbv
  cases h12 : g .q .gtr (g .ln V) 12
  case true =>
    rw [goGtr hg, goLn hg, decide_eq_true_eq] at h12
    cbv
    exact fin0b hF (by rw [hR, tree_big hVx (by omega)])
  rw [goGtr hg, goLn hg, decide_eq_false_iff_not] at h12
  cbv
  refine loop_run hg fits (by kernel_rfl) (fun z : Int => [(1, .t (.c (.ptr 0 0 0))), (16, .t (.c (.view V))), (17, .t (ai (g .ln V))), (18, .t (ai z))]) (fun _ => [.bx 43 1 [.view V]]) (fun z => 0 ≤ z ∧ z ≤ lenI V ∧ ∀ (i : Nat) (x : NNode), i < z.toNat → ns[i]? = some x → nodeOk ns ((i : Int) + 1) x = true) (fun z => (lenI V).toNat - z.toNat)
    0 [some 0] ⟨Int.le_refl 0, hV0, fun i x hi => by simp at hi⟩ (wkS [0] (by decide) ⟨⟨_, rfl, rfl, rfl⟩, trivial⟩ ⟨rfl, rfl, rfl, rfl, trivial⟩) (fun z B hst hB => ?_)
  obtain ⟨h0, h1, h2⟩ := hst
  cbv
  cases hc : g .q .lss z (g .ln V)
  · rw [goLss hg, goLn hg, decide_eq_false_iff_not] at hc
    cbv
    exact fin0b hF (by rw [hR, tree_yes hVx (by omega) (by omega) h2])
  rw [goLss hg, goLn hg, decide_eq_true_eq] at hc
  cbv
  obtain ⟨x, hx⟩ := at_z (xs := ns) h0 (lt_viaN hVx hc)
  have hyy : V[z.toNat]? = some x.ac := by rw [hV]; exact vwA_at hx
  have hsx := hs x (List.mem_of_getElem? hx)
  have hno : nodeOk ns (z + 1) x = false → R = false := fun h => by rw [hR]; exact tree_no h0 hx h
  have hin := isN_of hVx h0 hc
  have hat := at_of hx
  obtain ⟨n, hn⟩ : ∃ n, n = z + 1 := ⟨_, rfl⟩
  rw [← hn] at hno hin hat
  obtain ⟨OK, hOK⟩ : ∃ OK, OK = nodeOk ns n x := ⟨_, rfl⟩
  have hnode := hOK
  rw [nodeOk] at hnode
  rw [← hOK] at hno
  obtain ⟨A, hA⟩ : ∃ A, A = stOk x.style := ⟨_, rfl⟩
  obtain ⟨Dp, hDp⟩ : ∃ D, D = depN ns n := ⟨_, rfl⟩
  obtain ⟨Bd, hBd⟩ : ∃ B, B = rng Dp 1 4 := ⟨_, rfl⟩
  obtain ⟨C, hC⟩ : ∃ C, C = upOk ns n x.up := ⟨_, rfl⟩
  obtain ⟨D, hD⟩ : ∃ D, D = x.kids.all (kidOk ns n) := ⟨_, rfl⟩
  obtain ⟨E, hE⟩ : ∃ E, E = tabE x := ⟨_, rfl⟩
  have hup : Bd = true → x.up ≠ 0 → isN ns x.up = true := fun hb hu => dep_up (by omega) hin hat (by rw [← hDp, ← hBd]; exact hb) hu
  rw [← hA, ← hDp, ← hBd, ← hC, ← hD, ← hE] at hnode
  have cA := impl_StyleOk_a x.style
  have cDn := cD n
  have cB := impl_in_r Dp 1 4
  have cT := impl_TableOk_a x.table.rules
  rw [← hA] at cA
  rw [← hDp] at cDn
  rw [← hBd] at cB
  have h1' : ∀ (i : Nat) (y : NNode), i < (z + 1).toNat → ns[i]? = some y → OK = true → nodeOk ns ((i : Int) + 1) y = true := fun i y hi hy hk => by
    by_cases hi2 : i < z.toNat
    · exact h2 i y hi2 hy
    · obtain rfl : i = z.toNat := by omega
      rw [hx] at hy
      cases hy
      rw [show ((z.toNat : Nat) : Int) + 1 = n by omega, ← hOK]; exact hk
  obtain ⟨a0, a1, ⟨a2, a3, a4, a5, a6, a7, a8, a9, a10, a11, a12, ⟨a13, a14⟩, ⟨a15, a16⟩, ⟨a17, a18⟩, ⟨a19, a20⟩, ⟨a21, a22⟩, ⟨a23, a24⟩, ⟨a25, a26⟩, a27, ⟨⟨a28, a29⟩, ⟨a30, a31⟩, ⟨a32, a33⟩, ⟨a34, a35⟩, ⟨a36, a37⟩, ⟨a38, a39⟩⟩, ⟨⟨a40, a41⟩, ⟨a42, a43⟩, ⟨a44, a45⟩, ⟨a46, a47⟩, ⟨a48, a49⟩, ⟨a50, a51⟩⟩, ⟨a52, a53, a54, a55⟩, ⟨a56, a57, a58, a59⟩, a60, a61⟩, a62, ⟨a63⟩⟩ := x
  obtain ⟨sa1, sa63, -⟩ := hsx
  replace cT := cT sa63
  simp only at hup hC hD hE cA cT
  replace hyy : V[z.toNat]? = some [.imm (.int .i64 a0), .view (vw intC a1), .imm (.int .i64 a2), .imm (.int .i64 a3), .imm (.int .i64 a4), .imm (.int .i64 a5), .imm (.int .i64 a6), .imm (.int .i64 a7), .imm (.bool a8), .imm (.bool a9), .imm (.int .i64 a10), .imm (.int .i64 a11), .imm (.int .i64 a12), .imm (.int .i64 a13), .imm (.int .i64 a14), .imm (.int .i64 a15), .imm (.int .i64 a16), .imm (.int .i64 a17), .imm (.int .i64 a18), .imm (.int .i64 a19), .imm (.int .i64 a20), .imm (.int .i64 a21), .imm (.int .i64 a22), .imm (.int .i64 a23), .imm (.int .i64 a24), .imm (.int .i64 a25), .imm (.int .i64 a26), .imm (.int .i64 a27), .imm (.int .i64 a28), .imm (.int .i64 a29), .imm (.int .i64 a30), .imm (.int .i64 a31), .imm (.int .i64 a32), .imm (.int .i64 a33), .imm (.int .i64 a34), .imm (.int .i64 a35), .imm (.int .i64 a36), .imm (.int .i64 a37), .imm (.int .i64 a38), .imm (.int .i64 a39), .imm (.int .i64 a40), .imm (.int .i64 a41), .imm (.int .i64 a42), .imm (.int .i64 a43), .imm (.int .i64 a44), .imm (.int .i64 a45), .imm (.int .i64 a46), .imm (.int .i64 a47), .imm (.int .i64 a48), .imm (.int .i64 a49), .imm (.int .i64 a50), .imm (.int .i64 a51), .imm (.int .i64 a52), .imm (.int .i64 a53), .imm (.int .i64 a54), .imm (.int .i64 a55), .imm (.int .i64 a56), .imm (.int .i64 a57), .imm (.int .i64 a58), .imm (.int .i64 a59), .imm (.int .i64 a60), .imm (.int .i64 a61), .imm (.bool a62), .view (vw GRule.c a63)] := hyy
  obtain ⟨TK, hTK⟩ : ∃ T, T = taOk a63 := ⟨_, rfl⟩
  rw [← hTK] at cT
  obtain ⟨Va1, hVa1⟩ : ∃ V, V = vw intC a1 := ⟨_, rfl⟩
  obtain ⟨Va63, hVa63⟩ : ∃ V, V = vw GRule.c a63 := ⟨_, rfl⟩
  have la1 := len_pos hVa1
  have la63 := len_pos hVa63
  have pa1 : 0 ≤ lenI Va1 := by omega
  have qa1 : lenI Va1 ≤ 1048576 := by omega
  rw [← hVa1, ← hVa63] at hyy
  rw [← hVa63] at cT
  have e1 : g .w .add .i64 z 1 = n := by rw [goAdd hg, wrap_small _ (by omega), hn]
  refine goX hg _ h0 hyy rfl ?_
  cbv
  rw [e1]
  (first | refine call0 hg cA rfl rfl ?_ | refine call0P hg cA rfl rfl ?_)
  cases A
  case false =>
    cbv
    exact fin0b hF (hno hnode).symm
  cbv
  (first | refine call0 hg cDn rfl rfl ?_ | refine call0P hg cDn rfl rfl ?_)
  cbv
  (first | refine call0 hg cB rfl rfl ?_ | refine call0P hg cB rfl rfl ?_)
  cases Bd
  case false =>
    cbv
    exact fin0b hF (hno (by rw [hnode]; rfl)).symm
  replace hup := hup rfl
  have hE2 : E = !((a62 && (!TK || decide (0 < lenI Va1))) || (!a62 && decide (0 < lenI Va63))) := by rw [hE, hTK, la1, la63]; rfl
  clear hE hTK
  cbv
  refine loop_run hg fits (by kernel_rfl) (fun j : Int => [(1, .t (.c (.ptr 0 0 0))), (4, .t (.c (.ptr 1 0 0))), (5, .t (ai n)), (16, .t (.c (.view V))), (17, .t (ai (g .ln V))), (18, .t (ai z)), (37, .t (.c (.view Va1))), (38, .t (ai (g .ln Va1))), (39, .t (ai j))]) (fun _ => [.bx 43 1 [.view V], .bx 106 64 [.imm (.int .i64 a0), .view Va1, .imm (.int .i64 a2), .imm (.int .i64 a3), .imm (.int .i64 a4), .imm (.int .i64 a5), .imm (.int .i64 a6), .imm (.int .i64 a7), .imm (.bool a8), .imm (.bool a9), .imm (.int .i64 a10), .imm (.int .i64 a11), .imm (.int .i64 a12), .imm (.int .i64 a13), .imm (.int .i64 a14), .imm (.int .i64 a15), .imm (.int .i64 a16), .imm (.int .i64 a17), .imm (.int .i64 a18), .imm (.int .i64 a19), .imm (.int .i64 a20), .imm (.int .i64 a21), .imm (.int .i64 a22), .imm (.int .i64 a23), .imm (.int .i64 a24), .imm (.int .i64 a25), .imm (.int .i64 a26), .imm (.int .i64 a27), .imm (.int .i64 a28), .imm (.int .i64 a29), .imm (.int .i64 a30), .imm (.int .i64 a31), .imm (.int .i64 a32), .imm (.int .i64 a33), .imm (.int .i64 a34), .imm (.int .i64 a35), .imm (.int .i64 a36), .imm (.int .i64 a37), .imm (.int .i64 a38), .imm (.int .i64 a39), .imm (.int .i64 a40), .imm (.int .i64 a41), .imm (.int .i64 a42), .imm (.int .i64 a43), .imm (.int .i64 a44), .imm (.int .i64 a45), .imm (.int .i64 a46), .imm (.int .i64 a47), .imm (.int .i64 a48), .imm (.int .i64 a49), .imm (.int .i64 a50), .imm (.int .i64 a51), .imm (.int .i64 a52), .imm (.int .i64 a53), .imm (.int .i64 a54), .imm (.int .i64 a55), .imm (.int .i64 a56), .imm (.int .i64 a57), .imm (.int .i64 a58), .imm (.int .i64 a59), .imm (.int .i64 a60), .imm (.int .i64 a61), .imm (.bool a62), .view Va63]]) (fun j : Int => 0 ≤ j ∧ j ≤ lenI Va1 ∧ ∀ (i : Nat) (v : Int), i < j.toNat → a1[i]? = some v → kidOk ns n v = true) (fun j => (lenI Va1).toNat - j.toNat)
    0 [some 0, some 1] ⟨Int.le_refl 0, pa1, fun i v hi => by simp at hi⟩ (wkS [0, 1] (by decide) ⟨⟨_, rfl, rfl, rfl⟩, ⟨_, rfl, rfl, rfl⟩, trivial⟩ ⟨rfl, rfl, rfl, rfl, rfl, rfl, rfl, rfl, rfl, trivial⟩) (fun j B2 hst2 hB2 => ?_)
  obtain ⟨k0, k1, k2⟩ := hst2
  cbv
  cases hk : g .q .lss j (g .ln Va1)
  case true =>
    rw [goLss hg, goLn hg, decide_eq_true_eq] at hk
    cbv
    obtain ⟨y, hy⟩ := at_z (xs := a1) k0 (lt_viaN la1 hk)
    have hyk : Va1[j.toNat]? = some (lc (intC y)) := by rw [hVa1]; exact vw_at hy
    have ci := impl_isNode_a V y
    rw [← hisN y] at ci
    refine goX hg _ k0 hyk rfl ?_
    cbv
    cases hik : isN ns y
    · rw [hik] at ci
      have hDf : D = false := by rw [hD]; exact kids_no hy (by rw [kidOk, hik]; rfl)
      (first | refine call0 hg ci rfl rfl ?_ | refine call0P hg ci rfl rfl ?_)
      cbv
      exact fin0b hF (hno (by rw [hnode, hDf]; simp)).symm
    rw [hik] at ci
    (first | refine call0 hg ci rfl rfl ?_ | refine call0P hg ci rfl rfl ?_)
    obtain ⟨i1, i2, x, hxc⟩ := isN_at hik
    have hi2 : y ≤ 1048576 := Int.le_trans (le_viaN hVx i2) hV1
    have hyc : V[(y - 1).toNat]? = some x.ac := by rw [hV]; exact vwA_at hxc
    have hupc := upN_at hxc
    obtain ⟨c0, c1, ⟨c2, c3, c4, c5, c6, c7, c8, c9, c10, c11, c12, ⟨c13, c14⟩, ⟨c15, c16⟩, ⟨c17, c18⟩, ⟨c19, c20⟩, ⟨c21, c22⟩, ⟨c23, c24⟩, ⟨c25, c26⟩, c27, ⟨⟨c28, c29⟩, ⟨c30, c31⟩, ⟨c32, c33⟩, ⟨c34, c35⟩, ⟨c36, c37⟩, ⟨c38, c39⟩⟩, ⟨⟨c40, c41⟩, ⟨c42, c43⟩, ⟨c44, c45⟩, ⟨c46, c47⟩, ⟨c48, c49⟩, ⟨c50, c51⟩⟩, ⟨c52, c53, c54, c55⟩, ⟨c56, c57, c58, c59⟩, c60, c61⟩, c62, ⟨c63⟩⟩ := x
    simp only at hupc
    replace hyc : V[(y - 1).toNat]? = some [.imm (.int .i64 c0), .view (vw intC c1), .imm (.int .i64 c2), .imm (.int .i64 c3), .imm (.int .i64 c4), .imm (.int .i64 c5), .imm (.int .i64 c6), .imm (.int .i64 c7), .imm (.bool c8), .imm (.bool c9), .imm (.int .i64 c10), .imm (.int .i64 c11), .imm (.int .i64 c12), .imm (.int .i64 c13), .imm (.int .i64 c14), .imm (.int .i64 c15), .imm (.int .i64 c16), .imm (.int .i64 c17), .imm (.int .i64 c18), .imm (.int .i64 c19), .imm (.int .i64 c20), .imm (.int .i64 c21), .imm (.int .i64 c22), .imm (.int .i64 c23), .imm (.int .i64 c24), .imm (.int .i64 c25), .imm (.int .i64 c26), .imm (.int .i64 c27), .imm (.int .i64 c28), .imm (.int .i64 c29), .imm (.int .i64 c30), .imm (.int .i64 c31), .imm (.int .i64 c32), .imm (.int .i64 c33), .imm (.int .i64 c34), .imm (.int .i64 c35), .imm (.int .i64 c36), .imm (.int .i64 c37), .imm (.int .i64 c38), .imm (.int .i64 c39), .imm (.int .i64 c40), .imm (.int .i64 c41), .imm (.int .i64 c42), .imm (.int .i64 c43), .imm (.int .i64 c44), .imm (.int .i64 c45), .imm (.int .i64 c46), .imm (.int .i64 c47), .imm (.int .i64 c48), .imm (.int .i64 c49), .imm (.int .i64 c50), .imm (.int .i64 c51), .imm (.int .i64 c52), .imm (.int .i64 c53), .imm (.int .i64 c54), .imm (.int .i64 c55), .imm (.int .i64 c56), .imm (.int .i64 c57), .imm (.int .i64 c58), .imm (.int .i64 c59), .imm (.int .i64 c60), .imm (.int .i64 c61), .imm (.bool c62), .view (vw GRule.c c63)] := hyc
    obtain ⟨Vc1, hVc1⟩ : ∃ V, V = vw intC c1 := ⟨_, rfl⟩
    obtain ⟨Vc63, hVc63⟩ : ∃ V, V = vw GRule.c c63 := ⟨_, rfl⟩
    rw [← hVc1, ← hVc63] at hyc
    cbv


    (first | refine call0 hg (impl_node_a V y i1 hi2 hyc) rfl rfl ?_ | refine call0P hg (impl_node_a V y i1 hi2 hyc) rfl rfl ?_)
    cbv

    cases hq : g .q .neq c0 n
    case true =>
      rw [goNeq hg, bne_iff_ne] at hq
      have hDf : D = false := by rw [hD]; exact kids_no hy (by rw [kidOk, hik, hupc]; simpa using hq)
      cbv
      exact fin0b hF (hno (by rw [hnode, hDf]; simp)).symm
    rw [goNeq hg, bne_eq_false_iff_eq] at hq
    have hkok : kidOk ns n y = true := by rw [kidOk, hik, hupc]; simpa using hq
    cbv
    have e3 : g .w .add .i64 j 1 = j + 1 := by rw [goAdd hg, wrap_small _ (by omega)]
    rw [e3]
    exact back hB2 (j + 1) [some 0, some 1] (wkS [0, 1] (by decide) ⟨⟨_, rfl, rfl, rfl⟩, ⟨_, rfl, rfl, rfl⟩, trivial⟩ ⟨rfl, rfl, rfl, rfl, rfl, rfl, rfl, rfl, rfl, trivial⟩) ⟨by omega, by omega, fun i v hi hv => by
      by_cases hi2 : i < j.toNat
      · exact k2 i v hi2 hv
      · obtain rfl : i = j.toNat := by omega
        rw [hy] at hv
        cases hv
        exact hkok⟩ (by omega)
  rw [goLss hg, goLn hg, decide_eq_false_iff_not] at hk
  have hDt : D = true := by rw [hD]; exact kids_to la1 (by omega) k2
  by_cases hu : a0 = 0
  · have hCt : C = true := by rw [hC, upOk, hu]; rfl
    have eu : g .q .neq a0 0 = false := by rw [goNeq hg]; simpa using hu
    cbv
    rw [eu]
    cbv
    replace hnode : OK = E := by rw [hnode, hCt, hDt]; simp
    cases a62
    · replace hE2 : E = !(decide (0 < lenI Va63)) := by rw [hE2]; simp
      cbv
      cases ht : g .q .gtr (g .ln Va63) 0
      case true =>
        rw [goGtr hg, goLn hg, decide_eq_true_eq] at ht
        cbv
        exact fin0b hF (hno (by rw [hnode, hE2]; simpa using ht)).symm
      rw [goGtr hg, goLn hg, decide_eq_false_iff_not] at ht
      have hOKt : OK = true := by rw [hnode, hE2]; simpa using ht
      cbv
      rw [e1, hn]
      exact back hB (z + 1) [some 0] (wkS [0] (by decide) ⟨⟨_, rfl, rfl, rfl⟩, trivial⟩ ⟨rfl, rfl, rfl, rfl, trivial⟩) ⟨by omega, by omega, fun i y hi hy => h1' i y hi hy hOKt⟩ (by omega)
    · replace hE2 : E = !(!TK || decide (0 < lenI Va1)) := by rw [hE2]; simp
      cbv
      (first | refine call0 hg cT rfl rfl ?_ | refine call0P hg cT rfl rfl ?_)
      cases TK
      case false =>
        cbv
        exact fin0b hF (hno (by rw [hnode, hE2]; rfl)).symm
      cbv
      cases ht : g .q .gtr (g .ln Va1) 0
      case true =>
        rw [goGtr hg, goLn hg, decide_eq_true_eq] at ht
        cbv
        exact fin0b hF (hno (by rw [hnode, hE2]; simpa using ht)).symm
      rw [goGtr hg, goLn hg, decide_eq_false_iff_not] at ht
      have hOKt : OK = true := by rw [hnode, hE2]; simpa using ht
      cbv
      rw [e1, hn]
      exact back hB (z + 1) [some 0] (wkS [0] (by decide) ⟨⟨_, rfl, rfl, rfl⟩, trivial⟩ ⟨rfl, rfl, rfl, rfl, trivial⟩) ⟨by omega, by omega, fun i y hi hy => h1' i y hi hy hOKt⟩ (by omega)
  · have eu : g .q .neq a0 0 = true := by rw [goNeq hg]; simpa using hu
    have hiu := hup hu
    obtain ⟨u1, u2, xb, hxb⟩ := isN_at hiu
    have hu2 : a0 ≤ 1048576 := Int.le_trans (le_viaN hVx u2) hV1
    have hyb : V[(a0 - 1).toNat]? = some xb.ac := by rw [hV]; exact vwA_at hxb
    have hkb : kidsN ns a0 = xb.kids := by unfold kidsN; rw [hxb]
    have hsb := (hs xb (List.mem_of_getElem? hxb))
    obtain ⟨b0, b1, ⟨b2, b3, b4, b5, b6, b7, b8, b9, b10, b11, b12, ⟨b13, b14⟩, ⟨b15, b16⟩, ⟨b17, b18⟩, ⟨b19, b20⟩, ⟨b21, b22⟩, ⟨b23, b24⟩, ⟨b25, b26⟩, b27, ⟨⟨b28, b29⟩, ⟨b30, b31⟩, ⟨b32, b33⟩, ⟨b34, b35⟩, ⟨b36, b37⟩, ⟨b38, b39⟩⟩, ⟨⟨b40, b41⟩, ⟨b42, b43⟩, ⟨b44, b45⟩, ⟨b46, b47⟩, ⟨b48, b49⟩, ⟨b50, b51⟩⟩, ⟨b52, b53, b54, b55⟩, ⟨b56, b57, b58, b59⟩, b60, b61⟩, b62, ⟨b63⟩⟩ := xb
    obtain ⟨sb1, sb63, -⟩ := hsb
    simp only at hkb
    replace hyb : V[(a0 - 1).toNat]? = some [.imm (.int .i64 b0), .view (vw intC b1), .imm (.int .i64 b2), .imm (.int .i64 b3), .imm (.int .i64 b4), .imm (.int .i64 b5), .imm (.int .i64 b6), .imm (.int .i64 b7), .imm (.bool b8), .imm (.bool b9), .imm (.int .i64 b10), .imm (.int .i64 b11), .imm (.int .i64 b12), .imm (.int .i64 b13), .imm (.int .i64 b14), .imm (.int .i64 b15), .imm (.int .i64 b16), .imm (.int .i64 b17), .imm (.int .i64 b18), .imm (.int .i64 b19), .imm (.int .i64 b20), .imm (.int .i64 b21), .imm (.int .i64 b22), .imm (.int .i64 b23), .imm (.int .i64 b24), .imm (.int .i64 b25), .imm (.int .i64 b26), .imm (.int .i64 b27), .imm (.int .i64 b28), .imm (.int .i64 b29), .imm (.int .i64 b30), .imm (.int .i64 b31), .imm (.int .i64 b32), .imm (.int .i64 b33), .imm (.int .i64 b34), .imm (.int .i64 b35), .imm (.int .i64 b36), .imm (.int .i64 b37), .imm (.int .i64 b38), .imm (.int .i64 b39), .imm (.int .i64 b40), .imm (.int .i64 b41), .imm (.int .i64 b42), .imm (.int .i64 b43), .imm (.int .i64 b44), .imm (.int .i64 b45), .imm (.int .i64 b46), .imm (.int .i64 b47), .imm (.int .i64 b48), .imm (.int .i64 b49), .imm (.int .i64 b50), .imm (.int .i64 b51), .imm (.int .i64 b52), .imm (.int .i64 b53), .imm (.int .i64 b54), .imm (.int .i64 b55), .imm (.int .i64 b56), .imm (.int .i64 b57), .imm (.int .i64 b58), .imm (.int .i64 b59), .imm (.int .i64 b60), .imm (.int .i64 b61), .imm (.bool b62), .view (vw GRule.c b63)] := hyb
    obtain ⟨Cn, hCn⟩ : ∃ C, C = cnt b1 n := ⟨_, rfl⟩
    have hC2 : C = decide (Cn = 1) := by rw [hC, upOk, hkb, hCn]; simp [hu]
    obtain ⟨Vb1, hVb1⟩ : ∃ V, V = vw intC b1 := ⟨_, rfl⟩
    obtain ⟨Vb63, hVb63⟩ : ∃ V, V = vw GRule.c b63 := ⟨_, rfl⟩
    have lb1 := len_pos hVb1
    have pb1 : 0 ≤ lenI Vb1 := by omega
    have qb1 : lenI Vb1 ≤ 1048576 := by omega
    have hall : ∀ z : Int, lenI Vb1 ≤ z → psum (fun k => if k = n then 1 else 0) b1 z.toNat = Cn := fun z hz => by rw [hCn]; exact psum_all _ (by omega)
    rw [← hVb1, ← hVb63] at hyb
    cbv
    rw [eu]
    cbv
    (first | refine call0 hg (impl_node_a V a0 u1 hu2 hyb) rfl rfl ?_ | refine call0P hg (impl_node_a V a0 u1 hu2 hyb) rfl rfl ?_)
    cbv
    refine loop_run hg fits (by kernel_rfl) (fun s : Int × Int => [(1, .t (.c (.ptr 0 0 0))), (4, .t (.c (.ptr 1 0 0))), (5, .t (ai n)), (8, .t (ai s.2)), (16, .t (.c (.view V))), (17, .t (ai (g .ln V))), (18, .t (ai z)), (63, .t (.c (.view Vb1))), (64, .t (ai (g .ln Vb1))), (65, .t (ai s.1))]) (fun _ => [.bx 43 1 [.view V], .bx 106 64 [.imm (.int .i64 a0), .view Va1, .imm (.int .i64 a2), .imm (.int .i64 a3), .imm (.int .i64 a4), .imm (.int .i64 a5), .imm (.int .i64 a6), .imm (.int .i64 a7), .imm (.bool a8), .imm (.bool a9), .imm (.int .i64 a10), .imm (.int .i64 a11), .imm (.int .i64 a12), .imm (.int .i64 a13), .imm (.int .i64 a14), .imm (.int .i64 a15), .imm (.int .i64 a16), .imm (.int .i64 a17), .imm (.int .i64 a18), .imm (.int .i64 a19), .imm (.int .i64 a20), .imm (.int .i64 a21), .imm (.int .i64 a22), .imm (.int .i64 a23), .imm (.int .i64 a24), .imm (.int .i64 a25), .imm (.int .i64 a26), .imm (.int .i64 a27), .imm (.int .i64 a28), .imm (.int .i64 a29), .imm (.int .i64 a30), .imm (.int .i64 a31), .imm (.int .i64 a32), .imm (.int .i64 a33), .imm (.int .i64 a34), .imm (.int .i64 a35), .imm (.int .i64 a36), .imm (.int .i64 a37), .imm (.int .i64 a38), .imm (.int .i64 a39), .imm (.int .i64 a40), .imm (.int .i64 a41), .imm (.int .i64 a42), .imm (.int .i64 a43), .imm (.int .i64 a44), .imm (.int .i64 a45), .imm (.int .i64 a46), .imm (.int .i64 a47), .imm (.int .i64 a48), .imm (.int .i64 a49), .imm (.int .i64 a50), .imm (.int .i64 a51), .imm (.int .i64 a52), .imm (.int .i64 a53), .imm (.int .i64 a54), .imm (.int .i64 a55), .imm (.int .i64 a56), .imm (.int .i64 a57), .imm (.int .i64 a58), .imm (.int .i64 a59), .imm (.int .i64 a60), .imm (.int .i64 a61), .imm (.bool a62), .view Va63]]) (fun s => 0 ≤ s.1 ∧ s.1 ≤ lenI Vb1 ∧ 0 ≤ s.2 ∧ s.2 ≤ s.1 ∧ s.2 = psum (fun k => if k = n then 1 else 0) b1 s.1.toNat) (fun s => (lenI Vb1).toNat - s.1.toNat)
      (0, 0) [some 0, some 1] ⟨Int.le_refl 0, pb1, Int.le_refl 0, Int.le_refl 0, (psum_zero _ _).symm⟩ (wkS [0, 1] (by decide) ⟨⟨_, rfl, rfl, rfl⟩, ⟨_, rfl, rfl, rfl⟩, trivial⟩ ⟨rfl, rfl, rfl, rfl, rfl, rfl, rfl, rfl, rfl, rfl, trivial⟩) (fun s B3 hst3 hB3 => ?_)
    obtain ⟨i, d⟩ := s
    obtain ⟨q0, q1, q2, q3, q4⟩ := hst3
    simp only at q0 q1 q2 q3 q4
    cbv
    cases hq : g .q .lss i (g .ln Vb1)
    case true =>
      rw [goLss hg, goLn hg, decide_eq_true_eq] at hq
      cbv
      obtain ⟨y, hy⟩ := at_z (xs := b1) q0 (lt_viaN lb1 hq)
      have hyk : Vb1[i.toNat]? = some (lc (intC y)) := by rw [hVb1]; exact vw_at hy
      have hsu := psum_succ (fun k : Int => if k = n then (1 : Int) else 0) hy
      have e3 : g .w .add .i64 i 1 = i + 1 := by rw [goAdd hg, wrap_small _ (by omega)]
      refine goX hg _ q0 hyk rfl ?_
      cbv
      cases he : g .q .eql y n
      · have he' : y ≠ n := by rw [goEql hg] at he; simpa using he
        simp only [if_neg he'] at hsu
        cbv
        rw [e3]
        exact back hB3 (i + 1, d) [some 0, some 1] (wkS [0, 1] (by decide) ⟨⟨_, rfl, rfl, rfl⟩, ⟨_, rfl, rfl, rfl⟩, trivial⟩ ⟨rfl, rfl, rfl, rfl, rfl, rfl, rfl, rfl, rfl, rfl, trivial⟩) ⟨by simp only; omega, by simp only; omega, q2, by simp only; omega, by simp only; rw [show (i + 1).toNat = i.toNat + 1 by omega, hsu]; omega⟩ (by show (lenI Vb1).toNat - (i + 1).toNat < (lenI Vb1).toNat - i.toNat; omega)
      · have he' : y = n := by rw [goEql hg] at he; simpa using he
        simp only [if_pos he'] at hsu
        have e4 : g .w .add .i64 d 1 = d + 1 := by rw [goAdd hg, wrap_small _ (by omega)]
        cbv
        rw [e3, e4]
        exact back hB3 (i + 1, d + 1) [some 0, some 1] (wkS [0, 1] (by decide) ⟨⟨_, rfl, rfl, rfl⟩, ⟨_, rfl, rfl, rfl⟩, trivial⟩ ⟨rfl, rfl, rfl, rfl, rfl, rfl, rfl, rfl, rfl, rfl, trivial⟩) ⟨by simp only; omega, by simp only; omega, by simp only; omega, by simp only; omega, by simp only; rw [show (i + 1).toNat = i.toNat + 1 by omega, hsu]; omega⟩ (by show (lenI Vb1).toNat - (i + 1).toNat < (lenI Vb1).toNat - i.toNat; omega)
    rw [goLss hg, goLn hg, decide_eq_false_iff_not] at hq
    have hdC : d = Cn := by rw [q4, hall i (by omega)]
    subst hdC
    cbv
    cases hcn : g .q .neq d 1
    case true =>
      rw [goNeq hg, bne_iff_ne] at hcn
      have hCf : C = false := by rw [hC2]; simpa using hcn
      cbv
      exact fin0b hF (hno (by rw [hnode, hCf]; simp)).symm
    rw [goNeq hg, bne_eq_false_iff_eq] at hcn
    have hCt : C = true := by rw [hC2, hcn]; rfl
    cbv
    replace hnode : OK = E := by rw [hnode, hCt, hDt]; simp
    cases a62
    · replace hE2 : E = !(decide (0 < lenI Va63)) := by rw [hE2]; simp
      cbv
      cases ht : g .q .gtr (g .ln Va63) 0
      case true =>
        rw [goGtr hg, goLn hg, decide_eq_true_eq] at ht
        cbv
        exact fin0b hF (hno (by rw [hnode, hE2]; simpa using ht)).symm
      rw [goGtr hg, goLn hg, decide_eq_false_iff_not] at ht
      have hOKt : OK = true := by rw [hnode, hE2]; simpa using ht
      cbv
      rw [e1, hn]
      exact back hB (z + 1) [some 0] (wkS [0] (by decide) ⟨⟨_, rfl, rfl, rfl⟩, trivial⟩ ⟨rfl, rfl, rfl, rfl, trivial⟩) ⟨by omega, by omega, fun i y hi hy => h1' i y hi hy hOKt⟩ (by omega)
    · replace hE2 : E = !(!TK || decide (0 < lenI Va1)) := by rw [hE2]; simp
      cbv
      (first | refine call0 hg cT rfl rfl ?_ | refine call0P hg cT rfl rfl ?_)
      cases TK
      case false =>
        cbv
        exact fin0b hF (hno (by rw [hnode, hE2]; rfl)).symm
      cbv
      cases ht : g .q .gtr (g .ln Va1) 0
      case true =>
        rw [goGtr hg, goLn hg, decide_eq_true_eq] at ht
        cbv
        exact fin0b hF (hno (by rw [hnode, hE2]; simpa using ht)).symm
      rw [goGtr hg, goLn hg, decide_eq_false_iff_not] at ht
      have hOKt : OK = true := by rw [hnode, hE2]; simpa using ht
      cbv
      rw [e1, hn]
      exact back hB (z + 1) [some 0] (wkS [0] (by decide) ⟨⟨_, rfl, rfl, rfl⟩, trivial⟩ ⟨rfl, rfl, rfl, rfl, trivial⟩) ⟨by omega, by omega, fun i y hi hy => h1' i y hi hy hOKt⟩ (by omega)
end Go.Proofs.YtenbloaopcfdlaaGreat
