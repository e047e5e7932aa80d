/- Boxes that are placed apart: the children, the law of their spaces. -/
import Derived.Test.YtdnnffbbhijmkaaGreatN6
import Derived.Test.YtdnnffbbhijmkaaGreatN7
import Derived.Test.YtdnnffbbhijmkaaGreatN9
namespace Go.Proofs.YtdnnffbbhijmkaaGreat
open Go.ChangeShapes Go.WideShapes Go.ChangeAt Go.RowKit Am
set_option linter.unusedVariables false
set_option linter.unusedSimpArgs false
set_option maxRecDepth 100000

/-- A node's cells, its slices under names. -/
def nodeL (x : NNode) (K R : List (List AC)) : List AC := .imm (.int .i64 x.up) :: .view K :: (lc (GStyle.c x.style) ++ [.imm (.bool x.measured), .view R])
theorem nodeL_eq (x : NNode) : x.ac = nodeL x (vw intC x.kids) (vw GRule.c x.table.rules) := rfl
def isAp (ns : List NNode) (k : Int) : Bool := match ns[(k - 1).toNat]? with | some y => !y.style.hidden && y.style.apart | none => false
def apK (ns : List NNode) (n : Int) : List Int := (kidsN ns n).filter (isAp ns)
def hasI (xs : List Int) (n : Int) : Bool := xs.any fun x => decide (x = n)
theorem take_filter {p : Int → Bool} {xs : List Int} {z : Int} {x : Int} (h0 : 0 ≤ z) (hx : xs[z.toNat]? = some x) : (xs.take (z + 1).toNat).filter p = (xs.take z.toNat).filter p ++ if p x then [x] else [] := by
  rw [show (z + 1).toNat = z.toNat + 1 by omega, List.take_add_one, hx, List.filter_append]
  simp only [Option.toList_some]
  cases h : p x <;> simp [h]
theorem vw_app (xs ys : List Int) : vw intC (xs ++ ys) = vw intC xs ++ vw intC ys := by simp [vw]
/-- A loop that begins with a box and a nil row. -/
theorem wkBN {T : Nat → AV} {h : AH} {l' : List (Nat × AV)} (e0 : AB) (t k : Nat) (h0 : h[0]? = some (.live e0)) (hp : plainE e0.es = true) (hk : rnK [some 0, none] [.live e0, .live ⟨t, k, []⟩] T l') : Wk 0 T h l' [.live e0, .live ⟨t, k, []⟩] [some 0, none] :=
  ⟨Nat.zero_le _, fun i hi => absurd hi (Nat.not_lt_zero _), by simp, by
    simp only [rnH, List.getElem?_cons_zero, List.getElem?_cons_succ, h0]
    exact ⟨fun h => absurd h (Nat.not_lt_zero _), ⟨trivial, trivial, .inl ⟨trivial, hp⟩⟩, fun h => absurd h (Nat.not_lt_zero _), rfl, trivial⟩, hk⟩
theorem impl_node_x (ns : List NNode) (n : Int) (x : NNode) (h1 : 1 ≤ n) (h2 : n ≤ 1048576) (hx : ns[(n - 1).toNat]? = some x) (V K R : List (List AC)) (hV : V = vwA NNode.ac ns) (hK : K = vw intC x.kids) (hR : R = vw GRule.c x.table.rules) : PCon Tryz.prog 121 [.agg [.view V], ai n] fun res rows => res = .t (.agg (nodeL x K R)) ∧ rows = [] := by
  subst hV hK hR
  rw [← nodeL_eq]
  obtain ⟨a0, a1, ⟨a2, a3, a4, a5, a6, a7, a8, a9, a10, a11, a12, ⟨a13, a14⟩, ⟨a15, a16⟩, ⟨a17, a18⟩, ⟨a19, a20⟩, ⟨a21, a22⟩, ⟨a23, a24⟩, ⟨a25, a26⟩, a27, ⟨⟨a28, a29⟩, ⟨a30, a31⟩, ⟨a32, a33⟩, ⟨a34, a35⟩, ⟨a36, a37⟩, ⟨a38, a39⟩⟩, ⟨⟨a40, a41⟩, ⟨a42, a43⟩, ⟨a44, a45⟩, ⟨a46, a47⟩, ⟨a48, a49⟩, ⟨a50, a51⟩⟩, ⟨a52, a53, a54, a55⟩, ⟨a56, a57, a58, a59⟩, a60, a61⟩, a62, ⟨a63⟩⟩ := x
  exact impl_node_a _ n h1 h2 (vwA_at hx)
theorem spec_l10Node_x (ns : List NNode) (n : Int) (x : NNode) (h1 : 1 ≤ n) (h2 : n ≤ 1048576) (hx : ns[(n - 1).toNat]? = some x) (V K R : List (List AC)) (hV : V = vwA NNode.ac ns) (hK : K = vw intC x.kids) (hR : R = vw GRule.c x.table.rules) : PCon Tryz.prog 107 [.agg [.view V], ai n] fun res rows => res = .t (.agg (nodeL x K R)) ∧ rows = [] := by
  subst hV hK hR
  rw [← nodeL_eq]
  obtain ⟨a0, a1, ⟨a2, a3, a4, a5, a6, a7, a8, a9, a10, a11, a12, ⟨a13, a14⟩, ⟨a15, a16⟩, ⟨a17, a18⟩, ⟨a19, a20⟩, ⟨a21, a22⟩, ⟨a23, a24⟩, ⟨a25, a26⟩, a27, ⟨⟨a28, a29⟩, ⟨a30, a31⟩, ⟨a32, a33⟩, ⟨a34, a35⟩, ⟨a36, a37⟩, ⟨a38, a39⟩⟩, ⟨⟨a40, a41⟩, ⟨a42, a43⟩, ⟨a44, a45⟩, ⟨a46, a47⟩, ⟨a48, a49⟩, ⟨a50, a51⟩⟩, ⟨a52, a53, a54, a55⟩, ⟨a56, a57, a58, a59⟩, a60, a61⟩, a62, ⟨a63⟩⟩ := x
  exact spec_l10Node_a _ n h1 h2 (vwA_at hx)
theorem impl_hasInt_a (xs : List Int) (n : Int) (hl : xs.length ≤ 1048576) : PCon Tryz.prog 69 [.c (.view (vw intC xs)), ai n] fun res rows => res = .t (abl (hasI xs n)) ∧ rows = [] := by
  obtain ⟨V, hV⟩ : ∃ V, V = vw intC xs := ⟨_, rfl⟩
  have hVl : V.length = xs.length := by rw [hV, vw_length]
  have iV : immE V = true := by rw [hV]; exact vw_imm _ _
  have kV : ∀ y ∈ V, y.length = 1 := by rw [hV]; exact vw_k (c := intC) (k := 1) fun _ => rfl
  have dV : ∀ y ∈ V, y.all dat = true := by rw [hV]; exact vw_dat
  have hVx : lenI V = (xs.length : Int) := by rw [lenI_eq]; omega
  have hV0 : 0 ≤ lenI V := by omega
  have hV1 : lenI V ≤ 1048576 := by omega
  have hno : ∀ z : Int, lenI V ≤ z → (∀ (i : Nat) (x : Int), i < z.toNat → xs[i]? = some x → x ≠ n) → hasI xs n = false := fun z hz h => by
    unfold hasI
    rw [List.any_eq_false]
    intro x hx
    obtain ⟨i, hi⟩ := List.mem_iff_getElem?.1 hx
    have := h i x (by have := (List.getElem?_eq_some_iff.1 hi).1; omega) hi
    simpa using this
  have hyes : ∀ (i : Nat), xs[i]? = some n → hasI xs n = true := fun i hi => by
    unfold hasI
    rw [List.any_eq_true]
    exact ⟨n, List.mem_of_getElem? hi, by simp⟩
  rw [← hV]
  refine pcon_run (c := body Tryz.f69) fits Tryz.func69 (by kernel_rfl) (by kernel_rfl) (by rfl) (by kernel_rfl) fun g F hg hF => ?_
  cbv
  refine loop_run hg fits (by kernel_rfl) (fun z : Int => [(1, .t (ai n)), (7, .t (.c (.view V))), (8, .t (ai (g .ln V))), (9, .t (ai z))]) (fun _ => []) (fun z => 0 ≤ z ∧ z ≤ lenI V ∧ ∀ (i : Nat) (x : Int), i < z.toNat → xs[i]? = some x → x ≠ n) (fun z => (lenI V).toNat - z.toNat)
    0 [] ⟨Int.le_refl 0, hV0, fun i x hi => by simp at hi⟩ (wk0 ⟨rfl, rfl, rfl, rfl, trivial⟩) (fun z B hs hB => ?_)
  obtain ⟨h0, h1, h2⟩ := hs
  cbv
  cases hc : g .q .lss z (g .ln V)
  · rw [goLss hg, goLn hg, decide_eq_false_iff_not] at hc
    cbv
    exact fin0b hF (hno z (by omega) h2).symm
  · rw [goLss hg, goLn hg, decide_eq_true_eq] at hc
    cbv
    obtain ⟨x, hx⟩ := at_z (xs := xs) h0 (lt_viaN hVx hc)
    have hyy : V[z.toNat]? = some (lc (intC x)) := by rw [hV]; exact vw_at hx
    refine goX hg _ h0 hyy rfl ?_
    cbv
    have e1 : g .w .add .i64 z 1 = z + 1 := by rw [goAdd hg, wrap_small _ (by omega)]
    cases he : g .q .eql x n
    · have he' : x ≠ n := by rw [goEql hg] at he; simpa using he
      cbv
      rw [e1]
      refine back hB (z + 1) [] (wk0 ⟨rfl, rfl, rfl, rfl, trivial⟩) ⟨by omega, by omega, fun i y hi hy => ?_⟩ (by omega)
      by_cases hi2 : i < z.toNat
      · exact h2 i y hi2 hy
      · obtain rfl : i = z.toNat := by omega
        rw [hx] at hy
        cases hy
        exact he'
    · have he' : x = n := by rw [goEql hg] at he; simpa using he
      cbv
      exact fin0b hF (hyes z.toNat (by rw [← he']; exact hx)).symm
set_option maxHeartbeats 8000000 in
theorem impl_apartKids_a (ns : List NNode) (n : Int) (x : NNode) (hl : ns.length ≤ 1048576) (h1 : 1 ≤ n) (h2 : n ≤ 1048576) (hx : ns[(n - 1).toNat]? = some x) (hkl : x.kids.length ≤ 1048576) (hk : ∀ k ∈ x.kids, isN ns k = true) : PCon Tryz.prog 87 [.agg [.view (vwA NNode.ac ns)], ai n] fun res rows => res = .t (.c (.own 0)) ∧ rows = [⟨3, 1, vw intC (x.kids.filter (isAp ns))⟩] := by
  obtain ⟨V, hV⟩ : ∃ V, V = vwA NNode.ac ns := ⟨_, rfl⟩
  obtain ⟨K, hK⟩ : ∃ K, K = vw intC x.kids := ⟨_, rfl⟩
  obtain ⟨Rt, hRt⟩ : ∃ R, R = vw GRule.c x.table.rules := ⟨_, rfl⟩
  obtain ⟨G, hG⟩ : ∃ G, G = vw intC (x.kids.filter (isAp ns)) := ⟨_, rfl⟩
  have pG : plainE G = true := by rw [hG]; exact vw_plain _ _
  have hKx : lenI K = (x.kids.length : Int) := by rw [lenI_eq, hK, vw_length]
  have hK0 : 0 ≤ lenI K := by omega
  have hK1 : lenI K ≤ 1048576 := by omega
  have hdone : ∀ z : Int, lenI K ≤ z → vw intC ((x.kids.take z.toNat).filter (isAp ns)) = G := fun z hz => by rw [List.take_of_length_le (by omega), hG]
  have hlen : ∀ z : Int, (vw intC ((x.kids.take z.toNat).filter (isAp ns))).length ≤ 1048576 := fun z => by
    rw [vw_length]
    have := List.length_filter_le (isAp ns) (x.kids.take z.toNat)
    simp only [List.length_take] at this
    omega
  have hstep : ∀ (z : Int) (k : Int), 0 ≤ z → x.kids[z.toNat]? = some k → vw intC ((x.kids.take (z + 1).toNat).filter (isAp ns)) = vw intC ((x.kids.take z.toNat).filter (isAp ns)) ++ (if isAp ns k then [[.imm (.int .i64 k)]] else []) := fun z k h0 hz => by
    rw [take_filter h0 hz, vw_app]
    congr 1
    cases isAp ns k <;> rfl
  have cn := impl_node_x ns n x h1 h2 hx V K Rt hV hK hRt
  rw [← hV, ← hG]
  refine pcon_run (c := body Tryz.f87) fits Tryz.func87 (by kernel_rfl) (by kernel_rfl) (by rfl) (by kernel_rfl) fun g F hg hF => ?_
  cbv
  (first | refine call0 hg cn rfl rfl ?_ | refine call0P hg cn rfl rfl ?_)
  cbv
  refine loop_run hg fits (by kernel_rfl) (fun t : Int × List (List AC) => [(2, .t (.c (.ptr 0 0 0))), (5, .t (.c (.own 1))), (12, .t (.c (.view K))), (13, .t (ai (g .ln K))), (14, .t (ai t.1))]) (fun t => [.bx 32 1 [.view V], .rw ⟨3, 1, t.2⟩]) (fun t => 0 ≤ t.1 ∧ t.1 ≤ lenI K ∧ t.2 = vw intC ((x.kids.take t.1.toNat).filter (isAp ns))) (fun t => (lenI K).toNat - t.1.toNat)
    (0, []) [some 0, none] ⟨Int.le_refl 0, hK0, rfl⟩ (wkBN _ _ _ rfl rfl ⟨rfl, rfl, rfl, rfl, rfl, trivial⟩) (fun t B hs hB => ?_)
  obtain ⟨z, es⟩ := t
  obtain ⟨h0, h1', h2'⟩ := hs
  simp only at h0 h1' h2'
  have hle := hlen z
  rw [← h2'] at hle
  have pE : plainE es = true := by rw [h2']; exact vw_plain _ _
  cbv
  cases hc : g .q .lss z (g .ln K)
  · rw [goLss hg, goLn hg, decide_eq_false_iff_not] at hc
    cbv
    obtain rfl : es = G := by rw [h2', hdone z (by omega)]
    exact finRow hF rfl pG
  rw [goLss hg, goLn hg, decide_eq_true_eq] at hc
  cbv
  obtain ⟨k, hkk⟩ := at_z (xs := x.kids) h0 (lt_viaN hKx hc)
  have hyy : K[z.toNat]? = some (lc (intC k)) := by rw [hK]; exact vw_at hkk
  have hin := hk k (List.mem_of_getElem? hkk)
  obtain ⟨k1, k2, y, hy⟩ := isN_at hin
  have hst := hstep z k h0 hkk
  have hap : isAp ns k = (!y.style.hidden && y.style.apart) := by unfold isAp; rw [hy]
  rw [← h2', hap] at hst
  clear hap
  obtain ⟨Ky, hKy⟩ : ∃ K, K = vw intC y.kids := ⟨_, rfl⟩
  obtain ⟨Ry, hRy⟩ : ∃ R, R = vw GRule.c y.table.rules := ⟨_, rfl⟩
  have cy := impl_node_x ns k y k1 (by omega) hy V Ky Ry hV hKy hRy
  have e1 : g .w .add .i64 z 1 = z + 1 := by rw [goAdd hg, wrap_small _ (by omega)]
  obtain ⟨c0, c1, ⟨c2, c3, c4, c5, c6, c7, c8, c9, c10, c11, c12, ⟨c13, c14⟩, ⟨c15, c16⟩, ⟨c17, c18⟩, ⟨c19, c20⟩, ⟨c21, c22⟩, ⟨c23, c24⟩, ⟨c25, c26⟩, c27, ⟨⟨c28, c29⟩, ⟨c30, c31⟩, ⟨c32, c33⟩, ⟨c34, c35⟩, ⟨c36, c37⟩, ⟨c38, c39⟩⟩, ⟨⟨c40, c41⟩, ⟨c42, c43⟩, ⟨c44, c45⟩, ⟨c46, c47⟩, ⟨c48, c49⟩, ⟨c50, c51⟩⟩, ⟨c52, c53, c54, c55⟩, ⟨c56, c57, c58, c59⟩, c60, c61⟩, c62, ⟨c63⟩⟩ := y
  replace hst : vw intC ((x.kids.take (z + 1).toNat).filter (isAp ns)) = es ++ (if (!c9 && c8) = true then [[.imm (.int .i64 k)]] else []) := hst
  refine goX hg _ h0 hyy rfl ?_
  cbv
  (first | refine call0 hg cy rfl rfl ?_ | refine call0P hg cy rfl rfl ?_)
  cbv
  cases c9 <;> cases c8 <;> cbv
  case false.true =>
    refine goNA1 hg rfl (by decide) (by omega) ?_
    cbv
    rw [e1, goAp hg]
    refine back hB (z + 1, _) [some 0, some 4] (wkS [0, 4] (by decide) ⟨⟨_, rfl, rfl, rfl⟩, ⟨_, rfl, rfl, ?_⟩, trivial⟩ ⟨rfl, rfl, rfl, rfl, rfl, trivial⟩) ⟨by simp only; omega, by simp only; omega, hst.symm⟩ (by show (lenI K).toNat - (z + 1).toNat < (lenI K).toNat - z.toNat; omega)
    have : plainE (vw intC ((x.kids.take (z + 1).toNat).filter (isAp ns))) = true := vw_plain _ _
    rw [hst] at this
    exact this
  all_goals (
    rw [e1]
    refine back hB (z + 1, es) [some 0, some 1] (wkS [0, 1] (by decide) ⟨⟨_, rfl, rfl, rfl⟩, ⟨_, rfl, rfl, pE⟩, trivial⟩ ⟨rfl, rfl, rfl, rfl, rfl, trivial⟩) ⟨by simp only; omega, by simp only; omega, ?_⟩ (by show (lenI K).toNat - (z + 1).toNat < (lenI K).toNat - z.toNat; omega)
    show es = _
    rw [hst]
    simp)
set_option maxHeartbeats 8000000 in
theorem spec_ApartKids_a (ns : List NNode) (n : Int) (x : NNode) (hs : ∀ y ∈ ns, NNode.small y) (ht : treeB ns = true) (hl : ns.length ≤ 1048576) (h1 : 1 ≤ n) (h2 : n ≤ (ns.length : Int)) (hx : ns[(n - 1).toNat]? = some x) (hkl : x.kids.length ≤ 1048576) (hk : ∀ k ∈ x.kids, isN ns k = true) : PCon Tryz.prog 85 [.agg [.view (vwA NNode.ac ns)], ai n] fun res rows => res = .t (.c (.own 0)) ∧ rows = [⟨3, 1, vw intC (x.kids.filter (isAp ns))⟩] := by
  have cT := spec_TreeOk_a ns hl hs
  rw [ht] at cT
  obtain ⟨V, hV⟩ : ∃ V, V = vwA NNode.ac ns := ⟨_, rfl⟩
  have hVx : lenI V = (ns.length : Int) := by rw [lenI_eq, hV, vwA_length]
  have cI := spec_l10Is_a V n
  rw [show rng n 1 (lenI V) = true by simp only [rng, Bool.and_eq_true, decide_eq_true_eq]; omega] at cI
  obtain ⟨K, hK⟩ : ∃ K, K = vw intC x.kids := ⟨_, rfl⟩
  obtain ⟨Rt, hRt⟩ : ∃ R, R = vw GRule.c x.table.rules := ⟨_, rfl⟩
  obtain ⟨G, hG⟩ : ∃ G, G = vw intC (x.kids.filter (isAp ns)) := ⟨_, rfl⟩
  have pG : plainE G = true := by rw [hG]; exact vw_plain _ _
  have hKx : lenI K = (x.kids.length : Int) := by rw [lenI_eq, hK, vw_length]
  have hK0 : 0 ≤ lenI K := by omega
  have hK1 : lenI K ≤ 1048576 := by omega
  have hdone : ∀ z : Int, lenI K ≤ z → vw intC ((x.kids.take z.toNat).filter (isAp ns)) = G := fun z hz => by rw [List.take_of_length_le (by omega), hG]
  have hlen : ∀ z : Int, (vw intC ((x.kids.take z.toNat).filter (isAp ns))).length ≤ 1048576 := fun z => by
    rw [vw_length]
    have := List.length_filter_le (isAp ns) (x.kids.take z.toNat)
    simp only [List.length_take] at this
    omega
  have hstep : ∀ (z : Int) (k : Int), 0 ≤ z → x.kids[z.toNat]? = some k → vw intC ((x.kids.take (z + 1).toNat).filter (isAp ns)) = vw intC ((x.kids.take z.toNat).filter (isAp ns)) ++ (if isAp ns k then [[.imm (.int .i64 k)]] else []) := fun z k h0 hz => by
    rw [take_filter h0 hz, vw_app]
    congr 1
    cases isAp ns k <;> rfl
  have cn := spec_l10Node_x ns n x h1 (by omega) hx V K Rt hV hK hRt
  rw [← hV] at cT
  rw [← hV, ← hG]
  refine pcon_run (c := body Tryz.f85) fits Tryz.func85 (by kernel_rfl) (by kernel_rfl) (by rfl) (by kernel_rfl) fun g F hg hF => ?_
  cbv
  (first | refine call0 hg cT rfl rfl ?_ | refine call0P hg cT rfl rfl ?_)
  cbv
  (first | refine call0 hg cI rfl rfl ?_ | refine call0P hg cI rfl rfl ?_)
  cbv
  (first | refine call0 hg cn rfl rfl ?_ | refine call0P hg cn rfl rfl ?_)
  cbv
  refine loop_run hg fits (by kernel_rfl) (fun t : Int × List (List AC) => [(2, .t (.c (.ptr 0 0 0))), (5, .t (.c (.own 1))), (6, .t (.c (.view K))), (7, .t (ai t.1))]) (fun t => [.bx 32 1 [.view V], .rw ⟨3, 1, t.2⟩]) (fun t => 0 ≤ t.1 ∧ t.1 ≤ lenI K ∧ t.2 = vw intC ((x.kids.take t.1.toNat).filter (isAp ns))) (fun t => (lenI K).toNat - t.1.toNat)
    (0, []) [some 0, some 1] ⟨Int.le_refl 0, hK0, rfl⟩ (wkS [0, 1] (by decide) ⟨⟨_, rfl, rfl, rfl⟩, ⟨_, rfl, rfl, rfl⟩, trivial⟩ ⟨rfl, rfl, rfl, rfl, trivial⟩) (fun t B hs hB => ?_)
  obtain ⟨z, es⟩ := t
  obtain ⟨h0, h1', h2'⟩ := hs
  simp only at h0 h1' h2'
  have hle := hlen z
  rw [← h2'] at hle
  have pE : plainE es = true := by rw [h2']; exact vw_plain _ _
  cbv
  cases hc : g .q .lss z (g .ln K)
  · rw [goLss hg, goLn hg, decide_eq_false_iff_not] at hc
    cbv
    obtain rfl : es = G := by rw [h2', hdone z (by omega)]
    exact finRow hF rfl pG
  rw [goLss hg, goLn hg, decide_eq_true_eq] at hc
  cbv
  obtain ⟨k, hkk⟩ := at_z (xs := x.kids) h0 (lt_viaN hKx hc)
  have hyy : K[z.toNat]? = some (lc (intC k)) := by rw [hK]; exact vw_at hkk
  have hin := hk k (List.mem_of_getElem? hkk)
  obtain ⟨k1, k2, y, hy⟩ := isN_at hin
  have hst := hstep z k h0 hkk
  have hap : isAp ns k = (!y.style.hidden && y.style.apart) := by unfold isAp; rw [hy]
  rw [← h2', hap] at hst
  clear hap
  obtain ⟨Ky, hKy⟩ : ∃ K, K = vw intC y.kids := ⟨_, rfl⟩
  obtain ⟨Ry, hRy⟩ : ∃ R, R = vw GRule.c y.table.rules := ⟨_, rfl⟩
  have cy := spec_l10Node_x ns k y k1 (by omega) hy V Ky Ry hV hKy hRy
  have e1 : g .w .add .i64 z 1 = z + 1 := by rw [goAdd hg, wrap_small _ (by omega)]
  obtain ⟨c0, c1, ⟨c2, c3, c4, c5, c6, c7, c8, c9, c10, c11, c12, ⟨c13, c14⟩, ⟨c15, c16⟩, ⟨c17, c18⟩, ⟨c19, c20⟩, ⟨c21, c22⟩, ⟨c23, c24⟩, ⟨c25, c26⟩, c27, ⟨⟨c28, c29⟩, ⟨c30, c31⟩, ⟨c32, c33⟩, ⟨c34, c35⟩, ⟨c36, c37⟩, ⟨c38, c39⟩⟩, ⟨⟨c40, c41⟩, ⟨c42, c43⟩, ⟨c44, c45⟩, ⟨c46, c47⟩, ⟨c48, c49⟩, ⟨c50, c51⟩⟩, ⟨c52, c53, c54, c55⟩, ⟨c56, c57, c58, c59⟩, c60, c61⟩, c62, ⟨c63⟩⟩ := y
  replace hst : vw intC ((x.kids.take (z + 1).toNat).filter (isAp ns)) = es ++ (if (!c9 && c8) = true then [[.imm (.int .i64 k)]] else []) := hst
  refine goX hg _ h0 hyy rfl ?_
  cbv
  (first | refine call0 hg cy rfl rfl ?_ | refine call0P hg cy rfl rfl ?_)
  cbv
  cases c9 <;> cases c8 <;> cbv
  case false.true =>
    refine goX hg _ h0 hyy rfl ?_
    cbv
    refine goNA1 hg rfl (by decide) (by omega) ?_
    cbv
    rw [e1, goAp hg]
    refine back hB (z + 1, _) [some 0, some 4] (wkS [0, 4] (by decide) ⟨⟨_, rfl, rfl, rfl⟩, ⟨_, rfl, rfl, ?_⟩, trivial⟩ ⟨rfl, rfl, rfl, rfl, trivial⟩) ⟨by simp only; omega, by simp only; omega, hst.symm⟩ (by show (lenI K).toNat - (z + 1).toNat < (lenI K).toNat - z.toNat; omega)
    have : plainE (vw intC ((x.kids.take (z + 1).toNat).filter (isAp ns))) = true := vw_plain _ _
    rw [hst] at this
    exact this
  all_goals (
    rw [e1]
    refine back hB (z + 1, es) [some 0, some 1] (wkS [0, 1] (by decide) ⟨⟨_, rfl, rfl, rfl⟩, ⟨_, rfl, rfl, pE⟩, trivial⟩ ⟨rfl, rfl, rfl, rfl, trivial⟩) ⟨by simp only; omega, by simp only; omega, ?_⟩ (by show (lenI K).toNat - (z + 1).toNat < (lenI K).toNat - z.toNat; omega)
    show es = _
    rw [hst]
    simp)

def asOk (ns : List NNode) (n kid wide high : Int) : Bool := treeB ns && (rng n 1 (ns.length : Int) && (hasI (apK ns n) kid && (rng wide 0 1048576 && rng high 0 1048576)))
def asX (ns : List NNode) (n kid wide high : Int) (rtl : Bool) : GSpace := if asOk ns n kid wide high then (match ns[(n - 1).toNat]?, ns[(kid - 1).toNat]? with | some x, some y => apX y.style rtl (padW x.style wide) (padH x.style high) | _, _ => ⟨0, 0⟩) else ⟨0, 0⟩
def asY (ns : List NNode) (n kid wide high : Int) (rtl : Bool) : GSpace := if asOk ns n kid wide high then (match ns[(n - 1).toNat]?, ns[(kid - 1).toNat]? with | some x, some y => apY y.style rtl (padW x.style wide) (padH x.style high) | _, _ => ⟨0, 0⟩) else ⟨0, 0⟩
theorem asX_no {ns : List NNode} {n kid wide high : Int} {rtl : Bool} (h : asOk ns n kid wide high = false) : asX ns n kid wide high rtl = ⟨0, 0⟩ := by simp [asX, h]
theorem asY_no {ns : List NNode} {n kid wide high : Int} {rtl : Bool} (h : asOk ns n kid wide high = false) : asY ns n kid wide high rtl = ⟨0, 0⟩ := by simp [asY, h]
theorem asX_yes {ns : List NNode} {n kid wide high : Int} {rtl : Bool} {x y : NNode} (h : asOk ns n kid wide high = true) (hx : ns[(n - 1).toNat]? = some x) (hy : ns[(kid - 1).toNat]? = some y) : asX ns n kid wide high rtl = apX y.style rtl (padW x.style wide) (padH x.style high) := by unfold asX; rw [if_pos h, hx, hy]
theorem asY_yes {ns : List NNode} {n kid wide high : Int} {rtl : Bool} {x y : NNode} (h : asOk ns n kid wide high = true) (hx : ns[(n - 1).toNat]? = some x) (hy : ns[(kid - 1).toNat]? = some y) : asY ns n kid wide high rtl = apY y.style rtl (padW x.style wide) (padH x.style high) := by unfold asY; rw [if_pos h, hx, hy]
theorem tree_kids {ns : List NNode} (h : treeB ns = true) {n : Int} {x : NNode} (h1 : 1 ≤ n) (hx : ns[(n - 1).toNat]? = some x) : ∀ k ∈ x.kids, isN ns k = true := fun k hk => by
  simp only [treeB, Bool.and_eq_true] at h
  have := (goT_iff ns ns 0).1 h.2 _ x hx
  simp only [nodeOk, Bool.and_eq_true, List.all_eq_true, kidOk] at this
  exact (this.2.2.2.1 k hk).1
theorem small_kids (x : NNode) (h : x.small) : x.kids.length ≤ 1048576 := by
  obtain ⟨a0, a1, ⟨a2, a3, a4, a5, a6, a7, a8, a9, a10, a11, a12, ⟨a13, a14⟩, ⟨a15, a16⟩, ⟨a17, a18⟩, ⟨a19, a20⟩, ⟨a21, a22⟩, ⟨a23, a24⟩, ⟨a25, a26⟩, a27, ⟨⟨a28, a29⟩, ⟨a30, a31⟩, ⟨a32, a33⟩, ⟨a34, a35⟩, ⟨a36, a37⟩, ⟨a38, a39⟩⟩, ⟨⟨a40, a41⟩, ⟨a42, a43⟩, ⟨a44, a45⟩, ⟨a46, a47⟩, ⟨a48, a49⟩, ⟨a50, a51⟩⟩, ⟨a52, a53, a54, a55⟩, ⟨a56, a57, a58, a59⟩, a60, a61⟩, a62, ⟨a63⟩⟩ := x
  exact h.1
theorem ap_kid {ns : List NNode} {n kid : Int} {x : NNode} (hx : ns[(n - 1).toNat]? = some x) (h : hasI (apK ns n) kid = true) : kid ∈ x.kids := by
  simp only [hasI, apK, kidsN, hx, List.any_eq_true, List.mem_filter, decide_eq_true_eq] at h
  obtain ⟨k, ⟨h1, _⟩, rfl⟩ := h
  exact h1
theorem cnt_has (xs : List Int) (n : Int) : decide (cnt xs n = 0) = !hasI xs n := by
  have key : ∀ xs : List Int, 0 ≤ cnt xs n ∧ (cnt xs n = 0 ↔ hasI xs n = false) := fun xs => by
    induction xs with
    | nil => simp [cnt, hasI]
    | cons x xs ih =>
      have e : cnt (x :: xs) n = (if x = n then 1 else 0) + cnt xs n := by simp [cnt]
      have f : hasI (x :: xs) n = (decide (x = n) || hasI xs n) := by simp [hasI]
      rw [e, f]
      obtain ⟨i1, i2⟩ := ih
      by_cases hx : x = n
      · rw [if_pos hx]
        simp only [hx, decide_true, Bool.true_or]
        exact ⟨by omega, by constructor <;> intro h <;> first | omega | cases h⟩
      · rw [if_neg hx]
        simp only [hx, decide_false, Bool.false_or]
        exact ⟨by omega, by rw [← i2]; constructor <;> intro h <;> omega⟩
  have := (key xs).2
  cases hh : hasI xs n
  · simp [this.2 hh]
  · have hne : cnt xs n ≠ 0 := fun h0 => by rw [this.1 h0] at hh; cases hh
    simp [hne]
set_option maxHeartbeats 8000000 in
theorem layer_apartOf_a (ns : List NNode) (n kid : Int) (x y : NNode) (hl : ns.length ≤ 1048576) (h1 : isN ns n = true) (h2 : isN ns kid = true) (hx : ns[(n - 1).toNat]? = some x) (hy : ns[(kid - 1).toNat]? = some y) (rtl : Bool) (wide high : Int) : PCon Tryz.prog 164 [.agg [.view (vwA NNode.ac ns), .imm (.bool rtl), .imm (.pointer none)], ai n, ai kid, ai wide, ai high] fun res rows => res = .t (.agg (apC x.style y.style rtl (padW x.style wide) (padH x.style high))) ∧ rows = [] := by
  obtain ⟨V, hV⟩ : ∃ V, V = vwA NNode.ac ns := ⟨_, rfl⟩
  obtain ⟨K, hK⟩ : ∃ K, K = vw intC x.kids := ⟨_, rfl⟩
  obtain ⟨Rt, hRt⟩ : ∃ R, R = vw GRule.c x.table.rules := ⟨_, rfl⟩
  obtain ⟨Ky, hKy⟩ : ∃ K, K = vw intC y.kids := ⟨_, rfl⟩
  obtain ⟨Ry, hRy⟩ : ∃ R, R = vw GRule.c y.table.rules := ⟨_, rfl⟩
  have b1 := isN_at h1
  have b2 := isN_at h2
  have cn := impl_node_x ns n x b1.1 (by have := b1.2.1; omega) hx V K Rt hV hK hRt
  have cy := impl_node_x ns kid y b2.1 (by have := b2.2.1; omega) hy V Ky Ry hV hKy hRy
  have cp := impl_PadBox_a x.style wide high
  obtain ⟨W, hW⟩ : ∃ W, W = padW x.style wide := ⟨_, rfl⟩
  obtain ⟨H, hH⟩ : ∃ H, H = padH x.style high := ⟨_, rfl⟩
  rw [← hW, ← hH] at cp
  rw [← hV, ← hW, ← hH]
  refine pcon_run (c := body Tryz.f164) fits Tryz.func164 (by kernel_rfl) (by kernel_rfl) (by rfl) (by kernel_rfl) fun g F hg hF => ?_
  cbv
  repeat' (first | (refine call0 hg cn rfl rfl ?_; cbv) | (refine call0P hg cn rfl rfl ?_; cbv) | (refine call0 hg cy rfl rfl ?_; cbv) | (refine call0P hg cy rfl rfl ?_; cbv) | (refine call0 hg cp rfl rfl ?_; cbv) | (refine call0P hg cp rfl rfl ?_; cbv))
  refine fin0 hF ?_ ?_
  · rfl
  · exact ⟨rfl, rfl⟩
set_option maxHeartbeats 4000000 in
theorem spec_l19Ok_a (ns : List NNode) (hl : ns.length ≤ 1048576) (hs : ∀ y ∈ ns, NNode.small y) (n wide high : Int) : PCon Tryz.prog 84 [.agg [.view (vwA NNode.ac ns)], ai n, ai wide, ai high] fun res rows => res = .t (abl (treeB ns && (rng n 1 (ns.length : Int) && (rng wide 0 1048576 && rng high 0 1048576)))) ∧ rows = [] := by
  have cT := spec_TreeOk_a ns hl hs
  obtain ⟨V, hV⟩ : ∃ V, V = vwA NNode.ac ns := ⟨_, rfl⟩
  have hVx : lenI V = (ns.length : Int) := by rw [lenI_eq, hV, vwA_length]
  have cI := spec_l10Is_a V n
  have cw := spec_l01In_r wide 0 1048576
  have ch := spec_l01In_r high 0 1048576
  rw [← hV] at cT ⊢
  rw [← hVx]
  clear hVx hV hs hl
  obtain ⟨T, hT⟩ : ∃ T, T = treeB ns := ⟨_, rfl⟩
  obtain ⟨I, hI⟩ : ∃ T, T = rng n 1 (lenI V) := ⟨_, rfl⟩
  obtain ⟨W, hW⟩ : ∃ T, T = rng wide 0 1048576 := ⟨_, rfl⟩
  obtain ⟨H, hH⟩ : ∃ T, T = rng high 0 1048576 := ⟨_, rfl⟩
  rw [← hT] at cT
  rw [← hI] at cI
  rw [← hW] at cw
  rw [← hH] at ch
  rw [← hT, ← hI, ← hW, ← hH]
  clear hT hI hW hH
  cases T <;> cases I <;> cases W <;> cases H <;> (
    refine pcon_run (c := body Tryz.f84) fits Tryz.func84 (by kernel_rfl) (by kernel_rfl) (by rfl) (by kernel_rfl) fun g F hg hF => ?_
    cbv
    (repeat' (first | (refine call0 hg cT rfl rfl ?_; cbv) | (refine call0 hg cI rfl rfl ?_; cbv) | (refine call0 hg cw rfl rfl ?_; cbv) | (refine call0 hg ch rfl rfl ?_; cbv)))
    exact fin0b hF rfl)

end Go.Proofs.YtdnnffbbhijmkaaGreat
