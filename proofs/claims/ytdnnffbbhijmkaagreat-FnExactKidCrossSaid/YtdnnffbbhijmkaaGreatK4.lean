/- The reference's children in the flow. -/
import Derived.Test.YtdnnffbbhijmkaaGreatK3
namespace Go.Proofs.YtdnnffbbhijmkaaGreat
open Go.Shelf Go.RowKit Go.Lib Go.Sort Am
set_option linter.unusedVariables false
set_option linter.unusedSimpArgs false
set_option maxRecDepth 100000
set_option maxHeartbeats 8000000 in
theorem spec_FlowKids_a (ns : List NNode) (n : Int) (nd : NNode) (hs : ∀ y ∈ ns, NNode.small y) (ht : treeB ns = true) (hl : ns.length ≤ 1048576) (h1 : 1 ≤ n) (h2 : n ≤ (ns.length : Int)) (hx : ns[(n - 1).toNat]? = some nd) (hkl : nd.kids.length ≤ 1048576) (hk : ∀ k ∈ nd.kids, isN ns k = true) : PCon Tryz.prog 64 [.agg [.view (vwA NNode.ac ns)], ai n] fun res rows => res = .t (.c (.own 0)) ∧ rows = [⟨3, 1, vw intC (sortF (ordN ns) (nd.kids.filter (isFl ns)))⟩] := by
  have cT := spec_TreeOk_a ns hl hs
  rw [ht] at cT
  obtain ⟨V, hV⟩ : ∃ V, V = vwA NNode.ac ns := ⟨_, rfl⟩
  have hVx : lenI V = (ns.length : Int) := by rw [lenI_eq, hV, vwA_length]
  have cI := spec_l10Is_a V n
  rw [show rng n 1 (lenI V) = true by simp only [rng, Bool.and_eq_true, decide_eq_true_eq]; omega] at cI
  obtain ⟨K, hK⟩ : ∃ K, K = vw intC nd.kids := ⟨_, rfl⟩
  obtain ⟨Rt, hRt⟩ : ∃ R, R = vw GRule.c nd.table.rules := ⟨_, rfl⟩
  obtain ⟨G, hG⟩ : ∃ G, G = vw intC (sortF (ordN ns) (nd.kids.filter (isFl ns))) := ⟨_, rfl⟩
  have pG : plainE G = true := by rw [hG]; exact vw_plain _ _
  have hKx : lenI K = (nd.kids.length : Int) := by rw [lenI_eq, hK, vw_length]
  have hK0 : 0 ≤ lenI K := by omega
  have hK1 : lenI K ≤ 1048576 := by omega
  have cn := spec_l10Node_x ns n nd h1 (by omega) hx V K Rt hV hK hRt
  rw [← hV] at cT
  rw [← hV, ← hG]
  refine pcon_run4 ([(13, .app 10 4 2)]) ([]) (c := body Tryz.f64) fits Tryz.func64 (by kernel_rfl) (by kernel_rfl) (by rfl) (by kernel_rfl) fun g eff hd F heff hhd hg hF => ?_
  cbv
  (first | refine call0 hg cT rfl rfl ?_ | refine call0P hg cT rfl rfl ?_)
  cbv
  (first | refine call0 hg cI rfl rfl ?_ | refine call0P hg cI rfl rfl ?_)
  cbv
  (first | refine call0 hg cn rfl rfl ?_ | refine call0P hg cn rfl rfl ?_)
  cbv
  refine loop_go4 ([(13, .app 10 4 2)]) ([]) heff hhd hg fits (by kernel_rfl) K (fun x => lc (intC x)) nd.kids hK hkl (fun z (s : List (List AC) × List Int) => [(2, .t (.c (.ptr 0 0 0))), (5, .t (.c (.own 1))), (6, .t (.c (.view K))), (7, .t (ai (z)))]) (fun z (s : List (List AC) × List Int) => [.bx 32 1 [.view V], .rw ⟨3, 1, s.1⟩]) (fun z (s : List (List AC) × List Int) => s.1 = vw intC s.2 ∧ (s.2.length : Int) ≤ z ∧ ∀ k ∈ s.2, isN ns k = true) (fun (s : List (List AC) × List Int) rest => (rest.filter (isFl ns)).foldl (fun a k => (insW (ordN ns) k a.reverse).reverse) s.2) (sortF (ordN ns) (nd.kids.filter (isFl ns))) ([], []) (by simp only; exact sort_foldl _ _) ⟨rfl, by simp, by simp⟩ (Wk.weak (wkG [some 0, some 1] ⟨rfl, rfl, rfl, rfl, trivial⟩ ⟨⟨_, _, rfl, rfl, rfl, rfl, .inl ⟨rfl, rfl⟩⟩, ⟨_, _, rfl, rfl, rfl, rfl, .inl ⟨rfl, rfl⟩⟩, trivial⟩ (by decide) no_lt)) (fun z s B hz h0 hi he => ?_) (fun z s x rest B z0 z1 z2 hx hy h0 hi hc e1 hB => ?_)
  · obtain ⟨es, ks⟩ := s
    obtain ⟨k1, k2, k3⟩ := hi
    dsimp only at k1 k2 h0
    simp only [List.filter_nil, List.foldl_nil] at h0
    rw [h0, ← hG] at k1
    subst k1
    cbv; rw [he]; cbv
    exact finRow hF rfl pG
  obtain ⟨es, ks⟩ := s
  obtain ⟨k1, k2, k3⟩ := hi
  dsimp only at k1 k2 k3 h0
  have hin := hk x (List.mem_of_getElem? hx)
  obtain ⟨q1, q2, y, hyn⟩ := isN_at hin
  have hap : isFl ns x = (!y.style.hidden && !y.style.apart) := by unfold isFl; rw [hyn]
  have hor : ordN ns x = y.style.order := by unfold ordN; rw [hyn]
  rw [List.filter_cons, hap] at h0
  clear hap
  have pE : plainE es = true := by rw [k1]; exact vw_plain _ _
  have hle : es.length ≤ 1048576 := by rw [k1, vw_length]; omega
  obtain ⟨Ky, hKy⟩ : ∃ K, K = vw intC y.kids := ⟨_, rfl⟩
  obtain ⟨Ry, hRy⟩ : ∃ R, R = vw GRule.c y.table.rules := ⟨_, rfl⟩
  have cy := spec_l10Node_x ns x y q1 (by omega) hyn V Ky Ry hV hKy hRy
  obtain ⟨c0, c1, ⟨c2, c3, c4, c5, c6, c7, c8, c9, c10, c11, c12, ⟨c13, c14⟩, ⟨c15, c16⟩, ⟨c17, c18⟩, ⟨c19, c20⟩, ⟨c21, c22⟩, ⟨c23, c24⟩, ⟨c25, c26⟩, c27, ⟨⟨c28, c29⟩, ⟨c30, c31⟩, ⟨c32, c33⟩, ⟨c34, c35⟩, ⟨c36, c37⟩, ⟨c38, c39⟩⟩, ⟨⟨c40, c41⟩, ⟨c42, c43⟩, ⟨c44, c45⟩, ⟨c46, c47⟩, ⟨c48, c49⟩, ⟨c50, c51⟩⟩, ⟨c52, c53, c54, c55⟩, ⟨c56, c57, c58, c59⟩, c60, c61⟩, c62, ⟨c63⟩⟩ := y
  replace h0 : (if (!c9 && !c8) = true then x :: rest.filter (isFl ns) else rest.filter (isFl ns)).foldl (fun a k => (insW (ordN ns) k a.reverse).reverse) ks = sortF (ordN ns) (nd.kids.filter (isFl ns)) := h0
  replace hor : ordN ns x = c10 := hor
  have lF : (((insW (ordN ns) x ks.reverse).reverse).length : Int) ≤ z + 1 := by rw [List.length_reverse, insB_len, List.length_reverse]; omega
  cbv; rw [hc]; cbv; refine goX hg _ z0 hy rfl ?_; cbv
  (first | refine call0 hg cy rfl rfl ?_ | refine call0P hg cy rfl rfl ?_)
  cbv
  cases c9 <;> cases c8 <;> cbv
  case false.false =>
    simp only [Bool.not_false, Bool.and_self, if_true, List.foldl_cons] at h0
    have a0 : 0 ≤ lenI es := by rw [lenI_eq]; omega
    have a1 : lenI es ≤ 1048576 := by rw [lenI_eq]; omega
    have lks : lenI es = (ks.length : Int) := by rw [k1, lenI_eq, vw_length]
    rw [goLn hg]
    refine loop_runW4 [(13, .app 10 4 2)] [] heff hhd hg fits (by kernel_rfl) (fun a : Int => [(2, .t (.c (.ptr 0 0 0))), (5, .t (.c (.own 1))), (6, .t (.c (.view K))), (7, .t (ai (z))), (8, .t (.c (.ptr 2 0 0))), (9, .t (ai (a)))]) (fun a => [.bx 32 1 [.view V], .rw ⟨3, 1, es⟩, .bx 87 60 [.imm (.int .i64 c2), .imm (.int .i64 c3), .imm (.int .i64 c4), .imm (.int .i64 c5), .imm (.int .i64 c6), .imm (.int .i64 c7), .imm (.bool false), .imm (.bool false), .imm (.int .i64 c10), .imm (.int .i64 c11), .imm (.int .i64 c12), .imm (.int .i64 c13), .imm (.int .i64 c14), .imm (.int .i64 c15), .imm (.int .i64 c16), .imm (.int .i64 c17), .imm (.int .i64 c18), .imm (.int .i64 c19), .imm (.int .i64 c20), .imm (.int .i64 c21), .imm (.int .i64 c22), .imm (.int .i64 c23), .imm (.int .i64 c24), .imm (.int .i64 c25), .imm (.int .i64 c26), .imm (.int .i64 c27), .imm (.int .i64 c28), .imm (.int .i64 c29), .imm (.int .i64 c30), .imm (.int .i64 c31), .imm (.int .i64 c32), .imm (.int .i64 c33), .imm (.int .i64 c34), .imm (.int .i64 c35), .imm (.int .i64 c36), .imm (.int .i64 c37), .imm (.int .i64 c38), .imm (.int .i64 c39), .imm (.int .i64 c40), .imm (.int .i64 c41), .imm (.int .i64 c42), .imm (.int .i64 c43), .imm (.int .i64 c44), .imm (.int .i64 c45), .imm (.int .i64 c46), .imm (.int .i64 c47), .imm (.int .i64 c48), .imm (.int .i64 c49), .imm (.int .i64 c50), .imm (.int .i64 c51), .imm (.int .i64 c52), .imm (.int .i64 c53), .imm (.int .i64 c54), .imm (.int .i64 c55), .imm (.int .i64 c56), .imm (.int .i64 c57), .imm (.int .i64 c58), .imm (.int .i64 c59), .imm (.int .i64 c60), .imm (.int .i64 c61)]]) (fun a => 0 ≤ a ∧ a ≤ lenI es ∧ ∀ (i : Nat) (q : Int), a.toNat ≤ i → ks[i]? = some q → c10 < ordN ns q) (fun a => a.toNat) (lenI es) ⟨a0, Int.le_refl _, fun i q hi hq => ?_⟩ (Wk.weak (wkG [some 0, some 1, some 2] ⟨rfl, rfl, rfl, rfl, rfl, rfl, trivial⟩ ⟨⟨_, _, rfl, rfl, rfl, rfl, .inl ⟨rfl, rfl⟩⟩, ⟨_, _, rfl, rfl, rfl, rfl, .inl ⟨rfl, pE⟩⟩, ⟨_, _, rfl, rfl, rfl, rfl, .inl ⟨rfl, rfl⟩⟩, trivial⟩ (by decide) no_lt)) (fun a B2 ha hB2 => ?_)
    · have := (List.getElem?_eq_some_iff.1 hq).1; omega
    obtain ⟨b0, b1, b2⟩ := ha
    have eA : ∀ j : Nat, g .ap [] (g .tk es 0 j) = vw intC (ks.take j) := fun j => by rw [goAp hg, goTk hg, k1]; simp [vw, List.map_take]
    have lkN : ks.length ≤ 1048576 := by omega
    have eB : ∀ j : Nat, g .ap (g .ap [] (g .tk es 0 j)) [[.imm (.int .i64 x)]] = vw intC (ks.take j ++ [x]) := fun j => by rw [eA j, goAp hg, vw_app]; rfl
    have eC : ∀ j m : Nat, m = es.length - j → g .tk es j m = vw intC (ks.drop j) := fun j m hm => by
      rw [goTk hg, hm, k1]
      simp only [vw, ← List.map_drop, List.length_map]
      rw [List.take_of_length_le (by simp)]
    have pM : ∀ {A : Prop} {n : Nat}, A → n ≤ 3000000 → A ∧ n * 8 ≤ 140737488355328 ∧ n ≤ 4611686018427387904 := fun hA hn => ⟨hA, by omega, by omega⟩
    have mF : ∀ k ∈ (insW (ordN ns) x ks.reverse).reverse, isN ns k = true := fun k hkm => by
      rw [List.mem_reverse, insB_mem, List.mem_reverse] at hkm
      rcases hkm with rfl | h
      · exact hin
      · exact k3 k h
    have pN : ∀ {A : Prop} {n : Nat}, A → n ≤ 1048576 → A ∧ (0 + n) * 8 ≤ 140737488355328 ∧ 0 + n ≤ 4611686018427387904 := fun hA hn => ⟨hA, by omega, by omega⟩
    have hfin : (a = 0 ∨ ∃ q, ks[a.toNat - 1]? = some q ∧ ¬ c10 < ordN ns q) → (insW (ordN ns) x ks.reverse).reverse = ks.take a.toNat ++ x :: ks.drop a.toNat := fun hc => by
      refine insB_stop (ordN ns) x ks a.toNat (by omega) ?_ (fun i q hi hq => by rw [hor]; exact b2 i q hi hq)
      rcases hc with rfl | ⟨q, h1, h2⟩
      · exact .inl rfl
      · exact .inr ⟨q, h1, by rw [hor]; exact h2⟩
    have t0 : g .q .gtr a 0 = decide (0 < a) := by rw [goGtr hg]
    have ew : 0 < a → g .w .sub .i64 a 1 = a - 1 := fun h => by rw [goSub hg, wrap_small _ (by omega)]
    have l1 : 0 < a → (a - 1).toNat < ks.length := fun h => by omega
    have l2 : 0 < a → a - 1 < lenI es := fun h => by omega
    cbv
    rw [t0]
    by_cases hap : 0 < a
    case' pos =>
      rw [decide_eq_true hap]
      cbv
      rw [ew hap]
      have hl1 := l1 hap
      have hl2 := l2 hap
      have hq : ks[(a - 1).toNat]? = some ks[(a - 1).toNat] := List.getElem?_eq_getElem hl1
      obtain ⟨q, hqq⟩ : ∃ q, q = ks[(a - 1).toNat] := ⟨_, rfl⟩
      rw [← hqq] at hq
      obtain ⟨r1, r2, yq, hyq⟩ := isN_at (k3 q (List.mem_of_getElem? hq))
      obtain ⟨Kq, hKq⟩ : ∃ K, K = vw intC yq.kids := ⟨_, rfl⟩
      obtain ⟨Rq, hRq⟩ : ∃ R, R = vw GRule.c yq.table.rules := ⟨_, rfl⟩
      have cq := spec_l10Node_x ns q yq r1 (by omega) hyq V Kq Rq hV hKq hRq
      have hoq : ordN ns q = yq.style.order := by unfold ordN; rw [hyq]
      refine goY hg (by omega) hl2 fun j hj hjl => ?_
      cbv
      refine ⟨_, by rw [hj, k1]; exact vw_at hq, ?_⟩
      cbv
      (first | refine call0 hg cq rfl rfl ?_ | refine call0P hg cq rfl rfl ?_)
      cbv
      have tq : g .q .gtr yq.style.order c10 = decide (c10 < yq.style.order) := goGtr hg _ _
      cases hd : g .q .gtr yq.style.order c10
      rotate_left
      · have hd' : c10 < ordN ns q := by rw [hoq]; exact of_decide_eq_true (tq.symm.trans hd)
        cbv
        rw [ew hap, hB2]
        refine ⟨a - 1, ⟨by omega, by omega, fun i p hi hp => ?_⟩, by omega, Wk.weak (wkG [some 0, some 1, some 2] ⟨rfl, rfl, rfl, rfl, rfl, rfl, trivial⟩ ⟨⟨_, _, rfl, rfl, rfl, rfl, .inl ⟨rfl, rfl⟩⟩, ⟨_, _, rfl, rfl, rfl, rfl, .inl ⟨rfl, pE⟩⟩, ⟨_, _, rfl, rfl, rfl, rfl, .inl ⟨rfl, rfl⟩⟩, trivial⟩ (by decide) no_lt)⟩
        by_cases hi2 : a.toNat ≤ i
        · exact b2 i p hi2 hp
        · obtain rfl : i = (a - 1).toNat := by omega
          rw [hq] at hp
          cases hp
          exact hd'
      have hst := hfin (.inr ⟨q, by rw [show a.toNat - 1 = (a - 1).toNat by omega]; exact hq, by rw [hoq]; exact of_decide_eq_false (tq.symm.trans hd)⟩)
    case' neg =>
      rw [decide_eq_false hap]
      have hst := hfin (.inl (by omega))
    all_goals
      cbv
      refine goSOhi hg b0 b1 fun j hj => ?_
      cbv
      refine goN hg (pN (by rw [goTk hg, k1]; exact fun y hy => vw_k (c := intC) (k := 1) (fun _ => rfl) y (List.mem_of_mem_drop (List.mem_of_mem_take hy))) (by rw [goTk hg]; exact Nat.le_trans (List.length_take_le' _ _) (by simpa using hle))) ?_
      cbv
      refine goN hg (by show plainE (g .ap [] (g .tk es 0 j)) = true; rw [eA]; exact vw_plain _ _) ?_
      cbv
      refine goX hg _ z0 hy rfl ?_
      cbv
      refine goNA1 hg rfl (by decide) (by show (g .ap [] (g .tk es 0 j)).length ≤ _; rw [eA, vw_length]; exact Nat.le_trans (List.length_take_le' _ _) lkN) ?_
      cbv
      refine goSOlo hg b0 b1 fun j2 m2 hj2 hm2 => ?_
      cbv
      refine goN hg (pM (by show ∀ y ∈ g .tk es j2 m2, _; rw [eC j2 m2 hm2]; exact vw_k (c := intC) (k := 1) (fun _ => rfl)) (by
        show (g .ap (g .ap [] (g .tk es 0 j)) [[.imm (.int .i64 x)]]).length + (g .tk es j2 m2).length ≤ _
        rw [eB, eC j2 m2 hm2, vw_length, vw_length]
        simp only [List.length_append, List.length_take, List.length_drop, List.length_singleton]
        omega)) ?_
      cbv
      rw [e1]
      have eF : g .ap (g .ap (g .ap [] (g .tk es 0 j)) [[.imm (.int .i64 x)]]) (g .tk es j2 m2) = vw intC ((insW (ordN ns) x ks.reverse).reverse) := by
        rw [eB, eC j2 m2 hm2, goAp hg, ← vw_app, hst, hj2, ← hj]
        simp
      have pF : plainE (g .ap (g .ap (g .ap [] (g .tk es 0 j)) [[.imm (.int .i64 x)]]) (g .tk es j2 m2)) = true := by rw [eF]; exact vw_plain _ _
      skip
      exact hB ((_, (insW (ordN ns) x ks.reverse).reverse)) _ _ ⟨h0, ⟨eF, lF, fun k hkm => (mF k hkm)⟩⟩ (Wk.weak (wkG [some 0, some 7] ⟨rfl, rfl, rfl, rfl, trivial⟩ ⟨⟨_, _, rfl, rfl, rfl, rfl, .inl ⟨rfl, rfl⟩⟩, ⟨_, _, rfl, rfl, rfl, rfl, .inl ⟨rfl, pF⟩⟩, trivial⟩ (by decide) no_lt))
  skip
  all_goals
    rw [e1]
    exact hB ((es, ks)) _ _ ⟨by simpa using h0, ⟨k1, by simp only; omega, k3⟩⟩ (Wk.weak (wkG [some 0, some 1] ⟨rfl, rfl, rfl, rfl, trivial⟩ ⟨⟨_, _, rfl, rfl, rfl, rfl, .inl ⟨rfl, rfl⟩⟩, ⟨_, _, rfl, rfl, rfl, rfl, .inl ⟨rfl, pE⟩⟩, trivial⟩ (by decide) no_lt))

end Go.Proofs.YtdnnffbbhijmkaaGreat
