/- impl's children in the flow: the contract. -/
import Derived.Test.YtdnnffbbhijmkaaGreatK2
import Derived.Test.YtdnnffbbhijmkaaGreatAmAI
namespace Go.Proofs.YtdnnffbbhijmkaaGreat
open Go.Shelf Go.RowKit Go.Lib Go.Sort Am
set_option linter.unusedVariables false
set_option linter.unusedSimpArgs false
set_option maxRecDepth 100000
set_option maxHeartbeats 8000000 in
theorem impl_flowKids_a (ns : List NNode) (n : Int) (nd : NNode) (hl : ns.length ≤ 1048576) (h1 : 1 ≤ n) (h2 : n ≤ 1048576) (hx : ns[(n - 1).toNat]? = some nd) (hkl : nd.kids.length < 20) (hk : ∀ k ∈ nd.kids, isN ns k = true) : PCon Tryz.prog 70 [.agg [.view (vwA NNode.ac ns)], ai n] fun res rows => res = .t (.c (.own 0)) ∧ rows = [⟨3, 1, vw intC (sortF (ordN ns) (nd.kids.filter (isFl ns)))⟩] := by
  obtain ⟨V, hV⟩ : ∃ V, V = vwA NNode.ac ns := ⟨_, rfl⟩
  obtain ⟨K, hK⟩ : ∃ K, K = vw intC nd.kids := ⟨_, rfl⟩
  obtain ⟨Rt, hRt⟩ : ∃ R, R = vw GRule.c nd.table.rules := ⟨_, rfl⟩
  have hKx : lenI K = (nd.kids.length : Int) := by rw [lenI_eq, hK, vw_length]
  have hK0 : 0 ≤ lenI K := by omega
  have hK1 : lenI K ≤ 1048576 := by omega
  have hlen : ∀ z : Int, (vw intC ((nd.kids.take z.toNat).filter (isFl ns))).length ≤ 1048576 := fun z => by
    rw [vw_length]
    have := List.length_filter_le (isFl ns) (nd.kids.take z.toNat)
    simp only [List.length_take] at this
    omega
  have hstep : ∀ (z : Int) (k : Int), 0 ≤ z → nd.kids[z.toNat]? = some k → vw intC ((nd.kids.take (z + 1).toNat).filter (isFl ns)) = vw intC ((nd.kids.take z.toNat).filter (isFl ns)) ++ (if isFl ns k then [[.imm (.int .i64 k)]] else []) := fun z k h0 hz => by
    rw [take_filter h0 hz, vw_app]
    congr 1
    cases isFl ns k <;> rfl
  have cn := impl_node_x ns n nd h1 h2 hx V K Rt hV hK hRt
  rw [← hV]
  refine pcon_run4 ([(9, .hand)]) ([]) (c := body Tryz.f70) fits Tryz.func70 (by kernel_rfl) (by kernel_rfl) (by rfl) (by kernel_rfl) fun g eff hd F heff hhd hg hF => ?_
  cbv
  (first | refine call0 hg cn rfl rfl ?_ | refine call0P hg cn rfl rfl ?_)
  cbv
  have hkl1 : nd.kids.length ≤ 1048576 := by omega
  refine loop_go4 ([(9, .hand)]) ([]) heff hhd hg fits (by kernel_rfl) K (fun x => lc (intC x)) nd.kids hK hkl1 (fun z (s : List (List AC) × List Int) => [(2, .t (.c (.ptr 0 0 0))), (5, .t (.c (.ptr 1 0 0))), (12, .t (.c (.view K))), (13, .t (ai (g .ln K))), (14, .t (ai (z)))]) (fun z (s : List (List AC) × List Int) => [.bx 32 1 [.view V], .bx 49 1 [.own 2], .rw ⟨3, 1, s.1⟩]) (fun z (s : List (List AC) × List Int) => s.1 = vw intC s.2 ∧ (s.2.length : Int) ≤ z) (fun (s : List (List AC) × List Int) rest => s.2 ++ rest.filter (isFl ns)) (nd.kids.filter (isFl ns)) ([], []) rfl ⟨rfl, by simp⟩ (Wk.weak (wkG [some 0, some 1, none] ⟨rfl, rfl, rfl, rfl, rfl, trivial⟩ ⟨⟨_, _, rfl, rfl, rfl, rfl, .inl ⟨rfl, rfl⟩⟩, ⟨_, _, rfl, rfl, rfl, rfl, .inr ⟨⟨rfl, trivial⟩, trivial⟩⟩, ⟨_, rfl, rfl⟩, trivial⟩ (by decide) no_lt)) (fun z s B hz h0 hi he => ?_) (fun z s x rest B z0 z1 z2 hx hy h0 hi hc e1 hB => ?_)
  · obtain ⟨es, ks⟩ := s
    obtain ⟨k1, k2⟩ := hi
    dsimp only at k1 k2 h0
    simp only [List.filter_nil, List.append_nil] at h0
    rw [h0] at k1
    cbv; rw [he]; cbv
    rw [hhd, hV]
    show VC _ _ _ (.region _ _ _) (QE _) (lkT _) (toH _)
    apply vc_sort (ns := ns) (E := nd.kids.filter (isFl ns)) (hl := hl) (tT := 32) (tI := 49)
    case hcd => rfl
    case hN => rfl
    case hhh => rw [k1]
    case hE => exact fun k hkm => hk k (List.mem_filter.1 hkm).1
    case h20 => exact Nat.lt_of_le_of_lt (List.length_filter_le _ _) hkl
    any_goals rfl
    refine ⟨_, _, rfl, rfl, ?_⟩
    obtain ⟨G, hG⟩ : ∃ G, G = vw intC (sortF (ordN ns) (nd.kids.filter (isFl ns))) := ⟨_, rfl⟩
    have pG : plainE G = true := by rw [hG]; exact vw_plain _ _
    rw [← hG] at hF ⊢
    cbv
    exact finRow hF rfl pG
  obtain ⟨es, ks⟩ := s
  obtain ⟨k1, k2⟩ := hi
  dsimp only at k1 k2 h0
  have hin := hk x (List.mem_of_getElem? hx)
  obtain ⟨q1, q2, y, hyn⟩ := isN_at hin
  have hap : isFl ns x = (!y.style.hidden && !y.style.apart) := by unfold isFl; rw [hyn]
  rw [List.filter_cons, hap] at h0
  clear hap
  have pE : plainE es = true := by rw [k1]; exact vw_plain _ _
  have hle : es.length ≤ 1048576 := by rw [k1, vw_length]; omega
  obtain ⟨Ky, hKy⟩ : ∃ K, K = vw intC y.kids := ⟨_, rfl⟩
  obtain ⟨Ry, hRy⟩ : ∃ R, R = vw GRule.c y.table.rules := ⟨_, rfl⟩
  have cy := impl_node_x ns x y q1 (by omega) hyn V Ky Ry hV hKy hRy
  obtain ⟨c0, c1, ⟨c2, c3, c4, c5, c6, c7, c8, c9, c10, c11, c12, ⟨c13, c14⟩, ⟨c15, c16⟩, ⟨c17, c18⟩, ⟨c19, c20⟩, ⟨c21, c22⟩, ⟨c23, c24⟩, ⟨c25, c26⟩, c27, ⟨⟨c28, c29⟩, ⟨c30, c31⟩, ⟨c32, c33⟩, ⟨c34, c35⟩, ⟨c36, c37⟩, ⟨c38, c39⟩⟩, ⟨⟨c40, c41⟩, ⟨c42, c43⟩, ⟨c44, c45⟩, ⟨c46, c47⟩, ⟨c48, c49⟩, ⟨c50, c51⟩⟩, ⟨c52, c53, c54, c55⟩, ⟨c56, c57, c58, c59⟩, c60, c61⟩, c62, ⟨c63⟩⟩ := y
  replace h0 : ks ++ (if (!c9 && !c8) = true then x :: rest.filter (isFl ns) else rest.filter (isFl ns)) = nd.kids.filter (isFl ns) := h0
  cbv; rw [hc]; cbv; refine goX hg _ z0 hy rfl ?_; cbv
  (first | refine call0 hg cy rfl rfl ?_ | refine call0P hg cy rfl rfl ?_)
  cbv
  cases c9 <;> cases c8 <;> cbv
  case false.false =>
    refine goNA1 hg rfl (by decide) (by omega) ?_
    cbv
    rw [e1, goAp hg]
    have pE2 : plainE (es ++ [[.imm (.int .i64 x)]]) = true := by
      have : es ++ [[.imm (.int .i64 x)]] = vw intC (ks ++ [x]) := by rw [k1, vw_app]; rfl
      rw [this]; exact vw_plain _ _
    exact hB ((es ++ [[.imm (.int .i64 x)]], ks ++ [x])) _ _ ⟨by simpa using h0, ⟨by rw [k1, vw_app]; rfl, by simp; omega⟩⟩ (Wk.weak (wkG [some 0, some 1, some 5] ⟨rfl, rfl, rfl, rfl, rfl, trivial⟩ ⟨⟨_, _, rfl, rfl, rfl, rfl, .inl ⟨rfl, rfl⟩⟩, ⟨_, _, rfl, rfl, rfl, rfl, .inr ⟨⟨rfl, trivial⟩, trivial⟩⟩, ⟨_, _, rfl, rfl, rfl, rfl, .inl ⟨rfl, pE2⟩⟩, trivial⟩ (by decide) no_lt))
  all_goals
    rw [e1]
    exact hB ((es, ks)) _ _ ⟨by simpa using h0, ⟨k1, by simp only; omega⟩⟩ (Wk.weak (wkG [some 0, some 1, some 2] ⟨rfl, rfl, rfl, rfl, rfl, trivial⟩ ⟨⟨_, _, rfl, rfl, rfl, rfl, .inl ⟨rfl, rfl⟩⟩, ⟨_, _, rfl, rfl, rfl, rfl, .inr ⟨⟨rfl, trivial⟩, trivial⟩⟩, ⟨_, _, rfl, rfl, rfl, rfl, .inl ⟨rfl, pE⟩⟩, trivial⟩ (by decide) no_lt))
section
variable {P : Program} {n0 N : Nat} {g : Gd}
theorem goSOhi (hg : g = G0 P n0 N) {es : List (List AC)} {a : Int} {K : Nat → Nat → Prop} (h0 : 0 ≤ a) (h1 : a ≤ lenI es) (hK : ∀ j : Nat, j = a.toNat → K 0 j) : g .SO es none (some a) K := by
  subst hg
  have := lenI_eq es
  exact ⟨0, a.toNat, rfl, ⟨h0, rfl⟩, Nat.zero_le _, by omega, by simpa using hK _ rfl⟩
theorem goTk (hg : g = G0 P n0 N) (es : List (List AC)) (a m : Nat) : g .tk es a m = (es.drop a).take m := by subst hg; rfl
theorem goSOlo (hg : g = G0 P n0 N) {es : List (List AC)} {a : Int} {K : Nat → Nat → Prop} (h0 : 0 ≤ a) (h1 : a ≤ lenI es) (hK : ∀ j m : Nat, j = a.toNat → m = es.length - j → K j m) : g .SO es (some a) none K := by
  subst hg
  have := lenI_eq es
  exact ⟨a.toNat, es.length, ⟨h0, rfl⟩, rfl, by omega, Nat.le_refl _, hK _ _ rfl rfl⟩
end
theorem foldl_ins (f : Int → Int) : ∀ (xs acc : List Int), xs.foldl (fun a k => (insW f k a.reverse).reverse) acc = (xs.foldl (fun a k => insW f k a) acc.reverse).reverse
  | [], acc => by simp
  | x :: xs, acc => by rw [List.foldl_cons, foldl_ins f xs, List.foldl_cons, List.reverse_reverse]
theorem sort_foldl (f : Int → Int) (xs : List Int) : xs.foldl (fun a k => (insW f k a.reverse).reverse) [] = sortF f xs := foldl_ins f xs []

end Go.Proofs.YtdnnffbbhijmkaaGreat
