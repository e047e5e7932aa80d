/- A child's space across: both programs' answers, and the law. -/
import Derived.Test.YtdnnffbbhijmkaaGreatV5
namespace Go.Proofs.YtdnnffbbhijmkaaGreat
open Go.ChangeShapes Go.WideShapes Go.ChangeAt Go.RowKit Am
set_option linter.unusedVariables false
set_option linter.unusedSimpArgs false
set_option maxRecDepth 100000

def flK (ns : List NNode) (n : Int) : List Int := sortF (ordN ns) ((kidsN ns n).filter (isFl ns))
def kxOk (ns : List NNode) (n : Int) (wd hgh : GSpace) (kid : Int) : Bool := kcOk ns n wd hgh && hasI (flK ns n) kid
def kxO (ns : List NNode) (n : Int) (wd hgh : GSpace) (rtl : Bool) (kid : Int) : GSpace :=
  if kxOk ns n wd hgh kid = false then ⟨0, 0⟩ else
  match ns[(n - 1).toNat]?, ns[(kid - 1).toNat]? with
  | some x, some y => crsO x.style y.style rtl (rowB x.style) (if rowB x.style then inH x.style hgh else inW x.style wd) (knS (inW x.style wd))
  | _, _ => ⟨0, 0⟩
theorem resPt {h : AH} {r off : Nat} {t k : Nat} {cs : List AC} (hr : h[r]? = some (.live ⟨t, k, [cs]⟩)) (hd : cs.all dat = true) : ResT h (.ptr r 0 off) (.eptr cs off) :=
  .ptr r 0 off ⟨t, k, [cs]⟩ cs cs hr rfl rfl fun j c d h1 h2 => by
    rw [h1] at h2
    cases h2
    exact resDat (List.all_eq_true.1 hd c (List.mem_of_getElem? h1))
theorem kxO_no {ns : List NNode} {n kid : Int} {wd hgh : GSpace} {rtl : Bool} (h : kxOk ns n wd hgh kid = false) : kxO ns n wd hgh rtl kid = ⟨0, 0⟩ := by unfold kxO; rw [if_pos h]
theorem kxO_yes {ns : List NNode} {n kid : Int} {wd hgh : GSpace} {rtl : Bool} {x y : NNode} (h : kxOk ns n wd hgh kid = true) (hx : ns[(n - 1).toNat]? = some x) (hy : ns[(kid - 1).toNat]? = some y) : kxO ns n wd hgh rtl kid = crsO x.style y.style rtl (rowB x.style) (if rowB x.style then inH x.style hgh else inW x.style wd) (knS (inW x.style wd)) := by unfold kxO; rw [if_neg (by rw [h]; simp), hx, hy]
theorem cnt_nn (xs : List Int) (n : Int) : 0 ≤ cnt xs n ∧ (n ∈ xs → 1 ≤ cnt xs n) := by
  induction xs with
  | nil => simp [cnt]
  | cons x xs ih =>
    have e : cnt (x :: xs) n = (if x = n then 1 else 0) + cnt xs n := by simp [cnt]
    rw [e]
    obtain ⟨i1, i2⟩ := ih
    by_cases hx : x = n
    · rw [if_pos hx]; exact ⟨by omega, fun _ => by omega⟩
    · rw [if_neg hx]
      refine ⟨by omega, fun h => ?_⟩
      rcases List.mem_cons.1 h with h | h
      · exact absurd h.symm hx
      · have := i2 h; omega
theorem nd_of_cnt : ∀ (xs : List Int), (∀ k ∈ xs, cnt xs k = 1) → xs.Nodup
  | [], _ => List.nodup_nil
  | x :: xs, h => by
    have e : ∀ n, cnt (x :: xs) n = (if x = n then 1 else 0) + cnt xs n := fun n => by simp [cnt]
    have hx : x ∉ xs := fun hm => by
      have h1 := h x (List.mem_cons_self ..)
      rw [e, if_pos rfl] at h1
      have := (cnt_nn xs x).2 hm
      omega
    refine List.nodup_cons.2 ⟨hx, nd_of_cnt xs fun k hk => ?_⟩
    have h1 := h k (List.mem_cons_of_mem _ hk)
    rw [e, if_neg (fun hxk : x = k => hx (by rw [hxk]; exact hk))] at h1
    omega
theorem nd_len : ∀ (M : Nat) (xs : List Int), xs.Nodup → (∀ k ∈ xs, 1 ≤ k ∧ k ≤ (M : Int)) → xs.length ≤ M
  | 0, xs, _, h => by
    cases xs with
    | nil => simp
    | cons x xs => have := h x (List.mem_cons_self ..); omega
  | M + 1, xs, hn, h => by
    have h1 := nd_len M (xs.erase ((M : Int) + 1)) (hn.erase _) (fun k hk => by
      have hk2 := (hn.mem_erase_iff).1 hk
      have := h k hk2.2
      have hne := hk2.1
      omega)
    by_cases hm : (M : Int) + 1 ∈ xs
    · have h2 := List.length_erase_of_mem hm
      have := List.length_pos_of_mem hm
      omega
    · rw [List.erase_of_not_mem hm] at h1; omega
theorem tree_len {ns : List NNode} (h : treeB ns = true) : ns.length ≤ 12 := by
  simp only [treeB, Bool.and_eq_true, decide_eq_true_eq] at h
  omega
theorem tree_kl {ns : List NNode} (h : treeB ns = true) {n : Int} {x : NNode} (h1 : 1 ≤ n) (hx : ns[(n - 1).toNat]? = some x) : x.kids.length ≤ 12 := by
  have hk := tree_kids h h1 hx
  have hl := tree_len h
  have h2 : ∀ k ∈ x.kids, upN ns k = n := fun k hkm => by
    have h3 := h
    simp only [treeB, Bool.and_eq_true] at h3
    have := (goT_iff ns ns 0).1 h3.2 _ x hx
    simp only [nodeOk, Bool.and_eq_true, List.all_eq_true, kidOk, decide_eq_true_eq] at this
    have := (this.2.2.2.1 k hkm).2
    omega
  have hnd : x.kids.Nodup := nd_of_cnt _ fun k hkm => by
    obtain ⟨k1, k2, y, hy⟩ := isN_at (hk k hkm)
    have h3 := h
    simp only [treeB, Bool.and_eq_true] at h3
    have h4 := (goT_iff ns ns 0).1 h3.2 _ y hy
    simp only [nodeOk, Bool.and_eq_true, upOk, Bool.or_eq_true, decide_eq_true_eq] at h4
    have hu : y.up = n := by have := h2 k hkm; unfold upN at this; rw [hy] at this; exact this
    have h5 := h4.2.2.1
    rw [hu] at h5
    have h6 : kidsN ns n = x.kids := by simp only [kidsN, hx]
    rw [h6, show (0 : Int) + (((k - 1).toNat : Nat) : Int) + 1 = k by omega] at h5
    rcases h5 with h5 | h5
    · omega
    · exact h5
  have := nd_len 12 x.kids hnd fun k hkm => by
    obtain ⟨k1, k2, y, hy⟩ := isN_at (hk k hkm)
    omega
  exact this
set_option maxHeartbeats 16000000 in
theorem impl_KidCross_a (ns : List NNode) (hl : ns.length ≤ 1048576) (hs : ∀ y ∈ ns, NNode.small y) (n a b c d : Int) (rtl : Bool) (kid : Int) : PCon Tryz.prog 19 [.agg [.view (vwA NNode.ac ns)], ai n, agP ⟨a, b⟩, agP ⟨c, d⟩, abl rtl, ai kid] fun res rows => res = .t (agP (kxO ns n ⟨a, b⟩ ⟨c, d⟩ rtl kid)) ∧ rows = [] := by
  have cO := impl_canLay_a ns hl hs n a b c d
  obtain ⟨V, hV⟩ : ∃ V, V = vwA NNode.ac ns := ⟨_, rfl⟩
  rw [← hV] at cO ⊢
  cases hO : kcOk ns n ⟨a, b⟩ ⟨c, d⟩
  case false =>
    rw [kxO_no (by simp [kxOk, hO])]
    rw [hO] at cO
    refine pcon_run (c := body Tryz.f19) fits Tryz.func19 (by kernel_rfl) (by kernel_rfl) (by rfl) (by kernel_rfl) fun g F hg hF => ?_
    cbv
    repeat' (first | (refine call0 hg cO rfl rfl ?_; cbv) | (refine call0P hg cO rfl rfl ?_; cbv))
    exact fin0v hF ⟨rfl, rfl⟩
  rw [hO] at cO
  have hO2 := hO
  simp only [kcOk, Bool.and_eq_true] at hO2
  obtain ⟨hT, hI, hO3⟩ := hO2
  obtain ⟨n1, n2, x, hx⟩ := isN_at (ns := ns) (n := n) hI
  have hkids := tree_kids hT n1 hx
  have hkl := tree_kl hT n1 hx
  have cK := impl_flowKids_a ns n x hl n1 (by omega) hx (by omega) hkids
  have hap : flK ns n = sortF (ordN ns) (x.kids.filter (isFl ns)) := by simp only [flK, kidsN, hx]
  have hGl0 : (sortF (ordN ns) (x.kids.filter (isFl ns))).length ≤ 1048576 := by
    rw [sortF_len]
    exact Nat.le_trans (List.length_filter_le _ _) (by omega)
  have cH := impl_hasInt_a (sortF (ordN ns) (x.kids.filter (isFl ns))) kid hGl0
  obtain ⟨G, hG⟩ : ∃ G, G = vw intC (sortF (ordN ns) (x.kids.filter (isFl ns))) := ⟨_, rfl⟩
  have hGl : G.length = (sortF (ordN ns) (x.kids.filter (isFl ns))).length := by rw [hG, vw_length]
  have iG : immE G = true := by rw [hG]; exact vw_imm _ _
  have kG : ∀ y ∈ G, y.length = 1 := by rw [hG]; exact vw_k (c := intC) (k := 1) fun _ => rfl
  have dG : ∀ y ∈ G, y.all dat = true := by rw [hG]; exact vw_dat
  rw [← hG] at cK cH
  rw [← hV] at cK
  rw [← hap] at cH
  cases hH : hasI (flK ns n) kid
  case false =>
    rw [kxO_no (by simp [kxOk, hH])]
    rw [hH] at cH
    refine pcon_run (c := body Tryz.f19) fits Tryz.func19 (by kernel_rfl) (by kernel_rfl) (by rfl) (by kernel_rfl) fun g F hg hF => ?_
    cbv
    repeat' (first | (refine call0 hg cO rfl rfl ?_; cbv) | (refine call0P hg cO rfl rfl ?_; cbv))
    repeat' (first | (refine callRow hg cK (dat_data rfl) iG ?_; cbv) | (refine callRowP hg cK (dat_data rfl) iG ?_; cbv) | (refine callR hg cH (resA_c (resRow (ab := ⟨_, _, G⟩) rfl kG dG) (resA_c (resDat rfl) (resA_nil))) rfl ?_; cbv) | (refine callRP hg cH (resA_c (resRow (ab := ⟨_, _, G⟩) rfl kG dG) (resA_c (resDat rfl) (resA_nil))) rfl ?_; cbv))
    exact fin0v hF ⟨rfl, rfl⟩
  rw [hH] at cH
  have hik : isN ns kid = true := hkids kid (by
    have := hH
    simp only [hap, hasI, List.any_eq_true, decide_eq_true_eq] at this
    obtain ⟨k, hkm, rfl⟩ := this
    rw [sortF_mem] at hkm
    exact (List.mem_filter.1 hkm).1)
  obtain ⟨m1, m2, y, hy⟩ := isN_at hik
  rw [kxO_yes (by simp [kxOk, hO, hH]) hx hy]
  have cp := layer_place_a ns n x hl n1 (by omega) hx (by omega) hkids rtl a b c d
  rw [← hV, ← hG] at cp
  have cc := fun row iw ih al ac => layer_kidCross_a ns hl kid y hik hy rtl n x.style ⟨a, b⟩ ⟨c, d⟩ row iw ih al ac G
  rw [← hV] at cc
  have cc := cc (rowB x.style) (inW x.style ⟨a, b⟩) (inH x.style ⟨c, d⟩) (if rowB x.style then inW x.style ⟨a, b⟩ else inH x.style ⟨c, d⟩) (if rowB x.style then inH x.style ⟨c, d⟩ else inW x.style ⟨a, b⟩)
  obtain ⟨X, hX⟩ : ∃ X, X = crsO x.style y.style rtl (rowB x.style) (if rowB x.style then inH x.style ⟨c, d⟩ else inW x.style ⟨a, b⟩) (knS (inW x.style ⟨a, b⟩)) := ⟨_, rfl⟩
  rw [← hX] at cc ⊢
  generalize rowB x.style = r1 at *
  generalize inW x.style ⟨a, b⟩ = r2 at *
  generalize inH x.style ⟨c, d⟩ = r3 at *
  generalize (if r1 then r2 else r3) = r4 at *
  generalize (if r1 then r3 else r2) = r5 at *
  obtain ⟨X0, X1⟩ := X
  refine pcon_run (c := body Tryz.f19) fits Tryz.func19 (by kernel_rfl) (by kernel_rfl) (by rfl) (by kernel_rfl) fun g F hg hF => ?_
  cbv
  repeat' (first | (refine call0 hg cO rfl rfl ?_; cbv) | (refine call0P hg cO rfl rfl ?_; cbv))
  repeat' (first | (refine callRow hg cK (dat_data rfl) iG ?_; cbv) | (refine callRowP hg cK (dat_data rfl) iG ?_; cbv) | (refine callR hg cH (resA_c (resRow (ab := ⟨_, _, G⟩) rfl kG dG) (resA_c (resDat rfl) (resA_nil))) rfl ?_; cbv) | (refine callRP hg cH (resA_c (resRow (ab := ⟨_, _, G⟩) rfl kG dG) (resA_c (resDat rfl) (resA_nil))) rfl ?_; cbv) | (refine call0P hg cp rfl rfl ?_; cbv) | (refine call0P hg cc rfl rfl ?_; cbv))
  exact fin0v hF ⟨rfl, rfl⟩
set_option maxHeartbeats 16000000 in
theorem spec_KidCross_a (ns : List NNode) (hl : ns.length ≤ 1048576) (hs : ∀ y ∈ ns, NNode.small y) (n a b c d : Int) (rtl : Bool) (kid : Int) : PCon Tryz.prog 16 [.agg [.view (vwA NNode.ac ns)], ai n, agP ⟨a, b⟩, agP ⟨c, d⟩, abl rtl, ai kid] fun res rows => res = .t (agP (kxO ns n ⟨a, b⟩ ⟨c, d⟩ rtl kid)) ∧ rows = [] := by
  have cO := spec_l18Ok_a ns hl hs n a b c d
  obtain ⟨V, hV⟩ : ∃ V, V = vwA NNode.ac ns := ⟨_, rfl⟩
  rw [← hV] at cO ⊢
  cases hO : kcOk ns n ⟨a, b⟩ ⟨c, d⟩
  case false =>
    rw [kxO_no (by simp [kxOk, hO])]
    rw [hO] at cO
    refine pcon_run (c := body Tryz.f16) fits Tryz.func16 (by kernel_rfl) (by kernel_rfl) (by rfl) (by kernel_rfl) fun g F hg hF => ?_
    cbv
    repeat' (first | (refine call0 hg cO rfl rfl ?_; cbv) | (refine call0P hg cO rfl rfl ?_; cbv))
    exact fin0v hF ⟨rfl, rfl⟩
  rw [hO] at cO
  have hO2 := hO
  simp only [kcOk, Bool.and_eq_true] at hO2
  obtain ⟨hT, hI, hO3⟩ := hO2
  obtain ⟨n1, n2, x, hx⟩ := isN_at (ns := ns) (n := n) hI
  have hkids := tree_kids hT n1 hx
  have hkl := tree_kl hT n1 hx
  have cK := spec_FlowKids_a ns n x hs hT hl n1 n2 hx (by omega) hkids
  have hap : flK ns n = sortF (ordN ns) (x.kids.filter (isFl ns)) := by simp only [flK, kidsN, hx]
  have hGl0 : (sortF (ordN ns) (x.kids.filter (isFl ns))).length ≤ 1048576 := by
    rw [sortF_len]
    exact Nat.le_trans (List.length_filter_le _ _) (by omega)
  have cH := spec_l10Has_a (sortF (ordN ns) (x.kids.filter (isFl ns))) kid hGl0
  have hc := cnt_has (flK ns n) kid
  obtain ⟨G, hG⟩ : ∃ G, G = vw intC (sortF (ordN ns) (x.kids.filter (isFl ns))) := ⟨_, rfl⟩
  have hGl : G.length = (sortF (ordN ns) (x.kids.filter (isFl ns))).length := by rw [hG, vw_length]
  have iG : immE G = true := by rw [hG]; exact vw_imm _ _
  have kG : ∀ y ∈ G, y.length = 1 := by rw [hG]; exact vw_k (c := intC) (k := 1) fun _ => rfl
  have dG : ∀ y ∈ G, y.all dat = true := by rw [hG]; exact vw_dat
  rw [← hG] at cK cH
  rw [← hV] at cK
  rw [← hap] at cH
  obtain ⟨C, hC⟩ : ∃ C, C = cnt (flK ns n) kid := ⟨_, rfl⟩
  rw [← hC] at cH hc
  clear hC
  cases hH : hasI (flK ns n) kid
  case false =>
    rw [kxO_no (by simp [kxOk, hH])]
    rw [hH] at hc
    refine pcon_run (c := body Tryz.f16) fits Tryz.func16 (by kernel_rfl) (by kernel_rfl) (by rfl) (by kernel_rfl) fun g F hg hF => ?_
    have e : g .q .eql C 0 = true := by rw [goEql hg]; simpa using hc
    cbv
    repeat' (first | (refine call0 hg cO rfl rfl ?_; cbv) | (refine call0P hg cO rfl rfl ?_; cbv))
    repeat' (first | (refine callRow hg cK (dat_data rfl) iG ?_; cbv) | (refine callRowP hg cK (dat_data rfl) iG ?_; cbv) | (refine callR hg cH (resA_c (resRow (ab := ⟨_, _, G⟩) rfl kG dG) (resA_c (resDat rfl) (resA_nil))) rfl ?_; cbv) | (refine callRP hg cH (resA_c (resRow (ab := ⟨_, _, G⟩) rfl kG dG) (resA_c (resDat rfl) (resA_nil))) rfl ?_; cbv) | (rw [e]; cbv))
    exact fin0v hF ⟨rfl, rfl⟩
  rw [hH] at hc
  have hik : isN ns kid = true := hkids kid (by
    have := hH
    simp only [hap, hasI, List.any_eq_true, decide_eq_true_eq] at this
    obtain ⟨k, hkm, rfl⟩ := this
    rw [sortF_mem] at hkm
    exact (List.mem_filter.1 hkm).1)
  obtain ⟨m1, m2, y, hy⟩ := isN_at hik
  rw [kxO_yes (by simp [kxOk, hO, hH]) hx hy]
  have cp := spec_l18New_a ns n x hs hT hl n1 n2 hx (by omega) hkids a b c d
  rw [← hV, ← hG] at cp
  have cc := fun row al ac kn => spec_l18Cross_a ns hl kid y hik hy rtl false (.imm (.slice none 0 0)) (.imm (.slice none 0 0)) n x.style row al ac kn G
  rw [← hV] at cc
  have cc := cc (rowB x.style) (if rowB x.style then inW x.style ⟨a, b⟩ else inH x.style ⟨c, d⟩) (if rowB x.style then inH x.style ⟨c, d⟩ else inW x.style ⟨a, b⟩) (knS (inW x.style ⟨a, b⟩))
  obtain ⟨X, hX⟩ : ∃ X, X = crsO x.style y.style rtl (rowB x.style) (if rowB x.style then inH x.style ⟨c, d⟩ else inW x.style ⟨a, b⟩) (knS (inW x.style ⟨a, b⟩)) := ⟨_, rfl⟩
  rw [← hX] at cc ⊢
  generalize knS (inW x.style ⟨a, b⟩) = r6 at *
  generalize rowB x.style = r1 at *
  generalize inW x.style ⟨a, b⟩ = r2 at *
  generalize inH x.style ⟨c, d⟩ = r3 at *
  generalize (if r1 then r2 else r3) = r4 at *
  generalize (if r1 then r3 else r2) = r5 at *
  obtain ⟨X0, X1⟩ := X
  refine pcon_run (c := body Tryz.f16) fits Tryz.func16 (by kernel_rfl) (by kernel_rfl) (by rfl) (by kernel_rfl) fun g F hg hF => ?_
  have e : g .q .eql C 0 = false := by rw [goEql hg]; simpa using hc
  cbv
  repeat' (first | (refine call0 hg cO rfl rfl ?_; cbv) | (refine call0P hg cO rfl rfl ?_; cbv))
  repeat' (first | (refine callRow hg cK (dat_data rfl) iG ?_; cbv) | (refine callRowP hg cK (dat_data rfl) iG ?_; cbv) | (refine callR hg cH (resA_c (resRow (ab := ⟨_, _, G⟩) rfl kG dG) (resA_c (resDat rfl) (resA_nil))) rfl ?_; cbv) | (refine callRP hg cH (resA_c (resRow (ab := ⟨_, _, G⟩) rfl kG dG) (resA_c (resDat rfl) (resA_nil))) rfl ?_; cbv) | (rw [e]; cbv) | (refine call0P hg cp rfl rfl ?_; cbv) | (refine callRP hg cc (resA_t (resPt rfl rfl) (resA_agg rfl (resA_c (resDat rfl) resA_nil))) rfl ?_; cbv))
  exact fin0v hF ⟨rfl, rfl⟩
set_option maxHeartbeats 8000000 in
theorem laws_FnExactKidCross_a (x : NTree) (hf : x.fit) (n : Int) (u v : GSpace) (rtl : Bool) (kid : Int) : PCon Tryz.prog 3 [.agg x.ac, ai n, agP u, agP v, abl rtl, ai kid] fun res rows => res = .t (abl true) ∧ rows = [] := by
  have cz := laws_szTree_n x 1048576 hf (by decide) (by decide)
  have ct := fun hs => laws_toTree_n x hs
  have ce := fun hs => laws_eqTree_n x hs
  have sm : x.small → x.nodes.length ≤ 1048576 ∧ ∀ y ∈ x.nodes, NNode.small y := fun h => by obtain ⟨ns⟩ := x; exact ⟨h.1, h.2.1⟩
  obtain ⟨a, b⟩ := u
  obtain ⟨c, d⟩ := v
  have cs := fun hs : x.small => spec_KidCross_a x.nodes (sm hs).1 (sm hs).2 n a b c d rtl kid
  have ci := fun hs : x.small => impl_KidCross_a x.nodes (sm hs).1 (sm hs).2 n a b c d rtl kid
  have t1 := laws_toSpace_a ⟨a, b⟩
  have t2 := laws_toSpace_a ⟨c, d⟩
  obtain ⟨S, hS⟩ : ∃ S : Prop, S = x.small := ⟨_, rfl⟩
  obtain ⟨X, hX⟩ : ∃ X, X = kxO x.nodes n ⟨a, b⟩ ⟨c, d⟩ rtl kid := ⟨_, rfl⟩
  have hac : x.ac = [.view (vwA NNode.ac x.nodes)] := by obtain ⟨ns⟩ := x; rfl
  rw [← hS] at cz ct ce cs ci
  rw [← hX] at cs ci
  rw [hac] at cz ct ce ⊢
  obtain ⟨V, hV⟩ : ∃ V, V = vwA NNode.ac x.nodes := ⟨_, rfl⟩
  rw [← hV] at cz ct ce cs ci ⊢
  obtain ⟨X0, X1⟩ := X
  have c1 := laws_eqSpace_a ⟨X0, X1⟩ ⟨X0, X1⟩
  rw [decide_eq_true rfl] at c1
  clear hS hX hac hV sm hf
  refine pcon_run (c := body Tryz.f3) fits Tryz.func3 (by kernel_rfl) (by kernel_rfl) (by rfl) (by kernel_rfl) fun g F hg hF => ?_
  cbv
  refine callZ hg cz rfl (fun Z hZ => ?_)
  obtain ⟨_, hZ⟩ := hZ
  cbv
  cases e : g .q .lss Z 0
  case true =>
    cbv
    exact fin0b hF rfl
  rw [goLss hg, decide_eq_false_iff_not] at e
  have hs := hZ (by omega)
  replace ct := ct hs
  replace ce := ce hs
  replace cs := cs hs
  replace ci := ci hs
  cbv
  repeat' (first | (refine call0 hg ct rfl rfl ?_; cbv) | (refine call0P hg ct rfl rfl ?_; cbv) | (refine call0 hg t1 rfl rfl ?_; cbv) | (refine call0P hg t1 rfl rfl ?_; cbv) | (refine call0 hg t2 rfl rfl ?_; cbv) | (refine call0P hg t2 rfl rfl ?_; cbv) | (refine call0 hg cs rfl rfl ?_; cbv) | (refine call0P hg cs rfl rfl ?_; cbv) | (refine call0 hg ci rfl rfl ?_; cbv) | (refine call0P hg ci rfl rfl ?_; cbv) | (refine call0 hg c1 rfl rfl ?_; cbv) | (refine call0P hg c1 rfl rfl ?_; cbv) | (refine call0 hg ce rfl rfl ?_; cbv) | (refine call0P hg ce rfl rfl ?_; cbv))
  exact fin0b hF rfl

end Go.Proofs.YtdnnffbbhijmkaaGreat
