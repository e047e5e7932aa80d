/- A child's place, its sides and its space across. -/
import Derived.Test.YtdnnffbbhijmkaaGreatV1
import Derived.Test.YtdnnffbbhijmkaaGreatK4
namespace Go.Proofs.YtdnnffbbhijmkaaGreat
open Go.ChangeShapes Go.WideShapes Go.ChangeAt Go.RowKit Am
set_option linter.unusedVariables false
set_option linter.unusedSimpArgs false
set_option maxRecDepth 100000

/-- A box that is laid: node, style, its axis, the spaces along and across, the width that is known, its children. -/
def nwL (n : Int) (s : GStyle) (row : Bool) (al ac : GSpace) (kn : Int) (K : AC) : List AC := .imm (.int .i64 n) :: (lc (GStyle.c s) ++ [.imm (.bool row), .imm (.int .i64 al.mode), .imm (.int .i64 al.n), .imm (.int .i64 ac.mode), .imm (.int .i64 ac.n), .imm (.int .i64 kn), K])
def plL (n : Int) (s : GStyle) (wd hg : GSpace) (row : Bool) (iw ih al ac : GSpace) (K : AC) : List AC := .imm (.int .i64 n) :: (lc (GStyle.c s) ++ [.imm (.int .i64 wd.mode), .imm (.int .i64 wd.n), .imm (.int .i64 hg.mode), .imm (.int .i64 hg.n), .imm (.bool row), .imm (.int .i64 iw.mode), .imm (.int .i64 iw.n), .imm (.int .i64 ih.mode), .imm (.int .i64 ih.n), .imm (.int .i64 al.mode), .imm (.int .i64 al.n), .imm (.int .i64 ac.mode), .imm (.int .i64 ac.n), K])
def inW (s : GStyle) (w : GSpace) : GSpace := innS w (frmS s true)
def inH (s : GStyle) (h : GSpace) : GSpace := innS h (frmS s false)
def sdM (s : GStyle) (rtl main : Bool) : Int × Int := if main then (sd1 (rowB s) (mBack s rtl), sd2 (rowB s) (mBack s rtl)) else (sd1 (!rowB s) (cBack s rtl), sd2 (!rowB s) (cBack s rtl))
def sdB (s k : GStyle) (rtl main : Bool) (base : Int) : GSide := ⟨0, marN k.margin (sdM s rtl main).1 rtl base, marN k.margin (sdM s rtl main).2 rtl base, autS k.margin (sdM s rtl main).1 rtl, autS k.margin (sdM s rtl main).2 rtl, 0, 0⟩
def kcOk (ns : List NNode) (n : Int) (wd hg : GSpace) : Bool := treeB ns && (rng n 1 (ns.length : Int) && (spOk wd && spOk hg))
set_option maxHeartbeats 4000000 in
theorem spec_l18Ok_a (ns : List NNode) (hl : ns.length ≤ 1048576) (hs : ∀ y ∈ ns, NNode.small y) (n a b c d : Int) : PCon Tryz.prog 62 [.agg [.view (vwA NNode.ac ns)], ai n, agP ⟨a, b⟩, agP ⟨c, d⟩] fun res rows => res = .t (abl (kcOk ns n ⟨a, b⟩ ⟨c, d⟩)) ∧ rows = [] := by
  have cT := spec_TreeOk_a ns hl hs
  obtain ⟨V, hV⟩ : ∃ V, V = vwA NNode.ac ns := ⟨_, rfl⟩
  have hVx : lenI V = (ns.length : Int) := by rw [lenI_eq, hV, vwA_length]
  have cI := spec_l10Is_a V n
  have cw := spec_SpaceOk_a a b
  have ch := spec_SpaceOk_a c d
  rw [← hV] at cT ⊢
  unfold kcOk
  rw [← hVx]
  clear hVx hV hs hl
  obtain ⟨T, hT⟩ : ∃ T, T = treeB ns := ⟨_, rfl⟩
  obtain ⟨I, hI⟩ : ∃ T, T = rng n 1 (lenI V) := ⟨_, rfl⟩
  obtain ⟨W, hW⟩ : ∃ T, T = spOk ⟨a, b⟩ := ⟨_, rfl⟩
  obtain ⟨H, hH⟩ : ∃ T, T = spOk ⟨c, d⟩ := ⟨_, rfl⟩
  rw [← hT] at cT
  rw [← hI] at cI
  rw [← hW] at cw
  rw [← hH] at ch
  rw [← hT, ← hI, ← hW, ← hH]
  clear hT hI hW hH
  cases T <;> cases I <;> cases W <;> cases H <;> (
    refine pcon_run (c := body Tryz.f62) fits Tryz.func62 (by kernel_rfl) (by kernel_rfl) (by rfl) (by kernel_rfl) fun g F hg hF => ?_
    cbv
    (repeat' (first | (refine call0 hg cT rfl rfl ?_; cbv) | (refine call0 hg cI rfl rfl ?_; cbv) | (refine call0 hg cw rfl rfl ?_; cbv) | (refine call0 hg ch rfl rfl ?_; cbv)))
    exact fin0b hF rfl)
set_option maxHeartbeats 4000000 in
theorem impl_canLay_a (ns : List NNode) (hl : ns.length ≤ 1048576) (hs : ∀ y ∈ ns, NNode.small y) (n a b c d : Int) : PCon Tryz.prog 68 [.agg [.view (vwA NNode.ac ns)], ai n, agP ⟨a, b⟩, agP ⟨c, d⟩] fun res rows => res = .t (abl (kcOk ns n ⟨a, b⟩ ⟨c, d⟩)) ∧ rows = [] := by
  have cT := impl_TreeOk_a ns hl hs
  obtain ⟨V, hV⟩ : ∃ V, V = vwA NNode.ac ns := ⟨_, rfl⟩
  have hVx : lenI V = (ns.length : Int) := by rw [lenI_eq, hV, vwA_length]
  have cI := impl_isNode_a V n
  have cw := impl_SpaceOk_a a b
  have ch := impl_SpaceOk_a c d
  rw [← hV] at cT ⊢
  unfold kcOk
  rw [← hVx]
  clear hVx hV hs hl
  obtain ⟨T, hT⟩ : ∃ T, T = treeB ns := ⟨_, rfl⟩
  obtain ⟨I, hI⟩ : ∃ T, T = rng n 1 (lenI V) := ⟨_, rfl⟩
  obtain ⟨W, hW⟩ : ∃ T, T = spOk ⟨a, b⟩ := ⟨_, rfl⟩
  obtain ⟨H, hH⟩ : ∃ T, T = spOk ⟨c, d⟩ := ⟨_, rfl⟩
  rw [← hT] at cT
  rw [← hI] at cI
  rw [← hW] at cw
  rw [← hH] at ch
  rw [← hT, ← hI, ← hW, ← hH]
  clear hT hI hW hH
  cases T <;> cases I <;> cases W <;> cases H <;> (
    refine pcon_run (c := body Tryz.f68) fits Tryz.func68 (by kernel_rfl) (by kernel_rfl) (by rfl) (by kernel_rfl) fun g F hg hF => ?_
    cbv
    (repeat' (first | (refine call0 hg cT rfl rfl ?_; cbv) | (refine call0 hg cI rfl rfl ?_; cbv) | (refine call0 hg cw rfl rfl ?_; cbv) | (refine call0 hg ch rfl rfl ?_; cbv)))
    exact fin0b hF rfl)
set_option maxHeartbeats 8000000 in
theorem spec_l18Sides_a (ns : List NNode) (hl : ns.length ≤ 1048576) (kid : Int) (y : NNode) (h1 : isN ns kid = true) (hy : ns[(kid - 1).toNat]? = some y) (rtl main kp : Bool) (C D : AC) (n : Int) (s : GStyle) (row : Bool) (al ac : GSpace) (kn : Int) (K : List (List AC)) : PCon Tryz.prog 109 [.c (.eptr [.view (vwA NNode.ac ns), .imm (.bool rtl), .imm (.bool kp), C, D] 0), .agg (nwL n s row al ac kn (.view K)), ai kid, abl main] fun res rows => res = .t (.agg (lc (GSide.c (sdB s y.style rtl main kn)))) ∧ rows = [] := by
  obtain ⟨V, hV⟩ : ∃ V, V = vwA NNode.ac ns := ⟨_, rfl⟩
  obtain ⟨Ky, hKy⟩ : ∃ K, K = vw intC y.kids := ⟨_, rfl⟩
  obtain ⟨Ry, hRy⟩ : ∃ R, R = vw GRule.c y.table.rules := ⟨_, rfl⟩
  have b2 := isN_at h1
  have cy := spec_l10Node_x ns kid y b2.1 (by have := b2.2.1; omega) hy V Ky Ry hV hKy hRy
  have cm := spec_MainSides_a s rtl
  have cc := spec_CrossSides_a s rtl
  obtain ⟨p1, hp1⟩ : ∃ p, p = (sdM s rtl main).1 := ⟨_, rfl⟩
  obtain ⟨p2, hp2⟩ : ∃ p, p = (sdM s rtl main).2 := ⟨_, rfl⟩
  have m1 := spec_MarginOf_a y.style.margin p1 rtl kn
  have m2 := spec_MarginOf_a y.style.margin p2 rtl kn
  have a1 := spec_AutoSide_a y.style.margin p1 rtl
  have a2 := spec_AutoSide_a y.style.margin p2 rtl
  rw [← hV]
  unfold sdB
  rw [← hp1, ← hp2]
  obtain ⟨M1, hM1⟩ : ∃ M, M = marN y.style.margin p1 rtl kn := ⟨_, rfl⟩
  obtain ⟨M2, hM2⟩ : ∃ M, M = marN y.style.margin p2 rtl kn := ⟨_, rfl⟩
  obtain ⟨A1, hA1⟩ : ∃ M, M = autS y.style.margin p1 rtl := ⟨_, rfl⟩
  obtain ⟨A2, hA2⟩ : ∃ M, M = autS y.style.margin p2 rtl := ⟨_, rfl⟩
  rw [← hM1] at m1 ⊢
  rw [← hM2] at m2 ⊢
  rw [← hA1] at a1 ⊢
  rw [← hA2] at a2 ⊢
  clear hM1 hM2 hA1 hA2
  cases main
  all_goals
    simp only [sdM, if_true, if_false, Bool.false_eq_true] at hp1 hp2
    first | rw [← hp1, ← hp2] at cm | rw [← hp1, ← hp2] at cc
    refine pcon_run (c := body Tryz.f109) fits Tryz.func109 (by kernel_rfl) (by kernel_rfl) (by rfl) (by kernel_rfl) fun g F hg hF => ?_
    cbv
    repeat' (first | (refine call0 hg cm rfl rfl ?_; cbv) | (refine call0P hg cm rfl rfl ?_; cbv) | (refine call0 hg cc rfl rfl ?_; cbv) | (refine call0P hg cc rfl rfl ?_; cbv) | (refine call0 hg cy rfl rfl ?_; cbv) | (refine call0P hg cy rfl rfl ?_; cbv) | (refine call0 hg m1 rfl rfl ?_; cbv) | (refine call0P hg m1 rfl rfl ?_; cbv) | (refine call0 hg m2 rfl rfl ?_; cbv) | (refine call0P hg m2 rfl rfl ?_; cbv) | (refine call0 hg a1 rfl rfl ?_; cbv) | (refine call0P hg a1 rfl rfl ?_; cbv) | (refine call0 hg a2 rfl rfl ?_; cbv) | (refine call0P hg a2 rfl rfl ?_; cbv))
    refine fin0 hF ?_ ?_ <;> first | rfl | exact ⟨rfl, rfl⟩
set_option maxHeartbeats 8000000 in
theorem layer_margins_a (V : List (List AC)) (rtl : Bool) (n : Int) (s k : GStyle) (wd hg2 : GSpace) (row : Bool) (iw ih al ac : GSpace) (K : List (List AC)) (p q : Int) : PCon Tryz.prog 129 [.agg [.view V, .imm (.bool rtl), .imm (.pointer none)], .agg (plL n s wd hg2 row iw ih al ac (.view K)), .agg (lc (GStyle.c k)), ai p, ai q] fun res rows => res = .tup [ai (marN k.margin p rtl (knS iw)), ai (marN k.margin q rtl (knS iw))] ∧ rows = [] := by
  have ck := impl_knownOf_a iw.mode iw.n
  have m1 := impl_MarginOf_a k.margin p rtl (knS iw)
  have m2 := impl_MarginOf_a k.margin q rtl (knS iw)
  obtain ⟨B, hB⟩ : ∃ B, B = knS iw := ⟨_, rfl⟩
  change PCon _ _ _ fun res rows => res = .t (ai (knS iw)) ∧ rows = [] at ck
  rw [← hB] at ck m1 m2 ⊢
  obtain ⟨M1, hM1⟩ : ∃ M, M = marN k.margin p rtl B := ⟨_, rfl⟩
  obtain ⟨M2, hM2⟩ : ∃ M, M = marN k.margin q rtl B := ⟨_, rfl⟩
  rw [← hM1] at m1 ⊢
  rw [← hM2] at m2 ⊢
  clear hM1 hM2 hB
  refine pcon_run (c := body Tryz.f129) fits Tryz.func129 (by kernel_rfl) (by kernel_rfl) (by rfl) (by kernel_rfl) fun g F hg hF => ?_
  cbv
  repeat' (first | (refine call0 hg ck rfl rfl ?_; cbv) | (refine call0P hg ck rfl rfl ?_; cbv) | (refine call0 hg m1 rfl rfl ?_; cbv) | (refine call0P hg m1 rfl rfl ?_; cbv) | (refine call0 hg m2 rfl rfl ?_; cbv) | (refine call0P hg m2 rfl rfl ?_; cbv))
  refine fin0 hF ?_ ?_ <;> first | rfl | exact ⟨rfl, rfl⟩
set_option maxHeartbeats 16000000 in
theorem spec_l18New_a (ns : List NNode) (n : Int) (x : NNode) (hs : ∀ y ∈ ns, NNode.small y) (ht : treeB ns = true) (hl : ns.length ≤ 1048576) (h1 : 1 ≤ n) (h2 : n ≤ (ns.length : Int)) (hx : ns[(n - 1).toNat]? = some x) (hkl : x.kids.length ≤ 1048576) (hk : ∀ k ∈ x.kids, isN ns k = true) (a b c d : Int) : PCon Tryz.prog 66 [.agg [.view (vwA NNode.ac ns)], ai n, agP ⟨a, b⟩, agP ⟨c, d⟩] fun res rows => res = .t (.agg (nwL n x.style (rowB x.style) (if rowB x.style then inW x.style ⟨a, b⟩ else inH x.style ⟨c, d⟩) (if rowB x.style then inH x.style ⟨c, d⟩ else inW x.style ⟨a, b⟩) (knS (inW x.style ⟨a, b⟩)) (.view (vw intC (sortF (ordN ns) (x.kids.filter (isFl ns))))))) ∧ rows = [] := by
  have cF := spec_FlowKids_a ns n x hs ht hl h1 h2 hx hkl hk
  obtain ⟨V, hV⟩ : ∃ V, V = vwA NNode.ac ns := ⟨_, rfl⟩
  obtain ⟨K, hK⟩ : ∃ K, K = vw intC x.kids := ⟨_, rfl⟩
  obtain ⟨R, hR⟩ : ∃ R, R = vw GRule.c x.table.rules := ⟨_, rfl⟩
  obtain ⟨G, hG⟩ : ∃ G, G = vw intC (sortF (ordN ns) (x.kids.filter (isFl ns))) := ⟨_, rfl⟩
  have pG : plainE G = true := by rw [hG]; exact vw_plain _ _
  have iG : immE G = true := by rw [hG]; exact vw_imm _ _
  have kG : ∀ y ∈ G, y.length = 1 := by rw [hG]; exact vw_k (c := intC) (k := 1) fun _ => rfl
  have dG : ∀ y ∈ G, y.all dat = true := by rw [hG]; exact vw_dat
  have cn := spec_l10Node_x ns n x h1 (by omega) hx V K R hV hK hR
  have cr := spec_IsRow_a x.style
  have f1 := spec_FrameSize_a x.style true
  have f2 := spec_FrameSize_a x.style false
  have i1 := spec_InnerOf_a a b (frmS x.style true)
  have i2 := spec_InnerOf_a c d (frmS x.style false)
  obtain ⟨w1, w2, hW⟩ : ∃ w1 w2, (⟨w1, w2⟩ : GSpace) = inW x.style ⟨a, b⟩ := ⟨_, _, rfl⟩
  obtain ⟨q1, q2, hH⟩ : ∃ q1 q2, (⟨q1, q2⟩ : GSpace) = inH x.style ⟨c, d⟩ := ⟨_, _, rfl⟩
  have ck := spec_l18Known_a w1 w2
  rw [← hV, ← hG] at cF
  rw [← hV, ← hG, ← hW, ← hH]
  change PCon _ _ _ fun res rows => res = .t (agP (inW x.style ⟨a, b⟩)) ∧ rows = [] at i1
  change PCon _ _ _ fun res rows => res = .t (agP (inH x.style ⟨c, d⟩)) ∧ rows = [] at i2
  rw [← hW] at i1
  rw [← hH] at i2
  obtain ⟨kn, hkn⟩ : ∃ kn, kn = knS ⟨w1, w2⟩ := ⟨_, rfl⟩
  obtain ⟨F1, hF1⟩ : ∃ kn, kn = frmS x.style true := ⟨_, rfl⟩
  obtain ⟨F2, hF2⟩ : ∃ kn, kn = frmS x.style false := ⟨_, rfl⟩
  rw [← hkn] at ck ⊢
  rw [← hF1] at f1 i1
  rw [← hF2] at f2 i2
  cases hr : rowB x.style
  all_goals
    rw [hr] at cr
    simp only [if_true, if_false, Bool.false_eq_true]
    refine pcon_run (c := body Tryz.f66) fits Tryz.func66 (by kernel_rfl) (by kernel_rfl) (by rfl) (by kernel_rfl) fun g F hg hF => ?_
    cbv
    repeat' (first | (refine call0 hg cn rfl rfl ?_; cbv) | (refine call0P hg cn rfl rfl ?_; cbv) | (refine call0 hg cr rfl rfl ?_; cbv) | (refine call0P hg cr rfl rfl ?_; cbv) | (refine call0 hg f1 rfl rfl ?_; cbv) | (refine call0P hg f1 rfl rfl ?_; cbv) | (refine call0 hg f2 rfl rfl ?_; cbv) | (refine call0P hg f2 rfl rfl ?_; cbv) | (refine call0 hg i1 rfl rfl ?_; cbv) | (refine call0P hg i1 rfl rfl ?_; cbv) | (refine call0 hg i2 rfl rfl ?_; cbv) | (refine call0P hg i2 rfl rfl ?_; cbv) | (refine call0 hg ck rfl rfl ?_; cbv) | (refine call0P hg ck rfl rfl ?_; cbv) | (refine callRow hg cF (dat_data rfl) iG ?_; cbv) | (refine callRowP hg cF (dat_data rfl) iG ?_; cbv))
    refine finFrz [.agg (nwL n x.style _ _ _ _ (.view G))] hF (.agg (by repeat' (first | exact .nil | exact .imm _ | exact resRow (ab := ⟨_, _, G⟩) rfl kG dG | refine .cons ?_ ?_)) .nil) ⟨rfl, rfl⟩

end Go.Proofs.YtdnnffbbhijmkaaGreat
