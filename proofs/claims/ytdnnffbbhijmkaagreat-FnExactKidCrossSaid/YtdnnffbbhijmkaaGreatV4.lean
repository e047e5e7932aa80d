/- The program's place of a box, a child's space across, and both programs' answers. -/
import Derived.Test.YtdnnffbbhijmkaaGreatV3
namespace Go.Proofs.YtdnnffbbhijmkaaGreat
open Go.ChangeShapes Go.WideShapes Go.ChangeAt Go.RowKit Am
set_option linter.unusedVariables false
set_option linter.unusedSimpArgs false
set_option maxRecDepth 100000
set_option maxHeartbeats 16000000 in
theorem layer_place_a (ns : List NNode) (n : Int) (x : NNode) (hl : ns.length ≤ 1048576) (h1 : 1 ≤ n) (h2 : n ≤ 1048576) (hx : ns[(n - 1).toNat]? = some x) (hkl : x.kids.length < 20) (hk : ∀ k ∈ x.kids, isN ns k = true) (rtl : Bool) (a b c d : Int) : PCon Tryz.prog 72 [.agg [.view (vwA NNode.ac ns), .imm (.bool rtl), .imm (.pointer none)], ai n, agP ⟨a, b⟩, agP ⟨c, d⟩] fun res rows => res = .t (.agg (plL n x.style ⟨a, b⟩ ⟨c, d⟩ (rowB x.style) (inW x.style ⟨a, b⟩) (inH x.style ⟨c, d⟩) (if rowB x.style then inW x.style ⟨a, b⟩ else inH x.style ⟨c, d⟩) (if rowB x.style then inH x.style ⟨c, d⟩ else inW x.style ⟨a, b⟩) (.view (vw intC (sortF (ordN ns) (x.kids.filter (isFl ns))))))) ∧ rows = [] := by
  have cF := impl_flowKids_a ns n x hl h1 h2 hx hkl hk
  obtain ⟨V, hV⟩ : ∃ V, V = vwA NNode.ac ns := ⟨_, rfl⟩
  obtain ⟨K, hK⟩ : ∃ K, K = vw intC x.kids := ⟨_, rfl⟩
  obtain ⟨R, hR⟩ : ∃ R, R = vw GRule.c x.table.rules := ⟨_, rfl⟩
  obtain ⟨G, hG⟩ : ∃ G, G = vw intC (sortF (ordN ns) (x.kids.filter (isFl ns))) := ⟨_, rfl⟩
  have pG : plainE G = true := by rw [hG]; exact vw_plain _ _
  have iG : immE G = true := by rw [hG]; exact vw_imm _ _
  have kG : ∀ y ∈ G, y.length = 1 := by rw [hG]; exact vw_k (c := intC) (k := 1) fun _ => rfl
  have dG : ∀ y ∈ G, y.all dat = true := by rw [hG]; exact vw_dat
  have cn := impl_node_x ns n x h1 (by omega) hx V K R hV hK hR
  have cr := impl_IsRow_a x.style
  have cf := impl_FrameOf_a x.style
  obtain ⟨e1, e2, e3, e4, hE⟩ : ∃ e1 e2 e3 e4, (⟨e1, e2, e3, e4⟩ : GEdges) = frmO x.style := ⟨_, _, _, _, rfl⟩
  rw [← hE] at cf
  have f1 := impl_WideOf_a e1 e2 e3 e4
  have f2 := impl_HighOf_a e1 e2 e3 e4
  obtain ⟨F1, hF1⟩ : ∃ kn, kn = frmS x.style true := ⟨_, rfl⟩
  obtain ⟨F2, hF2⟩ : ∃ kn, kn = frmS x.style false := ⟨_, rfl⟩
  have z1 : adE e1 e3 = F1 := by rw [hF1]; simp only [frmS, ← hE, if_true]
  have z2 : adE e2 e4 = F2 := by rw [hF2]; simp only [frmS, ← hE, if_false, Bool.false_eq_true]
  rw [z1] at f1
  rw [z2] at f2
  have i1 := impl_InnerOf_a a b F1
  have i2 := impl_InnerOf_a c d F2
  obtain ⟨w1, w2, hW⟩ : ∃ w1 w2, (⟨w1, w2⟩ : GSpace) = inW x.style ⟨a, b⟩ := ⟨_, _, rfl⟩
  obtain ⟨q1, q2, hH⟩ : ∃ q1 q2, (⟨q1, q2⟩ : GSpace) = inH x.style ⟨c, d⟩ := ⟨_, _, rfl⟩
  have y1 : innS ⟨a, b⟩ F1 = ⟨w1, w2⟩ := by rw [hF1]; exact hW.symm
  have y2 : innS ⟨c, d⟩ F2 = ⟨q1, q2⟩ := by rw [hF2]; exact hH.symm
  rw [y1] at i1
  rw [y2] at i2
  rw [← hV, ← hG] at cF
  rw [← hV, ← hG, ← hW, ← hH]
  clear hF1 hF2 z1 z2 y1 y2 hW hH
  cases hr : rowB x.style
  all_goals
    rw [hr] at cr
    simp only [if_true, if_false, Bool.false_eq_true]
    refine pcon_run (c := body Tryz.f72) fits Tryz.func72 (by kernel_rfl) (by kernel_rfl) (by rfl) (by kernel_rfl) fun g F hg hF => ?_
    cbv
    repeat' (first | (refine call0 hg cn rfl rfl ?_; cbv) | (refine call0P hg cn rfl rfl ?_; cbv) | (refine call0 hg cr rfl rfl ?_; cbv) | (refine call0P hg cr rfl rfl ?_; cbv) | (refine call0 hg cf rfl rfl ?_; cbv) | (refine call0P hg cf rfl rfl ?_; cbv) | (refine call0 hg f1 rfl rfl ?_; cbv) | (refine call0P hg f1 rfl rfl ?_; cbv) | (refine call0 hg f2 rfl rfl ?_; cbv) | (refine call0P hg f2 rfl rfl ?_; cbv) | (refine call0 hg i1 rfl rfl ?_; cbv) | (refine call0P hg i1 rfl rfl ?_; cbv) | (refine call0 hg i2 rfl rfl ?_; cbv) | (refine call0P hg i2 rfl rfl ?_; cbv) | (refine callRow hg cF (dat_data rfl) iG ?_; cbv) | (refine callRowP hg cF (dat_data rfl) iG ?_; cbv))
    refine finFrz [.agg (plL n x.style _ _ _ _ _ _ _ (.view G))] hF (.agg (by repeat' (first | exact .nil | exact .imm _ | exact resRow (ab := ⟨_, _, G⟩) rfl kG dG | refine .cons ?_ ?_)) .nil) ⟨rfl, rfl⟩

end Go.Proofs.YtdnnffbbhijmkaaGreat
