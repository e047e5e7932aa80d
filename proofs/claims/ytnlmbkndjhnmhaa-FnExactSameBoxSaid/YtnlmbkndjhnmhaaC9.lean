/- All frames on a grid: the law. -/
import Derived.Test.YtnlmbkndjhnmhaaC8
namespace Go.Proofs.Ytnlmbkndjhnmhaa
open Go.ChangeShapes Go.WideShapes Go.ChangeAt Go.RowKit Am
set_option linter.unusedVariables false
set_option linter.unusedSimpArgs false
set_option maxRecDepth 100000

set_option maxHeartbeats 8000000 in
theorem laws_FnExactSnapAll_a (xs : List GFrame) (hxl : xs.length ≤ 9223372036854775807) (s : Int) : PCon Try.prog 7 [.c (.view (vw GFrame.c xs)), ai s] fun res rows => res = .t (abl true) ∧ rows = [] := by
  obtain ⟨V, hV⟩ : ∃ V, V = vw GFrame.c xs := ⟨_, rfl⟩
  have hVl : V.length = xs.length := by rw [hV, vw_length]
  have iV : immE V = true := by rw [hV]; exact vw_imm _ _
  have kV : ∀ y ∈ V, y.length = 5 := by rw [hV]; exact vw_k (c := GFrame.c) (k := 5) fun _ => rfl
  have dV : ∀ y ∈ V, y.all dat = true := by rw [hV]; exact vw_dat
  obtain ⟨G, hG⟩ : ∃ G, G = vw GFrame.c (xs.map (snapG s)) := ⟨_, rfl⟩
  have hGl : G.length = (xs.map (snapG s)).length := by rw [hG, vw_length]
  have iG : immE G = true := by rw [hG]; exact vw_imm _ _
  have kG : ∀ y ∈ G, y.length = 5 := by rw [hG]; exact vw_k (c := GFrame.c) (k := 5) fun _ => rfl
  have dG : ∀ y ∈ G, y.all dat = true := by rw [hG]; exact vw_dat
  have cz := laws_szFrameS_a V (by omega)
  obtain ⟨Z, hZ⟩ : ∃ Z, Z = szR (lenI V) 1048576 := ⟨_, rfl⟩
  rw [← hZ] at cz
  by_cases h6 : xs.length ≤ 1048576
  case neg =>
    have bZ : Z < 0 := by rw [hZ, lenI_eq]; unfold szR; rw [if_pos (by omega)]; decide
    rw [← hV]
    refine pcon_run (c := body Try.f7) fits Try.func7 (by kernel_rfl) (by kernel_rfl) (by rfl) (by kernel_rfl) fun g F hg hF => ?_
    cbv
    have e2 : g .q .lss Z 0 = true := by rw [goLss hg]; exact decide_eq_true bZ
    refine call0 hg cz rfl rfl ?_
    cbv
    rw [e2]
    cbv
    exact fin0b hF rfl
  have bZ : ¬ Z < 0 := by rw [hZ, lenI_eq]; unfold szR; rw [if_neg (by omega)]; omega
  have hGx : G.length = xs.length := by rw [hGl]; simp
  have pV := imm_plainE iV
  have pG := imm_plainE iG
  have cx := toRow (laws_toFrameS_a xs h6)
  have cs := spec_SnapAll_a xs s h6
  have ci := impl_SnapAll_a xs s h6
  have ex := laws_eqFrameS_a xs xs h6
  have eg := laws_eqFrameS_a (xs.map (snapG s)) (xs.map (snapG s)) (by simpa using h6)
  have cmV := laws_markFrameS_a 1 V kV pV (by omega) (by decide) (by decide)
  have cmG := laws_markFrameS_a 1 G kG pG (by omega) (by decide) (by decide)
  have ch := laws_heldFrameS_a 1 G.length (by omega) (by decide) (by decide)
  rw [← lenI_eq] at ch
  rw [decide_eq_true rfl] at ex eg
  obtain ⟨X, hX⟩ : ∃ X, X = vw GFrame.c (marksFrame 1 V.length) := ⟨_, rfl⟩
  obtain ⟨Y, hY⟩ : ∃ Y, Y = vw GFrame.c (marksFrame 1 G.length) := ⟨_, rfl⟩
  have pX : plainE X = true := by rw [hX]; exact vw_plain _ _
  have pY : plainE Y = true := by rw [hY]; exact vw_plain _ _
  have kY : ∀ y ∈ Y, y.length = 5 := by rw [hY]; exact vw_k (c := GFrame.c) (k := 5) fun _ => rfl
  have dY : ∀ y ∈ Y, y.all dat = true := by rw [hY]; exact vw_dat
  rw [← hX] at cmV
  rw [← hY] at cmG ch
  obtain ⟨K, hK⟩ : ∃ K : Int, K = 1 + 5 * lenI V := ⟨_, rfl⟩
  obtain ⟨M, hM⟩ : ∃ M : Int, M = 1 + 5 * lenI G := ⟨_, rfl⟩
  have bK : ¬ K < 0 := by rw [hK, lenI_eq]; omega
  have bM : ¬ M < 0 := by rw [hM, lenI_eq]; omega
  rw [← hK] at cmV
  rw [← hM] at cmG ch
  rw [← hV] at cx ex cs ci
  rw [← hG] at eg cs ci
  rw [← hV]
  refine pcon_run (c := body Try.f7) fits Try.func7 (by kernel_rfl) (by kernel_rfl) (by rfl) (by kernel_rfl) fun g F hg hF => ?_
  cbv
  have e2 : g .q .lss Z 0 = false := by rw [goLss hg]; exact decide_eq_false bZ
  refine call0 hg cz rfl rfl ?_
  cbv
  rw [e2]
  cbv
  have e3 : g .q .lss K 0 = false := by rw [goLss hg]; exact decide_eq_false bK
  have e4 : g .q .lss M 0 = false := by rw [goLss hg]; exact decide_eq_false bM
  have e5 : g .q .neq M M = false := by rw [goNeq hg]; simp
  repeat' (first | (refine callRow hg cx (dat_data rfl) iV ?_; cbv) | (refine callRowP hg cx (dat_data rfl) iV ?_; cbv) | (refine callRow hg cs (resA_c (resRow (ab := ⟨_, _, V⟩) rfl kV dV) (resA_c (resDat rfl) (resA_nil))) iG ?_; cbv) | (refine callRowP hg cs (resA_c (resRow (ab := ⟨_, _, V⟩) rfl kV dV) (resA_c (resDat rfl) (resA_nil))) iG ?_; cbv) | (refine callRow hg ci (resA_c (resRow (ab := ⟨_, _, V⟩) rfl kV dV) (resA_c (resDat rfl) (resA_nil))) iG ?_; cbv) | (refine callRowP hg ci (resA_c (resRow (ab := ⟨_, _, V⟩) rfl kV dV) (resA_c (resDat rfl) (resA_nil))) iG ?_; cbv) | (refine callR hg ex (resA_c (resRow (ab := ⟨_, _, V⟩) rfl kV dV) (resA_c (resRow (ab := ⟨_, _, V⟩) rfl kV dV) (resA_nil))) rfl ?_; cbv) | (refine callRP hg ex (resA_c (resRow (ab := ⟨_, _, V⟩) rfl kV dV) (resA_c (resRow (ab := ⟨_, _, V⟩) rfl kV dV) (resA_nil))) rfl ?_; cbv) | (refine callR hg eg (resA_c (resRow (ab := ⟨_, _, G⟩) rfl kG dG) (resA_c (resRow (ab := ⟨_, _, G⟩) rfl kG dG) (resA_nil))) rfl ?_; cbv) | (refine callRP hg eg (resA_c (resRow (ab := ⟨_, _, G⟩) rfl kG dG) (resA_c (resRow (ab := ⟨_, _, G⟩) rfl kG dG) (resA_nil))) rfl ?_; cbv) | (refine callR hg ch (resA_c (resRow (ab := ⟨_, _, Y⟩) rfl kY dY) (resA_c (resDat rfl) (resA_nil))) rfl ?_; cbv) | (refine callRP hg ch (resA_c (resRow (ab := ⟨_, _, Y⟩) rfl kY dY) (resA_c (resDat rfl) (resA_nil))) rfl ?_; cbv) | (refine callM hg 2 cmV rfl pV pX rfl ?_; cbv) | (refine callM hg 3 cmG rfl pG pY rfl ?_; cbv) | (rw [e3]; cbv) | (rw [e4]; cbv) | (rw [e5]; cbv))
  exact fin0b hF rfl

end Go.Proofs.Ytnlmbkndjhnmhaa
