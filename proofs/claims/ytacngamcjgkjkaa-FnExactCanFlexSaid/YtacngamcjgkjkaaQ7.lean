/- The law CanFlex as a map of data. -/
import Derived.Test.YtacngamcjgkjkaaQ6
namespace Go.Proofs.Ytacngamcjgkjkaa
open Go.ChangeShapes Go.WideShapes Go.ChangeAt Go.RowKit Am
set_option linter.unusedVariables false
set_option linter.unusedSimpArgs false
set_option maxRecDepth 100000
set_option maxHeartbeats 4000000 in
theorem laws_FnExactCanFlex_a (xs : List GItem) (hxl : xs.length ≤ 9223372036854775807) (gap inner : Int) : PCon Try.prog 5 [.c (.view (vw GItem.c xs)), ai gap, ai inner] fun res rows => res = .t (abl true) ∧ rows = [] := by
  obtain ⟨V, hV⟩ : ∃ V, V = vw GItem.c xs := ⟨_, rfl⟩
  have hVl : V.length = xs.length := by rw [hV, vw_length]
  have iV : immE V = true := by rw [hV]; exact vw_imm _ _
  have kV : ∀ y ∈ V, y.length = 9 := by rw [hV]; exact vw_k (c := GItem.c) (k := 9) fun _ => rfl
  have dV : ∀ y ∈ V, y.all dat = true := by rw [hV]; exact vw_dat
  have cz := laws_szItemS_a V (by omega)
  obtain ⟨Z, hZ⟩ : ∃ Z, Z = szR (lenI V) 1048576 := ⟨_, rfl⟩
  rw [← hZ] at cz
  by_cases h6 : xs.length ≤ 1048576
  case neg =>
    have bZ : Z < 0 := by rw [hZ, lenI_eq]; unfold szR; rw [if_pos (by omega)]; decide
    rw [← hV]
    refine pcon_run (c := body Try.f5) fits Try.func5 (by kernel_rfl) (by kernel_rfl) (by rfl) (by kernel_rfl) fun g F hg hF => ?_
    cbv
    have e2 : g .q .lss Z 0 = true := by rw [goLss hg]; exact decide_eq_true bZ
    refine call0 hg cz rfl rfl ?_
    cbv
    rw [e2]
    cbv
    exact fin0b hF rfl
  have bZ : ¬ Z < 0 := by rw [hZ, lenI_eq]; unfold szR; rw [if_neg (by omega)]; omega
  have cx := toRow (laws_toItemS_a xs h6)
  have cs := spec_CanFlex_a xs gap inner h6
  have ci := impl_CanFlex_a xs gap inner h6
  have ex := laws_eqItemS_a xs xs h6
  rw [decide_eq_true rfl] at ex
  obtain ⟨R, hR⟩ : ∃ R, R = canF xs gap inner := ⟨_, rfl⟩
  rw [← hV] at cx ex cs ci
  rw [← hR] at cs ci
  rw [← hV]
  refine pcon_run (c := body Try.f5) fits Try.func5 (by kernel_rfl) (by kernel_rfl) (by rfl) (by kernel_rfl) fun g F hg hF => ?_
  cbv
  have e2 : g .q .lss Z 0 = false := by rw [goLss hg]; exact decide_eq_false bZ
  refine call0 hg cz rfl rfl ?_
  cbv
  rw [e2]
  cbv
  have e3 : g .qb .neq R R = false := by rw [goNeqB hg]; simp
  repeat' (first | (refine callRow hg cx (dat_data rfl) iV ?_; cbv) | (refine callRowP hg cx (dat_data rfl) iV ?_; cbv) | (refine callR hg cs (resA_c (resRow (ab := ⟨_, _, V⟩) rfl kV dV) (resA_c (resDat rfl) (resA_c (resDat rfl) (resA_nil)))) rfl ?_; cbv) | (refine callRP hg cs (resA_c (resRow (ab := ⟨_, _, V⟩) rfl kV dV) (resA_c (resDat rfl) (resA_c (resDat rfl) (resA_nil)))) rfl ?_; cbv) | (refine callR hg ci (resA_c (resRow (ab := ⟨_, _, V⟩) rfl kV dV) (resA_c (resDat rfl) (resA_c (resDat rfl) (resA_nil)))) rfl ?_; cbv) | (refine callRP hg ci (resA_c (resRow (ab := ⟨_, _, V⟩) rfl kV dV) (resA_c (resDat rfl) (resA_c (resDat rfl) (resA_nil)))) rfl ?_; cbv) | (refine callR hg ex (resA_c (resRow (ab := ⟨_, _, V⟩) rfl kV dV) (resA_c (resRow (ab := ⟨_, _, V⟩) rfl kV dV) (resA_nil))) rfl ?_; cbv) | (refine callRP hg ex (resA_c (resRow (ab := ⟨_, _, V⟩) rfl kV dV) (resA_c (resRow (ab := ⟨_, _, V⟩) rfl kV dV) (resA_nil))) rfl ?_; cbv) | (rw [e3]; cbv))
  exact fin0b hF rfl

end Go.Proofs.Ytacngamcjgkjkaa
