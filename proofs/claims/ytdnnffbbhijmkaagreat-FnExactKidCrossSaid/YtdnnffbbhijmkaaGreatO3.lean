/- The value at a side, stepped through (its region of two stores draws its order). -/
import Derived.Test.YtdnnffbbhijmkaaGreatF2
import Derived.Test.YtdnnffbbhijmkaaGreatR3
namespace Go.Proofs.YtdnnffbbhijmkaaGreat
open Go.ChangeShapes Go.WideShapes Go.ChangeAt Go.RowKit
set_option linter.unusedVariables false
set_option linter.unusedSimpArgs false
set_option maxRecDepth 100000

def sideC (s : GSides) (sd : Int) (rtl : Bool) : GVal :=
  if sd = 1 then s.top else if sd = 3 then s.bottom
  else if sd = 0 then (if (if rtl then s.fin else s.start).kind ≠ 0 then (if rtl then s.fin else s.start) else s.left)
  else if sd = 2 then (if (if rtl then s.start else s.fin).kind ≠ 0 then (if rtl then s.start else s.fin) else s.right) else ⟨0, 0⟩
set_option maxHeartbeats 8000000 in
theorem impl_SideOf_c (s : GSides) (sd : Int) (rtl : Bool) (w : World) :
    Calls Tryz.prog 218 #[.agg #[.int .i64 s.left.kind, .int .i64 s.left.n, .int .i64 s.top.kind, .int .i64 s.top.n, .int .i64 s.right.kind, .int .i64 s.right.n, .int .i64 s.bottom.kind, .int .i64 s.bottom.n, .int .i64 s.start.kind, .int .i64 s.start.n, .int .i64 s.fin.kind, .int .i64 s.fin.n], .int .i64 sd, .bool rtl] w fun e w' => e = .returned (.agg #[.int .i64 (sideC s sd rtl).kind, .int .i64 (sideC s sd rtl).n]) ∧ Below w.heap.size w w' := by
  by_cases h1 : sd = 1
  · subst h1
    cases rtl
    · go_enter Tryz.func218, Tryz.ntmps218
      go_wp2
      go_region
      all_goals go_wp2
      all_goals (try go_wp2)
      all_goals (refine bodyPost_ret (v := .agg #[.int .i64 (sideC s 1 false).kind, .int .i64 (sideC s 1 false).n]) (by simp [results, Tryz.results218, go_sem, sideC, *]) rfl ?_)
      all_goals exact ⟨rfl, by repeat (first | (with_reducible exact ext_refl _) | (with_reducible assumption) | (with_reducible refine Below.setCell ?_ (by first | omega | (simp; done) | (simp; omega)) _) | (with_reducible refine below_drewN ?_ _) | (with_reducible refine Below.drew ?_) | (with_reducible refine ext_trans ?_ (by with_reducible assumption)) | (with_reducible refine ext_trans ?_ (ext_alloc _ _)))⟩
    · go_enter Tryz.func218, Tryz.ntmps218
      go_wp2
      go_region
      all_goals go_wp2
      all_goals (try go_wp2)
      all_goals (refine bodyPost_ret (v := .agg #[.int .i64 (sideC s 1 true).kind, .int .i64 (sideC s 1 true).n]) (by simp [results, Tryz.results218, go_sem, sideC, *]) rfl ?_)
      all_goals exact ⟨rfl, by repeat (first | (with_reducible exact ext_refl _) | (with_reducible assumption) | (with_reducible refine Below.setCell ?_ (by first | omega | (simp; done) | (simp; omega)) _) | (with_reducible refine below_drewN ?_ _) | (with_reducible refine Below.drew ?_) | (with_reducible refine ext_trans ?_ (by with_reducible assumption)) | (with_reducible refine ext_trans ?_ (ext_alloc _ _)))⟩
  by_cases h3 : sd = 3
  · subst h3
    cases rtl
    · go_enter Tryz.func218, Tryz.ntmps218
      go_wp2
      go_region
      all_goals go_wp2
      all_goals (try go_wp2)
      all_goals (refine bodyPost_ret (v := .agg #[.int .i64 (sideC s 3 false).kind, .int .i64 (sideC s 3 false).n]) (by simp [results, Tryz.results218, go_sem, sideC, *]) rfl ?_)
      all_goals exact ⟨rfl, by repeat (first | (with_reducible exact ext_refl _) | (with_reducible assumption) | (with_reducible refine Below.setCell ?_ (by first | omega | (simp; done) | (simp; omega)) _) | (with_reducible refine below_drewN ?_ _) | (with_reducible refine Below.drew ?_) | (with_reducible refine ext_trans ?_ (by with_reducible assumption)) | (with_reducible refine ext_trans ?_ (ext_alloc _ _)))⟩
    · go_enter Tryz.func218, Tryz.ntmps218
      go_wp2
      go_region
      all_goals go_wp2
      all_goals (try go_wp2)
      all_goals (refine bodyPost_ret (v := .agg #[.int .i64 (sideC s 3 true).kind, .int .i64 (sideC s 3 true).n]) (by simp [results, Tryz.results218, go_sem, sideC, *]) rfl ?_)
      all_goals exact ⟨rfl, by repeat (first | (with_reducible exact ext_refl _) | (with_reducible assumption) | (with_reducible refine Below.setCell ?_ (by first | omega | (simp; done) | (simp; omega)) _) | (with_reducible refine below_drewN ?_ _) | (with_reducible refine Below.drew ?_) | (with_reducible refine ext_trans ?_ (by with_reducible assumption)) | (with_reducible refine ext_trans ?_ (ext_alloc _ _)))⟩
  by_cases h0 : sd = 0
  · subst h0
    cases rtl
    · by_cases hk : s.start.kind = 0
      · go_enter Tryz.func218, Tryz.ntmps218
        go_wp2
        go_region
        all_goals go_wp2
        all_goals (try go_wp2)
        all_goals (refine bodyPost_ret (v := .agg #[.int .i64 (sideC s 0 false).kind, .int .i64 (sideC s 0 false).n]) (by simp [results, Tryz.results218, go_sem, sideC, *]) rfl ?_)
        all_goals exact ⟨rfl, by repeat (first | (with_reducible exact ext_refl _) | (with_reducible assumption) | (with_reducible refine Below.setCell ?_ (by first | omega | (simp; done) | (simp; omega)) _) | (with_reducible refine below_drewN ?_ _) | (with_reducible refine Below.drew ?_) | (with_reducible refine ext_trans ?_ (by with_reducible assumption)) | (with_reducible refine ext_trans ?_ (ext_alloc _ _)))⟩
      · go_enter Tryz.func218, Tryz.ntmps218
        go_wp2
        go_region
        all_goals go_wp2
        all_goals (try go_wp2)
        all_goals (refine bodyPost_ret (v := .agg #[.int .i64 (sideC s 0 false).kind, .int .i64 (sideC s 0 false).n]) (by simp [results, Tryz.results218, go_sem, sideC, *]) rfl ?_)
        all_goals exact ⟨rfl, by repeat (first | (with_reducible exact ext_refl _) | (with_reducible assumption) | (with_reducible refine Below.setCell ?_ (by first | omega | (simp; done) | (simp; omega)) _) | (with_reducible refine below_drewN ?_ _) | (with_reducible refine Below.drew ?_) | (with_reducible refine ext_trans ?_ (by with_reducible assumption)) | (with_reducible refine ext_trans ?_ (ext_alloc _ _)))⟩
    · by_cases hk : s.fin.kind = 0
      · go_enter Tryz.func218, Tryz.ntmps218
        go_wp2
        go_region
        all_goals go_wp2
        all_goals (try go_wp2)
        all_goals (refine bodyPost_ret (v := .agg #[.int .i64 (sideC s 0 true).kind, .int .i64 (sideC s 0 true).n]) (by simp [results, Tryz.results218, go_sem, sideC, *]) rfl ?_)
        all_goals exact ⟨rfl, by repeat (first | (with_reducible exact ext_refl _) | (with_reducible assumption) | (with_reducible refine Below.setCell ?_ (by first | omega | (simp; done) | (simp; omega)) _) | (with_reducible refine below_drewN ?_ _) | (with_reducible refine Below.drew ?_) | (with_reducible refine ext_trans ?_ (by with_reducible assumption)) | (with_reducible refine ext_trans ?_ (ext_alloc _ _)))⟩
      · go_enter Tryz.func218, Tryz.ntmps218
        go_wp2
        go_region
        all_goals go_wp2
        all_goals (try go_wp2)
        all_goals (refine bodyPost_ret (v := .agg #[.int .i64 (sideC s 0 true).kind, .int .i64 (sideC s 0 true).n]) (by simp [results, Tryz.results218, go_sem, sideC, *]) rfl ?_)
        all_goals exact ⟨rfl, by repeat (first | (with_reducible exact ext_refl _) | (with_reducible assumption) | (with_reducible refine Below.setCell ?_ (by first | omega | (simp; done) | (simp; omega)) _) | (with_reducible refine below_drewN ?_ _) | (with_reducible refine Below.drew ?_) | (with_reducible refine ext_trans ?_ (by with_reducible assumption)) | (with_reducible refine ext_trans ?_ (ext_alloc _ _)))⟩
  by_cases h2 : sd = 2
  · subst h2
    cases rtl
    · by_cases hk : s.fin.kind = 0
      · go_enter Tryz.func218, Tryz.ntmps218
        go_wp2
        go_region
        all_goals go_wp2
        all_goals (try go_wp2)
        all_goals (refine bodyPost_ret (v := .agg #[.int .i64 (sideC s 2 false).kind, .int .i64 (sideC s 2 false).n]) (by simp [results, Tryz.results218, go_sem, sideC, *]) rfl ?_)
        all_goals exact ⟨rfl, by repeat (first | (with_reducible exact ext_refl _) | (with_reducible assumption) | (with_reducible refine Below.setCell ?_ (by first | omega | (simp; done) | (simp; omega)) _) | (with_reducible refine below_drewN ?_ _) | (with_reducible refine Below.drew ?_) | (with_reducible refine ext_trans ?_ (by with_reducible assumption)) | (with_reducible refine ext_trans ?_ (ext_alloc _ _)))⟩
      · go_enter Tryz.func218, Tryz.ntmps218
        go_wp2
        go_region
        all_goals go_wp2
        all_goals (try go_wp2)
        all_goals (refine bodyPost_ret (v := .agg #[.int .i64 (sideC s 2 false).kind, .int .i64 (sideC s 2 false).n]) (by simp [results, Tryz.results218, go_sem, sideC, *]) rfl ?_)
        all_goals exact ⟨rfl, by repeat (first | (with_reducible exact ext_refl _) | (with_reducible assumption) | (with_reducible refine Below.setCell ?_ (by first | omega | (simp; done) | (simp; omega)) _) | (with_reducible refine below_drewN ?_ _) | (with_reducible refine Below.drew ?_) | (with_reducible refine ext_trans ?_ (by with_reducible assumption)) | (with_reducible refine ext_trans ?_ (ext_alloc _ _)))⟩
    · by_cases hk : s.start.kind = 0
      · go_enter Tryz.func218, Tryz.ntmps218
        go_wp2
        go_region
        all_goals go_wp2
        all_goals (try go_wp2)
        all_goals (refine bodyPost_ret (v := .agg #[.int .i64 (sideC s 2 true).kind, .int .i64 (sideC s 2 true).n]) (by simp [results, Tryz.results218, go_sem, sideC, *]) rfl ?_)
        all_goals exact ⟨rfl, by repeat (first | (with_reducible exact ext_refl _) | (with_reducible assumption) | (with_reducible refine Below.setCell ?_ (by first | omega | (simp; done) | (simp; omega)) _) | (with_reducible refine below_drewN ?_ _) | (with_reducible refine Below.drew ?_) | (with_reducible refine ext_trans ?_ (by with_reducible assumption)) | (with_reducible refine ext_trans ?_ (ext_alloc _ _)))⟩
      · go_enter Tryz.func218, Tryz.ntmps218
        go_wp2
        go_region
        all_goals go_wp2
        all_goals (try go_wp2)
        all_goals (refine bodyPost_ret (v := .agg #[.int .i64 (sideC s 2 true).kind, .int .i64 (sideC s 2 true).n]) (by simp [results, Tryz.results218, go_sem, sideC, *]) rfl ?_)
        all_goals exact ⟨rfl, by repeat (first | (with_reducible exact ext_refl _) | (with_reducible assumption) | (with_reducible refine Below.setCell ?_ (by first | omega | (simp; done) | (simp; omega)) _) | (with_reducible refine below_drewN ?_ _) | (with_reducible refine Below.drew ?_) | (with_reducible refine ext_trans ?_ (by with_reducible assumption)) | (with_reducible refine ext_trans ?_ (ext_alloc _ _)))⟩
  have g1 : (sd == 1) = false := by simpa using h1
  have g3 : (sd == 3) = false := by simpa using h3
  have g0 : (sd == 0) = false := by simpa using h0
  have g2 : (sd == 2) = false := by simpa using h2
  cases rtl
  · go_enter Tryz.func218, Tryz.ntmps218
    go_wp2
    go_region
    all_goals go_wp2
    all_goals (try go_wp2)
    all_goals (refine bodyPost_ret (v := .agg #[.int .i64 (sideC s sd false).kind, .int .i64 (sideC s sd false).n]) (by simp [results, Tryz.results218, go_sem, sideC, *]) rfl ?_)
    all_goals exact ⟨rfl, by repeat (first | (with_reducible exact ext_refl _) | (with_reducible assumption) | (with_reducible refine Below.setCell ?_ (by first | omega | (simp; done) | (simp; omega)) _) | (with_reducible refine below_drewN ?_ _) | (with_reducible refine Below.drew ?_) | (with_reducible refine ext_trans ?_ (by with_reducible assumption)) | (with_reducible refine ext_trans ?_ (ext_alloc _ _)))⟩
  · go_enter Tryz.func218, Tryz.ntmps218
    go_wp2
    go_region
    all_goals go_wp2
    all_goals (try go_wp2)
    all_goals (refine bodyPost_ret (v := .agg #[.int .i64 (sideC s sd true).kind, .int .i64 (sideC s sd true).n]) (by simp [results, Tryz.results218, go_sem, sideC, *]) rfl ?_)
    all_goals exact ⟨rfl, by repeat (first | (with_reducible exact ext_refl _) | (with_reducible assumption) | (with_reducible refine Below.setCell ?_ (by first | omega | (simp; done) | (simp; omega)) _) | (with_reducible refine below_drewN ?_ _) | (with_reducible refine Below.drew ?_) | (with_reducible refine ext_trans ?_ (by with_reducible assumption)) | (with_reducible refine ext_trans ?_ (ext_alloc _ _)))⟩

end Go.Proofs.YtdnnffbbhijmkaaGreat
