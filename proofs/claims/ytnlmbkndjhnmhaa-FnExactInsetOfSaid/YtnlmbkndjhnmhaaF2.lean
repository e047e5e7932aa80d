/- Contracts of small functions of this seat's program: structs by value. -/
import Derived.Test.YtnlmbkndjhnmhaaF1
namespace Go.Proofs.Ytnlmbkndjhnmhaa
open Go.ChangeShapes Go.WideShapes Go.ChangeAt Go.RowKit
set_option linter.unusedVariables false
set_option linter.unusedSimpArgs false
set_option maxRecDepth 100000

theorem laws_toFrame_c (f : GFrame) (w : World) :
    Calls Try.prog 41 #[.agg #[.int .i64 f.node, .int .i64 f.x, .int .i64 f.y, .int .i64 f.wide, .int .i64 f.high]] w fun e w' => e = .returned (.agg #[.int .i64 f.node, .int .i64 f.x, .int .i64 f.y, .int .i64 f.wide, .int .i64 f.high]) ∧ Below w.heap.size w w' := by
  go_enter Try.func41, Try.ntmps41
  go_wp2
  refine bodyPost_ret (v := .agg #[.int .i64 f.node, .int .i64 f.x, .int .i64 f.y, .int .i64 f.wide, .int .i64 f.high]) (by simp [results, Try.results41, go_sem]) rfl ⟨rfl, by repeat (first | (with_reducible exact ext_refl _) | (with_reducible assumption) | (with_reducible refine Below.setCell ?_ (by first | omega | (simp; done) | (simp; omega)) _) | (with_reducible refine below_drewN ?_ _) | (with_reducible refine Below.drew ?_) | (with_reducible refine ext_trans ?_ (by with_reducible assumption)) | (with_reducible refine ext_trans ?_ (ext_alloc _ _)))⟩

theorem laws_toItem_c (f : GItem) (w : World) :
    Calls Try.prog 73 #[.agg #[.int .i64 f.base, .int .i64 f.least, .int .i64 f.most, .int .i64 f.grow, .int .i64 f.shrink, .int .i64 f.before, .int .i64 f.behind, .bool f.autoBefore, .bool f.autoBehind]] w fun e w' => e = .returned (.agg #[.int .i64 f.base, .int .i64 f.least, .int .i64 f.most, .int .i64 f.grow, .int .i64 f.shrink, .int .i64 f.before, .int .i64 f.behind, .bool f.autoBefore, .bool f.autoBehind]) ∧ Below w.heap.size w w' := by
  go_enter Try.func73, Try.ntmps73
  go_wp2
  refine bodyPost_ret (v := .agg #[.int .i64 f.base, .int .i64 f.least, .int .i64 f.most, .int .i64 f.grow, .int .i64 f.shrink, .int .i64 f.before, .int .i64 f.behind, .bool f.autoBefore, .bool f.autoBehind]) (by simp [results, Try.results73, go_sem]) rfl ⟨rfl, by repeat (first | (with_reducible exact ext_refl _) | (with_reducible assumption) | (with_reducible refine Below.setCell ?_ (by first | omega | (simp; done) | (simp; omega)) _) | (with_reducible refine below_drewN ?_ _) | (with_reducible refine Below.drew ?_) | (with_reducible refine ext_trans ?_ (by with_reducible assumption)) | (with_reducible refine ext_trans ?_ (ext_alloc _ _)))⟩

def onGrid (f : GFrame) (s : Int) : Bool := inB s 1 4096 && (f.x.tmod s == 0) && (f.y.tmod s == 0) && (f.wide.tmod s == 0) && (f.high.tmod s == 0)

def upperS (x : GItem) : Int := if 0 ≤ x.most ∧ x.most < x.least then x.least else x.most
def upperI (x : GItem) : Int := if x.most < x.least then x.least else x.most
def atBound (x : GItem) (s : Int) : Bool := (s == x.least) || (decide (0 ≤ x.most) && (s == upperI x))
theorem upper_same (x : GItem) (h : 0 ≤ x.most) : upperS x = upperI x := by unfold upperS upperI; (repeat' split) <;> omega

theorem spec_l13Most_c (x : GItem) (w : World) :
    Calls Try.prog 141 #[.agg #[.int .i64 x.base, .int .i64 x.least, .int .i64 x.most, .int .i64 x.grow, .int .i64 x.shrink, .int .i64 x.before, .int .i64 x.behind, .bool x.autoBefore, .bool x.autoBehind]] w fun e w' => e = .returned (.int .i64 (upperS x)) ∧ Below w.heap.size w w' := by
  go_enter Try.func141, Try.ntmps141
  go_wp2
  all_goals go_ret
  all_goals exact ⟨ret_int (by unfold upperS; (repeat' split) <;> omega), by repeat (first | (with_reducible exact ext_refl _) | (with_reducible assumption) | (with_reducible refine Below.setCell ?_ (by first | omega | (simp; done) | (simp; omega)) _) | (with_reducible refine below_drewN ?_ _) | (with_reducible refine Below.drew ?_) | (with_reducible refine ext_trans ?_ (by with_reducible assumption)) | (with_reducible refine ext_trans ?_ (ext_alloc _ _)))⟩

theorem impl_upper_c (x : GItem) (w : World) :
    Calls Try.prog 144 #[.agg #[.int .i64 x.base, .int .i64 x.least, .int .i64 x.most, .int .i64 x.grow, .int .i64 x.shrink, .int .i64 x.before, .int .i64 x.behind, .bool x.autoBefore, .bool x.autoBehind]] w fun e w' => e = .returned (.int .i64 (upperI x)) ∧ Below w.heap.size w w' := by
  go_enter Try.func144, Try.ntmps144
  go_wp2
  all_goals go_ret
  all_goals exact ⟨ret_int (by unfold upperI; (repeat' split) <;> omega), by repeat (first | (with_reducible exact ext_refl _) | (with_reducible assumption) | (with_reducible refine Below.setCell ?_ (by first | omega | (simp; done) | (simp; omega)) _) | (with_reducible refine below_drewN ?_ _) | (with_reducible refine Below.drew ?_) | (with_reducible refine ext_trans ?_ (by with_reducible assumption)) | (with_reducible refine ext_trans ?_ (ext_alloc _ _)))⟩

theorem impl_AtBound_c (x : GItem) (s : Int) (w : World) :
    Calls Try.prog 110 #[.agg #[.int .i64 x.base, .int .i64 x.least, .int .i64 x.most, .int .i64 x.grow, .int .i64 x.shrink, .int .i64 x.before, .int .i64 x.behind, .bool x.autoBefore, .bool x.autoBehind], .int .i64 s] w fun e w' => e = .returned (.bool (atBound x s)) ∧ Below w.heap.size w w' := by
  by_cases h1 : s = x.least
  · have H1 := Lib.hid h1
    have h1 : (s == x.least) = true := by simp [h1]
    go_enter Try.func110, Try.ntmps110
    go_wp2_with (go_at_call 144; refine (impl_upper_c _ _).mono ?_; rintro e w' ⟨rfl, hb⟩; (first | ((with_reducible replace hE := ext_trans hE hb); clear hc hf hl hz) | (have hE := hb)); clear hb; obtain ⟨hc, hf, hl, hz⟩ := keep hE; (try simp only [World.size_alloc, World.size_setCell, World.size_drew] at hz); (try have hl0 := hl w.heap.size (by first | (simp; done) | (simp; omega))); (try have hl1 := hl (w.heap.size + 1) (by first | (simp; done) | (simp; omega))); (try have hl2 := hl (w.heap.size + 1 + 1) (by first | (simp; done) | (simp; omega))); (try have hl3 := hl (w.heap.size + 1 + 1 + 1) (by first | (simp; done) | (simp; omega))))
    all_goals go_ret
    all_goals exact ⟨ret_bool (by simp [atBound, *]), by repeat (first | (with_reducible exact ext_refl _) | (with_reducible assumption) | (with_reducible refine Below.setCell ?_ (by first | omega | (simp; done) | (simp; omega)) _) | (with_reducible refine below_drewN ?_ _) | (with_reducible refine Below.drew ?_) | (with_reducible refine ext_trans ?_ (by with_reducible assumption)) | (with_reducible refine ext_trans ?_ (ext_alloc _ _)))⟩
  · have H1 := Lib.hid h1
    have h1 : (s == x.least) = false := by simp [h1]
    by_cases h2 : 0 ≤ x.most
    · have e1 := upper_same x h2
      have E1 := Lib.hid e1
      have h2' : decide (0 ≤ x.most) = true := by simp [h2]
      clear e1
      go_enter Try.func110, Try.ntmps110
      go_wp2_with (go_at_call 144; refine (impl_upper_c _ _).mono ?_; rintro e w' ⟨rfl, hb⟩; (first | ((with_reducible replace hE := ext_trans hE hb); clear hc hf hl hz) | (have hE := hb)); clear hb; obtain ⟨hc, hf, hl, hz⟩ := keep hE; (try simp only [World.size_alloc, World.size_setCell, World.size_drew] at hz); (try have hl0 := hl w.heap.size (by first | (simp; done) | (simp; omega))); (try have hl1 := hl (w.heap.size + 1) (by first | (simp; done) | (simp; omega))); (try have hl2 := hl (w.heap.size + 1 + 1) (by first | (simp; done) | (simp; omega))); (try have hl3 := hl (w.heap.size + 1 + 1 + 1) (by first | (simp; done) | (simp; omega))))
      all_goals go_ret
      all_goals exact ⟨ret_bool (by simp only [atBound, h1, h2', Bool.false_or, Bool.true_and, E1.out]), by repeat (first | (with_reducible exact ext_refl _) | (with_reducible assumption) | (with_reducible refine Below.setCell ?_ (by first | omega | (simp; done) | (simp; omega)) _) | (with_reducible refine below_drewN ?_ _) | (with_reducible refine Below.drew ?_) | (with_reducible refine ext_trans ?_ (by with_reducible assumption)) | (with_reducible refine ext_trans ?_ (ext_alloc _ _)))⟩
    · have h2' : decide (0 ≤ x.most) = false := by simp [h2]
      go_enter Try.func110, Try.ntmps110
      go_wp2_with (go_at_call 144; refine (impl_upper_c _ _).mono ?_; rintro e w' ⟨rfl, hb⟩; (first | ((with_reducible replace hE := ext_trans hE hb); clear hc hf hl hz) | (have hE := hb)); clear hb; obtain ⟨hc, hf, hl, hz⟩ := keep hE; (try simp only [World.size_alloc, World.size_setCell, World.size_drew] at hz); (try have hl0 := hl w.heap.size (by first | (simp; done) | (simp; omega))); (try have hl1 := hl (w.heap.size + 1) (by first | (simp; done) | (simp; omega))); (try have hl2 := hl (w.heap.size + 1 + 1) (by first | (simp; done) | (simp; omega))); (try have hl3 := hl (w.heap.size + 1 + 1 + 1) (by first | (simp; done) | (simp; omega))))
      all_goals go_ret
      all_goals exact ⟨ret_bool (by simp only [atBound, h1, h2', Bool.false_or, Bool.false_and]), by repeat (first | (with_reducible exact ext_refl _) | (with_reducible assumption) | (with_reducible refine Below.setCell ?_ (by first | omega | (simp; done) | (simp; omega)) _) | (with_reducible refine below_drewN ?_ _) | (with_reducible refine Below.drew ?_) | (with_reducible refine ext_trans ?_ (by with_reducible assumption)) | (with_reducible refine ext_trans ?_ (ext_alloc _ _)))⟩

theorem spec_AtBound_c (x : GItem) (s : Int) (w : World) :
    Calls Try.prog 106 #[.agg #[.int .i64 x.base, .int .i64 x.least, .int .i64 x.most, .int .i64 x.grow, .int .i64 x.shrink, .int .i64 x.before, .int .i64 x.behind, .bool x.autoBefore, .bool x.autoBehind], .int .i64 s] w fun e w' => e = .returned (.bool (atBound x s)) ∧ Below w.heap.size w w' := by
  by_cases h1 : s = x.least
  · have H1 := Lib.hid h1
    have h1 : (s == x.least) = true := by simp [h1]
    go_enter Try.func106, Try.ntmps106
    go_wp2_with (go_at_call 141; refine (spec_l13Most_c _ _).mono ?_; rintro e w' ⟨rfl, hb⟩; (first | ((with_reducible replace hE := ext_trans hE hb); clear hc hf hl hz) | (have hE := hb)); clear hb; obtain ⟨hc, hf, hl, hz⟩ := keep hE; (try simp only [World.size_alloc, World.size_setCell, World.size_drew] at hz); (try have hl0 := hl w.heap.size (by first | (simp; done) | (simp; omega))); (try have hl1 := hl (w.heap.size + 1) (by first | (simp; done) | (simp; omega))); (try have hl2 := hl (w.heap.size + 1 + 1) (by first | (simp; done) | (simp; omega))); (try have hl3 := hl (w.heap.size + 1 + 1 + 1) (by first | (simp; done) | (simp; omega))))
    all_goals go_ret
    all_goals exact ⟨ret_bool (by simp [atBound, *]), by repeat (first | (with_reducible exact ext_refl _) | (with_reducible assumption) | (with_reducible refine Below.setCell ?_ (by first | omega | (simp; done) | (simp; omega)) _) | (with_reducible refine below_drewN ?_ _) | (with_reducible refine Below.drew ?_) | (with_reducible refine ext_trans ?_ (by with_reducible assumption)) | (with_reducible refine ext_trans ?_ (ext_alloc _ _)))⟩
  · have H1 := Lib.hid h1
    have h1 : (s == x.least) = false := by simp [h1]
    by_cases h2 : 0 ≤ x.most
    · have e1 := upper_same x h2
      have E1 := Lib.hid e1
      have h2' : decide (0 ≤ x.most) = true := by simp [h2]
      clear e1
      go_enter Try.func106, Try.ntmps106
      go_wp2_with (go_at_call 141; refine (spec_l13Most_c _ _).mono ?_; rintro e w' ⟨rfl, hb⟩; (first | ((with_reducible replace hE := ext_trans hE hb); clear hc hf hl hz) | (have hE := hb)); clear hb; obtain ⟨hc, hf, hl, hz⟩ := keep hE; (try simp only [World.size_alloc, World.size_setCell, World.size_drew] at hz); (try have hl0 := hl w.heap.size (by first | (simp; done) | (simp; omega))); (try have hl1 := hl (w.heap.size + 1) (by first | (simp; done) | (simp; omega))); (try have hl2 := hl (w.heap.size + 1 + 1) (by first | (simp; done) | (simp; omega))); (try have hl3 := hl (w.heap.size + 1 + 1 + 1) (by first | (simp; done) | (simp; omega))))
      all_goals go_ret
      all_goals exact ⟨ret_bool (by simp only [atBound, h1, h2', Bool.false_or, Bool.true_and, E1.out]), by repeat (first | (with_reducible exact ext_refl _) | (with_reducible assumption) | (with_reducible refine Below.setCell ?_ (by first | omega | (simp; done) | (simp; omega)) _) | (with_reducible refine below_drewN ?_ _) | (with_reducible refine Below.drew ?_) | (with_reducible refine ext_trans ?_ (by with_reducible assumption)) | (with_reducible refine ext_trans ?_ (ext_alloc _ _)))⟩
    · have h2' : decide (0 ≤ x.most) = false := by simp [h2]
      go_enter Try.func106, Try.ntmps106
      go_wp2_with (go_at_call 141; refine (spec_l13Most_c _ _).mono ?_; rintro e w' ⟨rfl, hb⟩; (first | ((with_reducible replace hE := ext_trans hE hb); clear hc hf hl hz) | (have hE := hb)); clear hb; obtain ⟨hc, hf, hl, hz⟩ := keep hE; (try simp only [World.size_alloc, World.size_setCell, World.size_drew] at hz); (try have hl0 := hl w.heap.size (by first | (simp; done) | (simp; omega))); (try have hl1 := hl (w.heap.size + 1) (by first | (simp; done) | (simp; omega))); (try have hl2 := hl (w.heap.size + 1 + 1) (by first | (simp; done) | (simp; omega))); (try have hl3 := hl (w.heap.size + 1 + 1 + 1) (by first | (simp; done) | (simp; omega))))
      all_goals go_ret
      all_goals exact ⟨ret_bool (by simp only [atBound, h1, h2', Bool.false_or, Bool.false_and]), by repeat (first | (with_reducible exact ext_refl _) | (with_reducible assumption) | (with_reducible refine Below.setCell ?_ (by first | omega | (simp; done) | (simp; omega)) _) | (with_reducible refine below_drewN ?_ _) | (with_reducible refine Below.drew ?_) | (with_reducible refine ext_trans ?_ (by with_reducible assumption)) | (with_reducible refine ext_trans ?_ (ext_alloc _ _)))⟩

end Go.Proofs.Ytnlmbkndjhnmhaa
