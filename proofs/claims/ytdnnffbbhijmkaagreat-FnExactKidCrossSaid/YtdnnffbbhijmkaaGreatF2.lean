/- Contracts of small functions of this seat's program: structs by value. -/
import Derived.Test.YtdnnffbbhijmkaaGreatF1
namespace Go.Proofs.YtdnnffbbhijmkaaGreat
open Go.ChangeShapes Go.WideShapes Go.ChangeAt Go.RowKit
set_option linter.unusedVariables false
set_option linter.unusedSimpArgs false
set_option maxRecDepth 100000

def onGrid (f : GFrame) (s : Int) : Bool := inB s 1 4096 && (f.x.tmod s == 0) && (f.y.tmod s == 0) && (f.wide.tmod s == 0) && (f.high.tmod s == 0)

def upperS (x : GItem) : Int := if 0 ≤ x.most ∧ x.most < x.least then x.least else x.most
def upperI (x : GItem) : Int := if x.most < x.least then x.least else x.most
def atBound (x : GItem) (s : Int) : Bool := (s == x.least) || (decide (0 ≤ x.most) && (s == upperI x))
theorem upper_same (x : GItem) (h : 0 ≤ x.most) : upperS x = upperI x := by unfold upperS upperI; (repeat' split) <;> omega

theorem spec_l13Most_c (x : GItem) (w : World) :
    Calls Tryz.prog 158 #[.agg #[.int .i64 x.base, .int .i64 x.least, .int .i64 x.most, .int .i64 x.grow, .int .i64 x.shrink, .int .i64 x.before, .int .i64 x.behind, .bool x.autoBefore, .bool x.autoBehind]] w fun e w' => e = .returned (.int .i64 (upperS x)) ∧ Below w.heap.size w w' := by
  go_enter Tryz.func158, Tryz.ntmps158
  go_wp2
  all_goals go_ret
  all_goals exact ⟨ret_int (by unfold upperS; (repeat' split) <;> omega), by repeat (first | (with_reducible exact ext_refl _) | (with_reducible assumption) | (with_reducible refine Below.setCell ?_ (by first | omega | (simp; done) | (simp; omega)) _) | (with_reducible refine below_drewN ?_ _) | (with_reducible refine Below.drew ?_) | (with_reducible refine ext_trans ?_ (by with_reducible assumption)) | (with_reducible refine ext_trans ?_ (ext_alloc _ _)))⟩

theorem impl_upper_c (x : GItem) (w : World) :
    Calls Tryz.prog 159 #[.agg #[.int .i64 x.base, .int .i64 x.least, .int .i64 x.most, .int .i64 x.grow, .int .i64 x.shrink, .int .i64 x.before, .int .i64 x.behind, .bool x.autoBefore, .bool x.autoBehind]] w fun e w' => e = .returned (.int .i64 (upperI x)) ∧ Below w.heap.size w w' := by
  go_enter Tryz.func159, Tryz.ntmps159
  go_wp2
  all_goals go_ret
  all_goals exact ⟨ret_int (by unfold upperI; (repeat' split) <;> omega), by repeat (first | (with_reducible exact ext_refl _) | (with_reducible assumption) | (with_reducible refine Below.setCell ?_ (by first | omega | (simp; done) | (simp; omega)) _) | (with_reducible refine below_drewN ?_ _) | (with_reducible refine Below.drew ?_) | (with_reducible refine ext_trans ?_ (by with_reducible assumption)) | (with_reducible refine ext_trans ?_ (ext_alloc _ _)))⟩

end Go.Proofs.YtdnnffbbhijmkaaGreat
