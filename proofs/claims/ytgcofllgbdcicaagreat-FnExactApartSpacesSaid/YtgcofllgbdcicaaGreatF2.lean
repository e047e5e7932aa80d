/- Contracts of small functions of this seat's program: structs by value. -/
import Derived.Test.YtgcofllgbdcicaaGreatF1
namespace Go.Proofs.YtgcofllgbdcicaaGreat
open Go.ChangeShapes Go.WideShapes Go.ChangeAt Go.RowKit
set_option linter.unusedVariables false
set_option linter.unusedSimpArgs false
set_option maxRecDepth 100000

def onGrid (f : GFrame) (s : Int) : Bool := inB s 1 4096 && (f.x.tmod s == 0) && (f.y.tmod s == 0) && (f.wide.tmod s == 0) && (f.high.tmod s == 0)

def upperS (x : GItem) : Int := if 0 ≤ x.most ∧ x.most < x.least then x.least else x.most
def upperI (x : GItem) : Int := if x.most < x.least then x.least else x.most
def atBound (x : GItem) (s : Int) : Bool := (s == x.least) || (decide (0 ≤ x.most) && (s == upperI x))
theorem upper_same (x : GItem) (h : 0 ≤ x.most) : upperS x = upperI x := by unfold upperS upperI; (repeat' split) <;> omega

end Go.Proofs.YtgcofllgbdcicaaGreat
