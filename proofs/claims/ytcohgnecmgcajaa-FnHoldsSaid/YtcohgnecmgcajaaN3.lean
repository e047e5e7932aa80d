/- Valid values, sides, styles. -/
import Derived.Test.YtcohgnecmgcajaaN2
namespace Go.Proofs.Ytcohgnecmgcajaa
open Go.ChangeShapes Go.WideShapes Go.ChangeAt Go.RowKit Am
set_option linter.unusedVariables false
set_option linter.unusedSimpArgs false
set_option maxRecDepth 100000

def rng (n l m : Int) : Bool := decide (l ≤ n) && decide (n ≤ m)
def vOk (v : GVal) : Bool := if v.kind = 0 ∨ v.kind = 3 then decide (v.n = 0) else if v.kind = 1 then rng v.n (-1048576) 1048576 else if v.kind = 2 then rng v.n (-1000) 1000 else false
def zOk (v : GVal) : Bool := vOk v && decide (0 ≤ v.n)
def sdOk (s : GSides) : Bool := vOk s.left && (vOk s.top && (vOk s.right && (vOk s.bottom && (vOk s.start && vOk s.fin))))
def edOk (e : GEdges) : Bool := rng e.left 0 1048576 && (rng e.top 0 1048576 && (rng e.right 0 1048576 && rng e.bottom 0 1048576))
def stV (s : GStyle) : List GVal := [s.basis, s.width, s.height, s.minWidth, s.minHeight, s.maxWidth, s.maxHeight]
def stN (s : GStyle) : Bool := rng s.dir 1 4 && (rng s.wrap 1 3 && (rng s.justify 1 6 && (rng s.items 1 5 && (rng s.self 0 5 && (rng s.content 1 6 && (rng s.order (-1000) 1000 && (rng s.grow 0 1000 && (rng s.shrink 0 1000 && (rng s.ratio 0 6400 && (rng s.rowGap 0 1048576 && rng s.colGap 0 1048576))))))))))
def stOk (s : GStyle) : Bool := stN s && ((stV s).all zOk && (sdOk s.margin && (sdOk s.inset && (edOk s.pad && edOk s.border))))
theorem spec_l01In_r (n l m : Int) : PCon Try.prog 59 [ai n, ai l, ai m] fun res rows => res = .t (abl (rng n l m)) ∧ rows = [] := spec_l01In_a n l m
theorem impl_in_r (n l m : Int) : PCon Try.prog 51 [ai n, ai l, ai m] fun res rows => res = .t (abl (rng n l m)) ∧ rows = [] := impl_in_a n l m

end Go.Proofs.Ytcohgnecmgcajaa
