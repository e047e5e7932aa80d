/- The laws' copies and comparisons of structs that hold slices. -/
import Derived.Test.YtacngamcjgkjkaaN1
namespace Go.Proofs.Ytacngamcjgkjkaa
open Go.ChangeShapes Go.WideShapes Go.ChangeAt Go.RowKit Am
set_option linter.unusedVariables false
set_option linter.unusedSimpArgs false
set_option maxRecDepth 100000


end Go.Proofs.Ytacngamcjgkjkaa
