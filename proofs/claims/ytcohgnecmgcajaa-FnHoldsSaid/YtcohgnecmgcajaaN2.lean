/- The laws' copies and comparisons of structs that hold slices. -/
import Derived.Test.YtcohgnecmgcajaaN1
namespace Go.Proofs.Ytcohgnecmgcajaa
open Go.ChangeShapes Go.WideShapes Go.ChangeAt Go.RowKit Am
set_option linter.unusedVariables false
set_option linter.unusedSimpArgs false
set_option maxRecDepth 100000


end Go.Proofs.Ytcohgnecmgcajaa
