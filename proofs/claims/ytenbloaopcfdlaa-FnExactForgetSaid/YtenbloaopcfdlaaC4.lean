/- Sides, styles and bounds, as maps of data. -/
import Derived.Test.YtenbloaopcfdlaaC3
namespace Go.Proofs.Ytenbloaopcfdlaa
open Go.ChangeShapes Go.WideShapes Go.ChangeAt Go.RowKit Am
set_option linter.unusedVariables false
set_option linter.unusedSimpArgs false
set_option maxRecDepth 100000

abbrev agV (v : GVal) : AT := .agg [.imm (.int .i64 v.kind), .imm (.int .i64 v.n)]
abbrev agP (v : GSpace) : AT := .agg [.imm (.int .i64 v.mode), .imm (.int .i64 v.n)]
abbrev agE (e : GEdges) : AT := .agg [.imm (.int .i64 e.left), .imm (.int .i64 e.top), .imm (.int .i64 e.right), .imm (.int .i64 e.bottom)]

end Go.Proofs.Ytenbloaopcfdlaa
