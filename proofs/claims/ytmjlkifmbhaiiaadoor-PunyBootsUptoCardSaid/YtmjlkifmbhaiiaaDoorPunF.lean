/- Puny: fields of a boot that a call gives. -/
import Derived.Test.YtmjlkifmbhaiiaaDoorBas
set_option linter.unusedVariables false
namespace Go.Proofs.YtmjlkifmbhaiiaaDoor
open Go.RowKit
theorem Ye (a0 a1 a2 a3 a4 a5 a6 a7 : Int) (W : World) : (Instr.field 48 (.agg #[.int .i64 a0,.int .i64 a1,.int .i64 a2,.int .i64 a3,.int .i64 a4,.int .i64 a5,.int .i64 a6,.int .u8 a7]) 0).run Tryd.prog W=.ok (.int .i64 a0) W:=by rfl
end Go.Proofs.YtmjlkifmbhaiiaaDoor
