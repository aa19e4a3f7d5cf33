/- What these functions of the program compute, and that they compute it: printed by wip/tools/orac.py over the kit's print.py; merged. -/
import Derived.Test.YtfbgmlophkbejaaDoorQPfax0
import Derived.Test.YtfbgmlophkbejaaDoorQPfax1
section
namespace Go.Proofs.YtfbgmlophkbejaaDoorQ.Pfa
open Go.RowKit Go.Proofs.YtfbgmlophkbejaaDoorW.PrintWords Go.Proofs.YtfbgmlophkbejaaDoorW.PrintLast Go.Proofs.YtfbgmlophkbejaaDoorW.PrintMore
attribute [local go_sem] max2_int min2_int max_two min_two max_three min_three max_four min_four   -- for this text's walks alone
set_option linter.unusedVariables false
set_option linter.unusedSimpArgs false
end Go.Proofs.YtfbgmlophkbejaaDoorQ.Pfa
end
section
namespace Go.Proofs.YtfbgmlophkbejaaDoorQ.Pfa
open Go.RowKit Go.Proofs.YtfbgmlophkbejaaDoorW.PrintWords Go.Proofs.YtfbgmlophkbejaaDoorW.PrintLast Go.Proofs.YtfbgmlophkbejaaDoorW.PrintMore
attribute [local go_sem] max2_int min2_int max_two min_two max_three min_three max_four min_four   -- for this text's walks alone
set_option linter.unusedVariables false
set_option linter.unusedSimpArgs false
end Go.Proofs.YtfbgmlophkbejaaDoorQ.Pfa
end
section
namespace Go.Proofs.YtfbgmlophkbejaaDoorQ.Pfa
open Go.RowKit Go.Proofs.YtfbgmlophkbejaaDoorW.PrintWords Go.Proofs.YtfbgmlophkbejaaDoorW.PrintLast Go.Proofs.YtfbgmlophkbejaaDoorW.PrintMore
attribute [local go_sem] max2_int min2_int max_two min_two max_three min_three max_four min_four   -- for this text's walks alone
set_option linter.unusedVariables false
set_option linter.unusedSimpArgs false
/-! ### strings_Split: function 62,by a contract of this repo -/
section
open Go.Proofs.YtfbgmlophkbejaaDoor
end
/-! ### strings_Cut: function 88,by a contract of this repo -/
section
open Go.Proofs.YtfbgmlophkbejaaDoor
end
/-! ### percent_FormDecode: function 12,by a contract of this repo -/
section
open Go.Proofs.YtfbgmlophkbejaaDoor
end
/-! ### scalar_Clean: function 108,by a contract of this repo -/
section
open Go.Proofs.YtfbgmlophkbejaaDoor
end
end Go.Proofs.YtfbgmlophkbejaaDoorQ.Pfa
end
