/- What these functions of the program compute, and that they compute it: printed by wip/tools/orac.py over the kit's print.py. -/
import Derived.Test.YtgippjhkimohlaaDoorQScalarAtx0
import Derived.Test.YtgippjhkimohlaaDoorQScalarAtx1
import Derived.Test.YtgippjhkimohlaaDoorQScalarAtx2
namespace Go.Proofs.YtgippjhkimohlaaDoorQ.ScalarAt
open Go.RowKit Go.Proofs.YtgippjhkimohlaaDoorW.PrintWords Go.Proofs.YtgippjhkimohlaaDoorW.PrintLast Go.Proofs.YtgippjhkimohlaaDoorW.PrintMore
attribute [local go_sem] max2_int min2_int max_two min_two max_three min_three max_four min_four   -- for this text's walks alone
set_option linter.unusedVariables false
set_option linter.unusedSimpArgs false

end Go.Proofs.YtgippjhkimohlaaDoorQ.ScalarAt
