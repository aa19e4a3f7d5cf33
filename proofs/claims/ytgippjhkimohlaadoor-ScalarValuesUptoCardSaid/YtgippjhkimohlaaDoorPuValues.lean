/- ScalarValues: what is left when the program is gone; the walk. -/
import Derived.Test.YtgippjhkimohlaaDoorPuB
import Derived.Test.YtgippjhkimohlaaDoorQScax2
set_option linter.unusedVariables false
set_option linter.unusedSimpArgs false
namespace Go.Proofs.YtgippjhkimohlaaDoor
open Go.RowKit Go.Proofs.YtgippjhkimohlaaDoorW.PrintWords Go.Proofs.YtgippjhkimohlaaDoorQ.Sca
theorem scalarValues_any (r : Int) (w : World) (T : Tabs w) : Calls Tryd.prog 6 #[.int .i32 r] w fun e w' => e = .returned (.bool true) ∧ Below w.heap.size w w' := by
  refine posternlaw02_ScalarValues.calls 1 r true w ?_ T
  unfold posternlaw02_ScalarValues.f posternlaw02_awake.f
  simp [Scalar_is, RScalar_is, Width_is, RWidth_is]
end Go.Proofs.YtgippjhkimohlaaDoor
