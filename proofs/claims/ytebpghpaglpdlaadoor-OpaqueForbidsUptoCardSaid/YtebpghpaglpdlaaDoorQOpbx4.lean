/- What these functions of the program compute, and that they compute it: printed by wip/tools/orac.py over the kit's print.py. -/
import Derived.Test.YtebpghpaglpdlaaDoorQOpbx0
namespace Go.Proofs.YtebpghpaglpdlaaDoorQ.Opb
open Go.RowKit Go.Proofs.YtebpghpaglpdlaaDoorW.PrintWords Go.Proofs.YtebpghpaglpdlaaDoorW.PrintLast Go.Proofs.YtebpghpaglpdlaaDoorW.PrintMore
attribute [local go_sem] Go.IntKind.wrap_u8
attribute [local go_sem] max2_int min2_int max_two min_two max_three min_three max_four min_four   -- for this text's walks alone
set_option linter.unusedVariables false
set_option linter.unusedSimpArgs false

/-! ### posternref22_Host: function 15, by a contract of this repo -/
section
open Go.Proofs.YtebpghpaglpdlaaDoor
def posternref22_Host.f (a0 : Int) : Option Bool := some (forb a0)
theorem posternref22_Host.calls (a0 : Int) (r : Bool) (w : World) (h : posternref22_Host.f a0 = some r) :
    Calls Tryd.prog 15 #[.int .i32 a0] w fun e w' => e = .returned (.bool r) ∧ Below w.heap.size w w' := by
  obtain rfl := Option.some.inj h
  exact RHost_any a0 w
end
end Go.Proofs.YtebpghpaglpdlaaDoorQ.Opb
