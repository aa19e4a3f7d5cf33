/- What these functions of the program compute, and that they compute it: printed by wip/tools/orac.py over the kit's print.py. -/
import Derived.Test.YtebpghpaglpdlaaDoorQOpbx0
namespace Go.Proofs.YtebpghpaglpdlaaDoorQ.Opb
open Go.RowKit Go.Proofs.YtebpghpaglpdlaaDoorW.PrintWords Go.Proofs.YtebpghpaglpdlaaDoorW.PrintLast Go.Proofs.YtebpghpaglpdlaaDoorW.PrintMore
attribute [local go_sem] Go.IntKind.wrap_u8
attribute [local go_sem] max2_int min2_int max_two min_two max_three min_three max_four min_four   -- for this text's walks alone
set_option linter.unusedVariables false
set_option linter.unusedSimpArgs false

/-! ### opaque_First: function 18, by a contract of this repo -/
section
open Go.Proofs.YtebpghpaglpdlaaDoor
def opaque_First.f (l0 : List Int) (a1 : Bool) : Option Int := if l0.length ≤ 1000000000000 then some (if a1 = true then fixF (fun r => inT r 10) l0 0 else fixF (fun r => inT r 9) l0 0) else none
theorem opaque_First.calls (A0 : Option Addr) (c0 : Nat) (l0 : List Int) (a1 : Bool) (r : Int) (w : World) (hr0 : Kd.C (Kd.int .i32) w A0 l0.length l0) (hc0 : l0.length ≤ c0) (h : opaque_First.f l0 a1 = some r) :
    Calls Tryd.prog 18 #[.slice A0 l0.length c0, .bool a1] w fun e w' => e = .returned (.int .i64 r) ∧ Below w.heap.size w w' := by
  unfold opaque_First.f at h
  split at h
  · rename_i hs
    obtain rfl := Option.some.inj h
    cases a1 with
    | true => exact First_dom l0 A0 c0 w hs (ints_of_C hr0)
    | false => exact First_host l0 A0 c0 w hs (ints_of_C hr0)
  · cases h
end
end Go.Proofs.YtebpghpaglpdlaaDoorQ.Opb
