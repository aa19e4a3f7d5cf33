/- What these functions of the program compute, and that they compute it: printed by wip/tools/orac.py over the kit's print.py; merged. -/
import Derived.Test.YtfbgmlophkbejaaDoorQPfax0
section
namespace Go.Proofs.YtfbgmlophkbejaaDoorQ.Pfa
open Go.RowKit Go.Proofs.YtfbgmlophkbejaaDoorW.PrintWords Go.Proofs.YtfbgmlophkbejaaDoorW.PrintLast Go.Proofs.YtfbgmlophkbejaaDoorW.PrintMore
attribute [local go_sem] max2_int min2_int max_two min_two max_three min_three max_four min_four   -- for this text's walks alone
set_option linter.unusedVariables false
set_option linter.unusedSimpArgs false
end Go.Proofs.YtfbgmlophkbejaaDoorQ.Pfa
end
section
namespace Go.Proofs.YtfbgmlophkbejaaDoorQ.Pfa
open Go.RowKit Go.Proofs.YtfbgmlophkbejaaDoorW.PrintWords Go.Proofs.YtfbgmlophkbejaaDoorW.PrintLast Go.Proofs.YtfbgmlophkbejaaDoorW.PrintMore
attribute [local go_sem] max2_int min2_int max_two min_two max_three min_three max_four min_four   -- for this text's walks alone
set_option linter.unusedVariables false
set_option linter.unusedSimpArgs false
/-! ### Zj: function 66,by a contract of this repo -/
section
open Go.Proofs.YtfbgmlophkbejaaDoor
def Zj.f (a0 : ByteArray) : Option (List Int):=if a0.size * 24 + 24≤140737488351232 then some (decT a0) else none
theorem Zj.calls (a0 : ByteArray) (r : List Int) (w : World) (h : Zj.f a0=some r) :
  Calls Tryd.prog 66 #[.string a0] w fun e w' => ∃ v0_ : Value,e=.returned (v0_)∧Kd.R (Kd.int .i32) 21 w' w.heap.size (fun _ => True) v0_ r∧Below w.heap.size w w':=by
 unfold Zj.f at h
 split at h
 ·rename_i hs
  obtain rfl:=Option.some.inj h
  exact (RDecode_any a0 w hs).mono fun e w' hp => R_of_rpost hp
 ·cases h
end
end Go.Proofs.YtfbgmlophkbejaaDoorQ.Pfa
end
