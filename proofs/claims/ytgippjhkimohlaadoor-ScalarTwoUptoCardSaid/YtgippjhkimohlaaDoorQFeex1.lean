/- What these functions of the program compute, and that they compute it: printed by wip/tools/orac.py over the kit's print.py. -/
import Derived.Test.YtgippjhkimohlaaDoorQFeex0
namespace Go.Proofs.YtgippjhkimohlaaDoorQ.Fee
open Go.RowKit Go.Proofs.YtgippjhkimohlaaDoorW.PrintWords Go.Proofs.YtgippjhkimohlaaDoorW.PrintLast Go.Proofs.YtgippjhkimohlaaDoorW.PrintMore
attribute [local go_sem] max2_int min2_int max_two min_two max_three min_three max_four min_four   -- for this text's walks alone
set_option linter.unusedVariables false
set_option linter.unusedSimpArgs false

/-! ### scalar_first: function 61, by a contract of this repo -/
section
open Go.Proofs.YtgippjhkimohlaaDoor
def scalar_first.f (a0 : ByteArray) : Option (Int × Int × Int × Bool × Bool) := if 0 < a0.size ∧ a0.size ≤ 140737488351232 then some (0, (fstT a0).size, (fstT a0).rune, (fstT a0).bad, opnT a0) else none
theorem scalar_first.calls (a0 : ByteArray) (r1 : Int) (r2 : Int) (r3 : Int) (r4 : Bool) (r5 : Bool) (w : World) (h : scalar_first.f a0 = some (r1, r2, r3, r4, r5)) (T_ : Tabs w) :
    Calls Tryd.prog 61 #[.string a0] w fun e w' => e = .returned (.tuple #[.agg #[.int .i64 r1, .int .i64 r2, .int .i32 r3, .bool r4], .bool r5]) ∧ Below w.heap.size w w' := by
  unfold scalar_first.f at h
  split at h
  · rename_i hs
    simp only [Option.some.injEq, Prod.mk.injEq] at h
    obtain ⟨rfl, rfl, rfl, rfl, rfl⟩ := h
    exact first_any a0 w hs.1 hs.2 T_
  · cases h
end
end Go.Proofs.YtgippjhkimohlaaDoorQ.Fee
