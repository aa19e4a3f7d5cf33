/- What these functions of the program compute, and that they compute it: printed by wip/tools/orac.py over the kit's print.py. -/
import Derived.Test.YtgippjhkimohlaaDoorQScax0
namespace Go.Proofs.YtgippjhkimohlaaDoorQ.Sca
open Go.RowKit Go.Proofs.YtgippjhkimohlaaDoorW.PrintWords Go.Proofs.YtgippjhkimohlaaDoorW.PrintLast Go.Proofs.YtgippjhkimohlaaDoorW.PrintMore
attribute [local go_sem] max2_int min2_int max_two min_two max_three min_three max_four min_four   -- for this text's walks alone
set_option linter.unusedVariables false
set_option linter.unusedSimpArgs false

/-! ### scalar_Clean: function 36, by a contract of this repo -/
section
open Go.Proofs.YtgippjhkimohlaaDoor
def scalar_Clean.f (a0 : ByteArray) : Option ByteArray := if a0.size * 24 + 24 ≤ 140737488351232 then some (encS (decT a0)) else none
theorem scalar_Clean.calls (a0 : ByteArray) (r : ByteArray) (w : World) (h : scalar_Clean.f a0 = some r) (T_ : Tabs w) :
    Calls Tryd.prog 36 #[.string a0] w fun e w' => e = .returned (.string r) ∧ Below w.heap.size w w' := by
  unfold scalar_Clean.f at h
  split at h
  · rename_i hs
    obtain rfl := Option.some.inj h
    exact Clean_any a0 w hs T_
  · cases h
end
/-! ### scalar_Pieces: function 21, by a contract of this repo -/
section
open Go.Proofs.YtgippjhkimohlaaDoor
def toS32 (p : Int × Pc) : S32 := ⟨p.1, p.2.size, p.2.rune, p.2.bad⟩
def scalar_Pieces.f (a0 : ByteArray) : Option (List S32) := if a0.size * 24 + 24 ≤ 140737488351232 then some ((pcs a0 0).map toS32) else none
theorem scalar_Pieces.calls (a0 : ByteArray) (r : List S32) (w : World) (h : scalar_Pieces.f a0 = some r) (T_ : Tabs w) :
    Calls Tryd.prog 21 #[.string a0] w fun e w' => ∃ v0_ : Value, e = .returned (v0_) ∧ Kd.R k32 32 w' w.heap.size (fun _ => True) v0_ r ∧ Below w.heap.size w w' := by
  unfold scalar_Pieces.f at h
  split at h
  · rename_i hs
    obtain rfl := Option.some.inj h
    refine (Pieces_any a0 w hs T_).mono ?_
    rintro e w' ⟨hb, v, rfl, ho⟩
    exact ⟨v, rfl, ⟨fun _ _ => trivial, own_row_map toS32 (fun p c hc => by rw [show c = _ from hc]; exact k32_mkM _ _ _ _) ho⟩, hb⟩
  · cases h
end
end Go.Proofs.YtgippjhkimohlaaDoorQ.Sca
