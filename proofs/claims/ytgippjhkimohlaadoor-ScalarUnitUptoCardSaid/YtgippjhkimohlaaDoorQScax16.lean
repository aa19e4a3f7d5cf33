/- What these functions of the program compute, and that they compute it: printed by wip/tools/orac.py over the kit's print.py. -/
import Derived.Test.YtgippjhkimohlaaDoorQScax0
namespace Go.Proofs.YtgippjhkimohlaaDoorQ.Sca
open Go.RowKit Go.Proofs.YtgippjhkimohlaaDoorW.PrintWords Go.Proofs.YtgippjhkimohlaaDoorW.PrintLast Go.Proofs.YtgippjhkimohlaaDoorW.PrintMore
attribute [local go_sem] max2_int min2_int max_two min_two max_three min_three max_four min_four   -- for this text's walks alone
set_option linter.unusedVariables false
set_option linter.unusedSimpArgs false

/-! ### scalar_Decode: function 19, by a contract of this repo -/
section
open Go.Proofs.YtgippjhkimohlaaDoor
def scalar_Decode.f (a0 : ByteArray) : Option (List Int) := if a0.size * 24 + 24 ≤ 140737488351232 then some (decT a0) else none
theorem scalar_Decode.calls (a0 : ByteArray) (r : List Int) (w : World) (h : scalar_Decode.f a0 = some r) (T_ : Tabs w) :
    Calls Tryd.prog 19 #[.string a0] w fun e w' => ∃ v0_ : Value, e = .returned (v0_) ∧ Kd.R (Kd.int .i32) 21 w' w.heap.size (fun _ => True) v0_ r ∧ Below w.heap.size w w' := by
  unfold scalar_Decode.f at h
  split at h
  · rename_i hs
    obtain rfl := Option.some.inj h
    exact (Decode_any a0 w hs T_).mono fun e w' hp => R_of_rpost hp
  · cases h
end
/-! ### posternref02_Decode: function 20, by a contract of this repo -/
section
open Go.Proofs.YtgippjhkimohlaaDoor
def posternref02_Decode.f (a0 : ByteArray) : Option (List Int) := if a0.size * 24 + 24 ≤ 140737488351232 then some (decT a0) else none
theorem posternref02_Decode.calls (a0 : ByteArray) (r : List Int) (w : World) (h : posternref02_Decode.f a0 = some r) :
    Calls Tryd.prog 20 #[.string a0] w fun e w' => ∃ v0_ : Value, e = .returned (v0_) ∧ Kd.R (Kd.int .i32) 21 w' w.heap.size (fun _ => True) v0_ r ∧ Below w.heap.size w w' := by
  unfold posternref02_Decode.f at h
  split at h
  · rename_i hs
    obtain rfl := Option.some.inj h
    exact (RDecode_any a0 w hs).mono fun e w' hp => R_of_rpost hp
  · cases h
end
/-! ### posternref02_Pieces: function 22, by a contract of this repo -/
section
open Go.Proofs.YtgippjhkimohlaaDoor
def toS33 (p : Int × Pc) : S33 := ⟨p.1, p.2.size, p.2.rune, p.2.bad⟩
def posternref02_Pieces.f (a0 : ByteArray) : Option (List S33) := if a0.size * 24 + 24 ≤ 140737488351232 then some ((pcs a0 0).map toS33) else none
theorem posternref02_Pieces.calls (a0 : ByteArray) (r : List S33) (w : World) (h : posternref02_Pieces.f a0 = some r) :
    Calls Tryd.prog 22 #[.string a0] w fun e w' => ∃ v0_ : Value, e = .returned (v0_) ∧ Kd.R k33 33 w' w.heap.size (fun _ => True) v0_ r ∧ Below w.heap.size w w' := by
  unfold posternref02_Pieces.f at h
  split at h
  · rename_i hs
    obtain rfl := Option.some.inj h
    refine (RPieces_any a0 w hs).mono ?_
    rintro e w' ⟨hb, v, rfl, ho⟩
    exact ⟨v, rfl, ⟨fun _ _ => trivial, own_row_map toS33 (fun p c hc => by rw [show c = _ from hc]; exact k33_mkM _ _ _ _) ho⟩, hb⟩
  · cases h
end
/-! ### scalar_Wrong: function 24, by a contract of this repo -/
section
open Go.Proofs.YtgippjhkimohlaaDoor
def scalar_Wrong.f (a0 : ByteArray) : Option Int := if a0.size * 24 + 24 ≤ 140737488351232 then some (wrgT (pcs a0 0)) else none
theorem scalar_Wrong.calls (a0 : ByteArray) (r : Int) (w : World) (h : scalar_Wrong.f a0 = some r) (T_ : Tabs w) :
    Calls Tryd.prog 24 #[.string a0] w fun e w' => e = .returned (.int .i64 r) ∧ Below w.heap.size w w' := by
  unfold scalar_Wrong.f at h
  split at h
  · rename_i hs
    obtain rfl := Option.some.inj h
    exact Wrong_any a0 w hs T_
  · cases h
end
end Go.Proofs.YtgippjhkimohlaaDoorQ.Sca
