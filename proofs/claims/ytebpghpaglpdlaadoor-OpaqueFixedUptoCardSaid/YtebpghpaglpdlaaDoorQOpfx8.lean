/- What these functions of the program compute, and that they compute it: printed by wip/tools/orac.py over the kit's print.py. -/
import Derived.Test.YtebpghpaglpdlaaDoorQOpfx0
namespace Go.Proofs.YtebpghpaglpdlaaDoorQ.Opf
open Go.RowKit Go.Proofs.YtebpghpaglpdlaaDoorW.PrintWords Go.Proofs.YtebpghpaglpdlaaDoorW.PrintLast Go.Proofs.YtebpghpaglpdlaaDoorW.PrintMore
attribute [local go_sem] Go.IntKind.wrap_u8
attribute [local go_sem] max2_int min2_int max_two min_two max_three min_three max_four min_four   -- for this text's walks alone
set_option linter.unusedVariables false
set_option linter.unusedSimpArgs false

/-! ### posternref02_Decode: function 21, by a contract of this repo -/
section
open Go.Proofs.YtebpghpaglpdlaaDoor
def posternref02_Decode.f (a0 : ByteArray) : Option (List Int) := if a0.size * 24 + 24 ≤ 140737488351232 then some (decT a0) else none
theorem posternref02_Decode.calls (a0 : ByteArray) (r : List Int) (w : World) (h : posternref02_Decode.f a0 = some r) :
    Calls Tryd.prog 21 #[.string a0] w fun e w' => ∃ v0_ : Value, e = .returned (v0_) ∧ Kd.R (Kd.int .i32) 21 w' w.heap.size (fun _ => True) v0_ r ∧ Below w.heap.size w w' := by
  unfold posternref02_Decode.f at h
  split at h
  · rename_i hs
    obtain rfl := Option.some.inj h
    exact (RDecode_any a0 w hs).mono fun e w' hp => R_of_rpost hp
  · cases h
end
/-! ### percent_Decode: function 40, by a contract of this repo -/
section
open Go.Proofs.YtebpghpaglpdlaaDoor
def percent_Decode.f (a0 : ByteArray) : Option ByteArray := if a0.size ≤ 140737488351232 then some (Z.decS a0) else none
theorem percent_Decode.calls (a0 : ByteArray) (r : ByteArray) (w : World) (h : percent_Decode.f a0 = some r) :
    Calls Tryd.prog 40 #[.string a0] w fun e w' => e = .returned (.string r) ∧ Below w.heap.size w w' := by
  unfold percent_Decode.f at h
  split at h
  · rename_i hs
    obtain rfl := Option.some.inj h
    exact Z.decode_any a0 w hs
  · cases h
end
/-! ### opaque_Bytes: function 22 -/
def opaque_Bytes.f (a0 : ByteArray) : Option (ByteArray) := (percent_Decode.f a0).bind fun t141 => (some t141)
set_option maxHeartbeats 8000000 in
set_option maxRecDepth 100000 in
theorem opaque_Bytes.calls (a0 : ByteArray) (r : ByteArray) (w : World) (h : opaque_Bytes.f a0 = some r) :
    Calls Tryd.prog 22 #[.string a0] w fun e w' => e = .returned (.string r) ∧ Below w.heap.size w w' := by
  have HB := Aside0.mk (Below.refl w.heap.size w)
  have H : ((percent_Decode.f a0).bind fun t141 => (some t141)) = some r := h
  clear h
  replace H := Option.bind_eq_some_iff.mp H
  obtain ⟨t141, A20, H⟩ := H
  replace H : (some t141) = some r := H
  have A2 := Aside0.mk A20
  clear A20
  obtain rfl := Option.some.inj H
  go_enter Tryd.func22, Tryd.ntmps22
  go_wp2_with (first | ((with_reducible refine gate_callee (f := 40) rfl ?_); refine goesL_ (some 4) rfl rfl Tryd.func40 (by kernel_rfl) rfl #[.string a0] rfl (by (try simp only [List.map_toArray, List.map_cons, List.map_nil]); first | done | rfl | (simp only [List.length_drop, List.length_take]; rfl)) ?_; (with_reducible refine (percent_Decode.calls a0 t141 _ A2.out).mono ?_); rintro e w3 ⟨rfl, hb⟩; refine ⟨_, rfl, ?_⟩; have n0_ := Aside0.mk (below_step (by repeat (first | (with_reducible first | exact HB.out | apply below_alloc | apply pw_below_drewN | apply below_drew1) | exact HB.out)) hb); clear HB; have HB := n0_; clear n0_; (try clear hb); (try clear hb2); (try clear hk); (try clear hi)))
  go_ret
  exact ⟨by first | rfl | (simp [errW_none, errW_some] <;> rfl) | (simp [*, errW_none, errW_some] <;> rfl), by repeat (first | (with_reducible first | exact HB.out | apply below_alloc | apply pw_below_drewN | apply below_drew1) | exact HB.out)⟩

end Go.Proofs.YtebpghpaglpdlaaDoorQ.Opf
