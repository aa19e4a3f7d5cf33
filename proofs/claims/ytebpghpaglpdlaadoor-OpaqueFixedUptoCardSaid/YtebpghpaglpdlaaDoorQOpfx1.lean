/- What these functions of the program compute, and that they compute it: printed by wip/tools/orac.py over the kit's print.py. -/
import Derived.Test.YtebpghpaglpdlaaDoorQOpfx0
namespace Go.Proofs.YtebpghpaglpdlaaDoorQ.Opf
open Go.RowKit Go.Proofs.YtebpghpaglpdlaaDoorW.PrintWords Go.Proofs.YtebpghpaglpdlaaDoorW.PrintLast Go.Proofs.YtebpghpaglpdlaaDoorW.PrintMore
attribute [local go_sem] Go.IntKind.wrap_u8
attribute [local go_sem] max2_int min2_int max_two min_two max_three min_three max_four min_four   -- for this text's walks alone
set_option linter.unusedVariables false
set_option linter.unusedSimpArgs false

/-! ### opaque_Parse: function 11, by a contract of this repo -/
section
open Go.Proofs.YtebpghpaglpdlaaDoor
def opaque_Parse.f (a0 : ByteArray) : Option (ByteArray × Int × Int) := if a0.size ≤ 16777216 then (if 0 ≤ fstF (fun r => inT r 9) (pcs a0 0) then some (⟨#[]⟩, fstF (fun r => inT r 9) (pcs a0 0), 220) else some (ctlS (encS (decT a0)), 0, 0)) else none
theorem opaque_Parse.calls (a0 : ByteArray) (r1 : ByteArray) (r2 : Int) (r3 : Int) (w : World) (h : opaque_Parse.f a0 = some (r1, r2, r3)) (T_ : Tabs w) :
    Calls Tryd.prog 11 #[.string a0] w fun e w' => e = .returned (.tuple #[.string r1, .int .i64 r2, .int .i64 r3]) ∧ Below w.heap.size w w' := by
  unfold opaque_Parse.f at h
  split at h
  · rename_i hs
    have ha := Parse_any a0 w hs T_
    unfold parV at ha
    split at h
    · rename_i hc
      rw [if_pos hc] at ha
      simp only [Option.some.injEq, Prod.mk.injEq] at h
      obtain ⟨rfl, rfl, rfl⟩ := h
      exact ha
    · rename_i hc
      rw [if_neg hc] at ha
      simp only [Option.some.injEq, Prod.mk.injEq] at h
      obtain ⟨rfl, rfl, rfl⟩ := h
      exact ha
  · cases h
end
/-! ### opaque_in: function 37, by a contract of this repo -/
section
open Go.Proofs.YtebpghpaglpdlaaDoor
def opaque_in.f (a0 : Int) (a1 : Int) : Option Bool := some (inT a0 a1)
theorem opaque_in.calls (a0 : Int) (a1 : Int) (r : Bool) (w : World) (h : opaque_in.f a0 a1 = some r) :
    Calls Tryd.prog 37 #[.int .i32 a0, .int .i64 a1] w fun e w' => e = .returned (.bool r) ∧ Below w.heap.size w w' := by
  obtain rfl := Option.some.inj h
  exact in_any a0 a1 w
end
/-! ### opaque_Host: function 14 -/
def opaque_Host.f (a0 : Int) : Option (Bool) := (opaque_in.f a0 9).bind fun t101 => (some t101)
set_option maxHeartbeats 8000000 in
set_option maxRecDepth 100000 in
theorem opaque_Host.calls (a0 : Int) (r : Bool) (w : World) (h : opaque_Host.f a0 = some r) :
    Calls Tryd.prog 14 #[.int .i32 a0] w fun e w' => e = .returned (.bool r) ∧ Below w.heap.size w w' := by
  have HB := Aside0.mk (Below.refl w.heap.size w)
  have H : ((opaque_in.f a0 9).bind fun t101 => (some t101)) = some r := h
  clear h
  replace H := Option.bind_eq_some_iff.mp H
  obtain ⟨t101, A20, H⟩ := H
  replace H : (some t101) = some r := H
  have A2 := Aside0.mk A20
  clear A20
  obtain rfl := Option.some.inj H
  go_enter Tryd.func14, Tryd.ntmps14
  go_wp2_with (first | ((with_reducible refine gate_callee (f := 37) rfl ?_); refine goesL_ (some 4) rfl rfl Tryd.func37 (by kernel_rfl) rfl #[.int .i32 a0, .int .i64 9] rfl (by (try simp only [List.map_toArray, List.map_cons, List.map_nil]); first | done | rfl | (simp only [List.length_drop, List.length_take]; rfl)) ?_; (with_reducible refine (opaque_in.calls a0 9 t101 _ A2.out).mono ?_); rintro e w3 ⟨rfl, hb⟩; refine ⟨_, rfl, ?_⟩; have n0_ := Aside0.mk (below_step (by repeat (first | (with_reducible first | exact HB.out | apply below_alloc | apply pw_below_drewN | apply below_drew1) | exact HB.out)) hb); clear HB; have HB := n0_; clear n0_; (try clear hb); (try clear hb2); (try clear hk); (try clear hi)))
  go_ret
  exact ⟨by first | rfl | (simp [errW_none, errW_some] <;> rfl) | (simp [*, errW_none, errW_some] <;> rfl), by repeat (first | (with_reducible first | exact HB.out | apply below_alloc | apply pw_below_drewN | apply below_drew1) | exact HB.out)⟩

end Go.Proofs.YtebpghpaglpdlaaDoorQ.Opf
