/- ScalarEncodes: what is left when the program is gone; the walk. -/
import Derived.Test.YtgippjhkimohlaaDoorPuB
import Derived.Test.YtgippjhkimohlaaDoorQScax2
set_option linter.unusedVariables false
set_option linter.unusedSimpArgs false
namespace Go.Proofs.YtgippjhkimohlaaDoor
open Go.RowKit Go.Proofs.YtgippjhkimohlaaDoorW.PrintWords Go.Proofs.YtgippjhkimohlaaDoorQ.Sca
theorem scalarEncodes_pure (l : List Int) (hl : l.length ≤ 1048576) : ∃ k, posternlaw02_ScalarEncodes.f k l = some true := by
  refine ⟨20000000, ?_⟩
  obtain ⟨m, hm⟩ : ∃ m, StopAt l m := ⟨_, stop_ix l⟩
  have hle := hm.le
  unfold posternlaw02_ScalarEncodes.f posternlaw02_awake.f
  simp only [Option.bind_some, if_true, List.nil_append, List.length_nil]
  rw [if_pos (by omega), Encode_is l m hm (by omega), REncode_is l m hm (by omega) _ (by omega), Units_is l m hm (by omega) _ (by omega), RUnits_is l m hm (by omega) _ (by omega)]
  simp only [Option.bind_some, if_true]
  have hul := untL_len l
  have hs := unitsame_is (untA l m).1 (by unfold untA; split <;> simp; omega) 20000000 (by unfold untA; split <;> simp; omega)
  rw [hs]
  simp only [Option.bind_some, if_true]
  rw [same_is l (by omega) _ (by omega)]
  rfl
theorem scalarEncodes_any (l : List Int) (A : Option Addr) (c : Nat) (w : World) (R : ReadsInt w .i32 A l.length l) (hc : l.length ≤ c) (hl : l.length ≤ 1048576) (T : Tabs w) :
    Calls Tryd.prog 5 #[.slice A l.length c] w fun e w' => e = .returned (.bool true) ∧ Below w.heap.size w w' := by
  obtain ⟨k, hk⟩ := scalarEncodes_pure l hl
  exact posternlaw02_ScalarEncodes.calls k A c l true w (Kd.C_of_reads (enc := Value.int .i32) (d := (0 : Int)) (h1 := fun _ => rfl) R) hc hk T
end Go.Proofs.YtgippjhkimohlaaDoor
