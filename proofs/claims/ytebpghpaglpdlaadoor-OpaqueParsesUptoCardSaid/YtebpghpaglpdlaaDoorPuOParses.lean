/- OpaqueParses: what is left when the program is gone; the walk. -/
import Derived.Test.YtebpghpaglpdlaaDoorPuOpA
import Derived.Test.YtebpghpaglpdlaaDoorQOpax11
set_option linter.unusedVariables false
set_option linter.unusedSimpArgs false
namespace Go.Proofs.YtebpghpaglpdlaaDoor
open Go.RowKit Go.Proofs.YtebpghpaglpdlaaDoorW.PrintWords Go.Proofs.YtebpghpaglpdlaaDoorQ.Opa
theorem opaqueParses_any (s : ByteArray) (w : World) (hs : s.size ≤ 1048576) (T : Tabs w) : Calls Tryd.prog 3 #[.string s] w fun e w' => e = .returned (.bool true) ∧ Below w.heap.size w w' := by
  obtain ⟨K, hK⟩ : ∃ K : Nat, K = 200000000 := ⟨_, rfl⟩
  refine posternlaw22_OpaqueParses.calls K s true w ?_ T
  unfold posternlaw22_OpaqueParses.f opaque_Is.f
  rw [awake_is, Parse_is s (by omega), RParse_is s (by omega) K (by omega)]
  simp only [Option.bind_some, if_true]
  by_cases h : (parT s).2.2 = 0
  · rw [if_pos h]
    simp only [Option.bind_some, beq_self_eq_true, h, if_true]
  · rw [if_neg h]
    simp only [Option.bind_some, beq_self_eq_true, h, if_false]
end Go.Proofs.YtebpghpaglpdlaaDoor
