/- OpaqueSame: what is left when the program is gone; the walk. -/
import Derived.Test.YtebpghpaglpdlaaDoorPuOpC
import Derived.Test.YtebpghpaglpdlaaDoorQOpsx3
set_option linter.unusedVariables false
set_option linter.unusedSimpArgs false
namespace Go.Proofs.YtebpghpaglpdlaaDoor
open Go.RowKit Go.Proofs.YtebpghpaglpdlaaDoorW.PrintWords Go.Proofs.YtebpghpaglpdlaaDoorQ.Ops
theorem opaqueSame_any (s t : ByteArray) (w : World) (hs : s.size ≤ 1048576) (ht : t.size ≤ 1048576) (T : Tabs w) : Calls Tryd.prog 6 #[.string s, .string t] w fun e w' => e = .returned (.bool true) ∧ Below w.heap.size w w' := by
  obtain ⟨K, hK⟩ : ∃ K : Nat, K = 2000000000 := ⟨_, rfl⟩
  refine posternlaw22_OpaqueSame.calls K s t true w ?_ T
  unfold posternlaw22_OpaqueSame.f opaque_Same.f
  rw [awakeB_is, Normal_is s (by omega), Normal_is t (by omega), RNormal_is s (by omega) K (by omega), RNormal_is t (by omega) K (by omega)]
  simp only [Option.bind_some, if_true]
  have hcomm : ((norT t).1.toList == (norT s).1.toList) = ((norT s).1.toList == (norT t).1.toList) := BEq.comm
  by_cases h1 : (norT s).2.2 = 0
  · by_cases h2 : (norT t).2.2 = 0
    · simp only [if_pos h1, if_pos h2, hcomm, beq_self_eq_true, if_true, Option.bind_some]
    · simp only [if_pos h1, if_neg h2, beq_self_eq_true, if_true, Option.bind_some]
  · by_cases h2 : (norT t).2.2 = 0
    · simp only [if_neg h1, if_pos h2, beq_self_eq_true, if_true, Option.bind_some]
    · simp only [if_neg h1, if_neg h2, beq_self_eq_true, if_true, Option.bind_some]
end Go.Proofs.YtebpghpaglpdlaaDoor
