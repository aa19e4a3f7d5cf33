/- OpaqueForbids: what is left when the program is gone; the walk. -/
import Derived.Test.YtebpghpaglpdlaaDoorPuOpB
import Derived.Test.YtebpghpaglpdlaaDoorQOpbx8
set_option linter.unusedVariables false
set_option linter.unusedSimpArgs false
namespace Go.Proofs.YtebpghpaglpdlaaDoor
open Go.RowKit Go.Proofs.YtebpghpaglpdlaaDoorW.PrintWords Go.Proofs.YtebpghpaglpdlaaDoorW.PrintMore Go.Proofs.YtebpghpaglpdlaaDoorW.PrintLast Go.Proofs.YtebpghpaglpdlaaDoorQ.Opb
theorem awakeB_is : posternlaw22_awake.f = some true := by
  have e1 : parT (⟨#[195, 164, 37, 122, 122]⟩ : ByteArray) = (⟨#[37, 67, 51, 37, 65, 52, 37, 122, 122]⟩, 0, 0) := by decide +kernel
  have e2 : parT (⟨#[97, 32, 98]⟩ : ByteArray) = (⟨#[]⟩, 1, 220) := by decide +kernel
  unfold posternlaw22_awake.f
  rw [Parse_is _ (by decide), Parse_is _ (by decide), e1, e2]
  decide +kernel
theorem opaqueForbids_any (p : Int) (l : List Int) (A : Option Addr) (c : Nat) (w : World) (hl : l.length ≤ 1048576) (hc : l.length ≤ c) (hr : ReadsInt w .i32 A l.length l) (T : Tabs w) : Calls Tryd.prog 4 #[.int .i32 p, .slice A l.length c] w fun e w' => e = .returned (.bool true) ∧ Below w.heap.size w w' := by
  obtain ⟨K, hK⟩ : ∃ K : Nat, K = 200000000 := ⟨_, rfl⟩
  refine posternlaw22_OpaqueForbids.calls K p A c l true w (Kd.C_of_reads (enc := Value.int .i32) (d := (0 : Int)) (h1 := fun _ => rfl) hr) hc ?_ T
  unfold posternlaw22_OpaqueForbids.f opaque_Host.f opaque_Domain.f opaque_in.f posternref22_Host.f
  rw [awakeB_is]
  simp only [Option.bind_some, if_true, RDomain_is, in9, beq_self_eq_true, OFirst_is true l (by omega), OFirst_is false l (by omega), RFirst_is true l (by omega) K (by omega), RFirst_is false l (by omega) K (by omega)]
end Go.Proofs.YtebpghpaglpdlaaDoor
