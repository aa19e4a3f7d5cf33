/- OpaqueBytes: what is left when the program is gone; the walk. -/
import Derived.Test.YtebpghpaglpdlaaDoorPuOpB
import Derived.Test.YtebpghpaglpdlaaDoorQOpbx13
set_option linter.unusedVariables false
set_option linter.unusedSimpArgs false
namespace Go.Proofs.YtebpghpaglpdlaaDoor
open Go.RowKit Go.Proofs.YtebpghpaglpdlaaDoorW.PrintWords Go.Proofs.YtebpghpaglpdlaaDoorQ.Opb
theorem awakeB_is : posternlaw22_awake.f = some true := by
  have e1 : parT (⟨#[195, 164, 37, 122, 122]⟩ : ByteArray) = (⟨#[37, 67, 51, 37, 65, 52, 37, 122, 122]⟩, 0, 0) := by decide +kernel
  have e2 : parT (⟨#[97, 32, 98]⟩ : ByteArray) = (⟨#[]⟩, 1, 220) := by decide +kernel
  unfold posternlaw22_awake.f
  rw [Parse_is _ (by decide), Parse_is _ (by decide), e1, e2]
  decide +kernel
theorem OBytes_l0 (l : List Int) (hl : l.length ≤ 1000000000) : ∀ (n k i : Nat), l.length - i = n → i ≤ l.length → n < k → posternlaw22_OpaqueBytes.l0 k l l (l.length : Int) (i : Int) = some true := by
  intro n
  induction n with
  | zero =>
    intro k i h1 h2 hk
    obtain ⟨k, rfl⟩ : ∃ m, k = m + 1 := ⟨k - 1, by omega⟩
    rw [posternlaw22_OpaqueBytes.l0, if_neg (by omega)]
  | succ n ih =>
    intro k i h1 h2 hk
    obtain ⟨k, rfl⟩ : ∃ m, k = m + 1 := ⟨k - 1, by omega⟩
    rw [posternlaw22_OpaqueBytes.l0, if_pos (by omega), if_pos (by omega), if_pos (by omega), if_pos (by omega), if_pos rfl, show wrap64 ((i : Int) + 1) = ((i + 1 : Nat) : Int) by unfold wrap64; omega]
    exact ih k (i + 1) (by omega) (by omega) (by omega)
theorem opaqueBytes_any (s : ByteArray) (w : World) (hs : s.size ≤ 1048576) (T : Tabs w) : Calls Tryd.prog 7 #[.string s] w fun e w' => e = .returned (.bool true) ∧ Below w.heap.size w w' := by
  obtain ⟨K, hK⟩ : ∃ K : Nat, K = 200000000 := ⟨_, rfl⟩
  refine posternlaw22_OpaqueBytes.calls (K + 1) s true w ?_ T
  have hst : (Z.strF s 0).length ≤ s.size := by have := Z.strF_le s 0 (by omega) (by omega); omega
  unfold posternlaw22_OpaqueBytes.f opaque_Bytes.f opaque_Strays.f percent_Decode.f percent_Strays.f
  rw [awakeB_is, if_pos (by omega), if_pos (by omega), RBytes_is s (by omega) (K + 1) (by omega)]
  simp only [Option.bind_some, if_true, bne_self_eq_false]
  rw [posternlaw22_OpaqueBytes.j0]
  simp only [Bool.false_eq_true, if_false]
  exact OBytes_l0 (Z.strF s 0) (by omega) (Z.strF s 0).length K 0 (by omega) (by omega) (by omega)
end Go.Proofs.YtebpghpaglpdlaaDoor
