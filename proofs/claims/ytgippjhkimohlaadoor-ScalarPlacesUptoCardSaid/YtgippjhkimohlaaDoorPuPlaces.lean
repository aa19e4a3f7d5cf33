/- ScalarPlaces: what is left when the program is gone; the walk. -/
import Derived.Test.YtgippjhkimohlaaDoorPuPos
import Derived.Test.YtgippjhkimohlaaDoorQScax35
set_option linter.unusedVariables false
set_option linter.unusedSimpArgs false
namespace Go.Proofs.YtgippjhkimohlaaDoor
open Go.RowKit Go.Proofs.YtgippjhkimohlaaDoorW.PrintWords Go.Proofs.YtgippjhkimohlaaDoorQ.Sca
theorem places_l0 (l : List ByteArray) (hl : l.length ≤ 9000000000000) : ∀ (n k i : Nat), l.length - i = n → i ≤ l.length → n < k → posternlaw02_ScalarPlaces.l0 k l l (l.length : Int) (i : Int) = some true := by
  intro n
  induction n with
  | zero =>
    intro k i h1 h2 hk
    obtain ⟨k, rfl⟩ : ∃ m, k = m + 1 := ⟨k - 1, by omega⟩
    simp only [posternlaw02_ScalarPlaces.l0]
    rw [if_neg (by omega)]
  | succ n ih =>
    intro k i h1 h2 hk
    obtain ⟨k, rfl⟩ : ∃ m, k = m + 1 := ⟨k - 1, by omega⟩
    simp only [posternlaw02_ScalarPlaces.l0]
    rw [if_pos (by omega), if_pos (by omega), if_pos (by omega), if_pos (by omega), if_pos trivial, show wrap64 ((i : Int) + 1) = ((i + 1 : Nat) : Int) by unfold wrap64; omega]
    exact ih k (i + 1) (by omega) (by omega) (by omega)
theorem scalarPlaces_pure (s : ByteArray) (at_ x : Int) (hs : s.size ≤ 1048576) : ∃ k, posternlaw02_ScalarPlaces.f k s at_ x = some true := by
  obtain ⟨K, hK⟩ : ∃ K : Nat, K = 19999999 := ⟨_, rfl⟩
  refine ⟨K + 1 + 1, ?_⟩
  have hlin : (linT s).length ≤ 1048577 := by
    unfold linT
    rw [cutsF_len]
    have := epsF_len s s.size 0
    unfold eps
    omega
  have h1 : posternlaw02_ScalarPlaces.j1 (K + 1) s false = some true := by
    simp only [posternlaw02_ScalarPlaces.j1, Bool.false_eq_true, if_false]
    rw [Lines_is s (by omega) K (by omega), RLines_is s (by omega) K (by omega)]
    simp only [Option.bind_some, if_true]
    exact places_l0 (linT s) (by omega) (linT s).length K 0 (by omega) (by omega) (by omega)
  have h0 : posternlaw02_ScalarPlaces.j0 (K + 1 + 1) s x false = some true := by
    simp only [posternlaw02_ScalarPlaces.j0, Bool.false_eq_true, if_false]
    obtain ⟨ln, c, he⟩ := posA_end s
    rw [Unit_is s x (by omega) _ (by omega), RUnit_is s x (by omega) _ (by omega), RPosition_is s _ (by omega) _ (by omega), Count_is s (by omega) _ (by omega), he]
    simp only [Option.bind_some, if_true, bne_self_eq_false]
    exact h1
  unfold posternlaw02_ScalarPlaces.f posternlaw02_awake.f
  simp only [Option.bind_some, if_true]
  rw [Position_is s at_ (by omega) _ (by omega), RPosition_is s at_ (by omega) _ (by omega)]
  simp only [Option.bind_some, if_true, bne_self_eq_false]
  exact h0
theorem scalarPlaces_any (s : ByteArray) (at_ x : Int) (w : World) (hs : s.size ≤ 1048576) (T : Tabs w) : Calls Tryd.prog 15 #[.string s, .int .i64 at_, .int .i64 x] w fun e w' => e = .returned (.bool true) ∧ Below w.heap.size w w' := by
  obtain ⟨k, hk⟩ := scalarPlaces_pure s at_ x hs
  exact posternlaw02_ScalarPlaces.calls k s at_ x true w hk T
end Go.Proofs.YtgippjhkimohlaaDoor
