/- ScalarAt: what is left when the program is gone; the walk. -/
import Derived.Test.YtgippjhkimohlaaDoorQScalarAtx
set_option linter.unusedVariables false
set_option linter.unusedSimpArgs false
namespace Go.Proofs.YtgippjhkimohlaaDoor
open Go.RowKit Go.Proofs.YtgippjhkimohlaaDoorW.PrintWords Go.Proofs.YtgippjhkimohlaaDoorQ.ScalarAt
theorem scalarAt_pure (s : ByteArray) (a : Int) (hs : s.size ≤ 1048576) : ∃ k, posternlaw02_ScalarAt.f k s a = some true := by
  refine ⟨1, ?_⟩
  unfold posternlaw02_ScalarAt.f posternlaw02_awake.f scalar_At.f
  rw [if_pos (show s.size ≤ 140737488351232 by omega)]
  by_cases h0 : a < 0
  · rw [if_pos (Or.inl h0)]
    simp [posternlaw02_ScalarAt.j0, h0]
  by_cases h1 : (s.size : Int) ≤ a
  · rw [if_pos (Or.inr h1)]
    simp [posternlaw02_ScalarAt.j0, h0, h1]
  · rw [if_neg (by omega)]
    have hz := tail_size s a (by omega) (by omega)
    have hf : posternref02_First.f (s.extract a.toNat s.size) = some (0, (fstT (tail s a)).size, (fstT (tail s a)).rune, (fstT (tail s a)).bad) := by
      unfold posternref02_First.f
      rw [if_pos]
      · rfl
      · unfold tail at hz
        omega
    have h2 : 0 ≤ a := by omega
    have h3 : a ≤ s.size := by omega
    simp [posternlaw02_ScalarAt.j0, h0, h1, h2, h3, hf, posternlaw02_piece.f]
theorem scalarAt_any (s : ByteArray) (a : Int) (w : World) (hs : s.size ≤ 1048576) (T : Tabs w) : Calls Tryd.prog 4 #[.string s, .int .i64 a] w fun e w' => e = .returned (.bool true) ∧ Below w.heap.size w w' := by
  obtain ⟨k, hk⟩ := scalarAt_pure s a hs
  exact posternlaw02_ScalarAt.calls k s a true w hk T
end Go.Proofs.YtgippjhkimohlaaDoor
