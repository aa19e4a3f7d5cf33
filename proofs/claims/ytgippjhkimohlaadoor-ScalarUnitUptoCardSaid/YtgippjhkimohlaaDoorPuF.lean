/- Scalar: rows of pieces as the printed functions have them. Plain. -/
import Derived.Test.YtgippjhkimohlaaDoorQScax17
import Derived.Test.YtgippjhkimohlaaDoorQScax16
set_option linter.unusedVariables false
set_option linter.unusedSimpArgs false
namespace Go.Proofs.YtgippjhkimohlaaDoor
open Go.RowKit Go.Proofs.YtgippjhkimohlaaDoorW.PrintWords Go.Proofs.YtgippjhkimohlaaDoorQ.Sca
theorem drop_pc (l : List (Int × Pc)) (i : Nat) (h : i < l.length) : l.drop i = l.getD i pc0 :: l.drop (i + 1) := by
  rw [List.drop_eq_getElem_cons h, List.getD_eq_getElem?_getD, List.getElem?_eq_getElem h]
  rfl
theorem rdS_map (l : List (Int × Pc)) (i : Nat) (h : i < l.length) : rd_T32 (l.map toS32) (i : Int) = toS32 (l.getD i pc0) := by
  unfold rd_T32
  simp only [Int.toNat_natCast, List.getD_eq_getElem?_getD, List.getElem?_map, List.getElem?_eq_getElem h]
  rfl
theorem rdR_map (l : List (Int × Pc)) (i : Nat) (h : i < l.length) : rd_T33 (l.map toS33) (i : Int) = toS33 (l.getD i pc0) := by
  unfold rd_T33
  simp only [Int.toNat_natCast, List.getD_eq_getElem?_getD, List.getElem?_map, List.getElem?_eq_getElem h]
  rfl
/-- pieces of a text that is not too great -/
structure Fit (s : ByteArray) (l : List (Int × Pc)) : Prop where
  size : s.size ≤ 9000000000
  at_ : ∀ i, i < l.length → 0 ≤ (l.getD i pc0).1 ∧ (l.getD i pc0).1 < s.size ∧ 1 ≤ (l.getD i pc0).2.size ∧ (l.getD i pc0).1 + (l.getD i pc0).2.size ≤ s.size
  len : l.length ≤ s.size
theorem fit (s : ByteArray) (hs : s.size ≤ 9000000000) : Fit s (pcs s 0) := by
  refine ⟨hs, fun i hi => ?_, pcs_len s s.size 0 (by omega) (by omega)⟩
  have ha := To.all s s.size 0 (by omega) (by omega) (by omega)
  have hm := ha.mem (by omega) ((pcs s 0).getD i pc0) (by rw [List.getD_eq_getElem?_getD, List.getElem?_eq_getElem hi]; exact List.getElem_mem _)
  obtain ⟨h1, h2, h3, h4⟩ := hm
  have hst := fst_step s _ h1 h2
  rw [← h3] at hst
  exact ⟨h1, h2, hst.1, h4⟩
theorem decT_len (s : ByteArray) : (decT s).length ≤ s.size := by
  unfold decT
  rw [List.length_map]
  exact pcs_len s s.size 0 (by omega) (by omega)
theorem encS_len (l : List Int) : (encS l).size ≤ 4 * l.length := by rw [encS_size]; exact encL_len l
end Go.Proofs.YtgippjhkimohlaaDoor
