/- Texts by their bytes: what stands in a part of a text, in two texts joined. Plain. -/
import Derived.Test.YtgippjhkimohlaaDoorBase3
import Derived.Laws.Closers25
set_option linter.unusedVariables false
set_option linter.unusedSimpArgs false
namespace Go.Proofs.YtgippjhkimohlaaDoor
open Go.RowKit Go.Proofs.YtgippjhkimohlaaDoorW.PrintWords Go.Proofs.YtgippjhkimohlaaDoorW.PrintLast
theorem bt_out (s : ByteArray) (i : Int) (h : (s.size : Int) ≤ i) : bt s i = 0 := by
  unfold bt
  rw [dif_neg (by omega)]
theorem bt_app (s t : ByteArray) (i : Int) (h0 : 0 ≤ i) : bt (s ++ t) i = if i < s.size then bt s i else bt t (i - s.size) := by
  have hsz : (s ++ t).size = s.size + t.size := ByteArray.size_append
  unfold bt
  by_cases h : i < s.size
  · rw [if_pos h, dif_pos (by omega), dif_pos (by omega), ByteArray.getElem_append_left (by omega)]
  · rw [if_neg h]
    by_cases h2 : i.toNat < (s ++ t).size
    · rw [dif_pos h2, dif_pos (by omega), ByteArray.getElem_append_right (by omega)]
      congr 3
      omega
    · rw [dif_neg h2, dif_neg (by omega)]
theorem bt_ext (s : ByteArray) (a b : Nat) (hb : b ≤ s.size) (i : Int) (h0 : 0 ≤ i) : bt (s.extract a b) i = if i < (b : Int) - a then bt s (a + i) else 0 := by
  have e : (s.extract a b).size = b - a := by rw [ByteArray.size_extract]; omega
  split
  · unfold bt
    rw [dif_pos (by omega), dif_pos (by omega)]
    have h3 : (s.extract a b)[i.toNat]'(by omega) = s[a + i.toNat]'(by omega) := ByteArray.getElem_extract _
    rw [h3]
    congr 3
    omega
  · exact bt_out _ _ (by omega)
theorem size_ext (s : ByteArray) (a b : Nat) (hb : b ≤ s.size) : (s.extract a b).size = b - a := by rw [ByteArray.size_extract]; omega
theorem ba_ext {s t : ByteArray} (h : s.size = t.size) (h2 : ∀ i : Int, 0 ≤ i → i < s.size → bt s i = bt t i) : s = t := by
  rw [← strOfNums_bytesOf s, ← strOfNums_bytesOf t]
  congr 1
  refine ext_rd (by rw [bytesOf_length, bytesOf_length, h]) fun i h0 h1 => ?_
  rw [rd_bytesOf, rd_bytesOf]
  exact h2 i h0 (by rw [bytesOf_length] at h1; exact h1)
theorem empty_no {s : ByteArray} (h : 0 < s.size) : s.toList.isEmpty = false := by
  rw [← decide_eq_emptyBytes]
  exact decide_eq_false fun e => by subst e; exact absurd h (by decide)
theorem empty_yes {s : ByteArray} (h : s.size = 0) : s.toList.isEmpty = true := by
  rw [← decide_eq_emptyBytes]
  exact decide_eq_true (ba_ext (by rw [h]; rfl) fun i h0 h1 => by omega)
end Go.Proofs.YtgippjhkimohlaaDoor
