/- Forms: a text's pieces, a piece's field, fields written. Plain. -/
import Derived.Test.YtfbgmlophkbejaaDoorPctM
import Derived.Test.YtfbgmlophkbejaaDoorFrmA
set_option linter.unusedVariables false
set_option linter.unusedSimpArgs false
namespace Go.Proofs.YtfbgmlophkbejaaDoor
open Go.RowKit Go.Proofs.YtfbgmlophkbejaaDoorW.PrintWords Go.Proofs.YtfbgmlophkbejaaDoorW.PrintLast
/-- a text cut at every such byte -/
def spl (c : UInt8) : List UInt8 → List (List UInt8)
  | [] => [[]]
  | b :: r => if b = c then [] :: spl c r else (b :: (spl c r).headD []) :: (spl c r).tail
theorem spl_none (c : UInt8) (l : List UInt8) (h : c ∉ l) : spl c l = [l] := by
  induction l with
  | nil => rfl
  | cons b r ih =>
    simp only [List.mem_cons, not_or] at h
    unfold spl
    rw [if_neg (fun e => h.1 e.symm), ih h.2]
    rfl
theorem spl_hit (c : UInt8) (a b : List UInt8) (h : c ∉ a) : spl c (a ++ c :: b) = a :: spl c b := by
  induction a with
  | nil => show spl c (c :: b) = _; rw [spl, if_pos rfl]
  | cons x r ih =>
    simp only [List.mem_cons, not_or] at h
    rw [List.cons_append, spl, if_neg (fun e => h.1 e.symm), ih h.2]
    rfl
theorem spl_ne (c : UInt8) (l : List UInt8) : spl c l ≠ [] := by
  cases l with
  | nil => simp [spl]
  | cons b r => unfold spl; split <;> simp
theorem spl_app (c : UInt8) (a b : List UInt8) : spl c (a ++ c :: b) = spl c a ++ spl c b := by
  induction a with
  | nil => show spl c (c :: b) = [] :: spl c b; rw [spl, if_pos rfl]
  | cons x r ih =>
    rw [List.cons_append]
    by_cases e : x = c
    · rw [spl, if_pos e, spl, if_pos e, ih]; rfl
    · rw [spl, if_neg e, spl, if_neg e, ih]
      obtain ⟨p, ps, hp⟩ := List.exists_cons_of_ne_nil (spl_ne c r)
      rw [hp]
      rfl
theorem no_occ {s : List UInt8} {a : UInt8} (h : ∀ j, j < s.length → Lib.occAt s [a] j = false) : a ∉ s := by
  intro hm
  obtain ⟨j, hj, e⟩ := List.mem_iff_getElem.1 hm
  have := h j hj
  rw [occ_one s a j hj, e] at this
  simp at this
theorem index_cases (s : List UInt8) (a : UInt8) : (Lib.index s [a] = -1 ∧ a ∉ s) ∨ ∃ i : Nat, Lib.index s [a] = (i : Int) ∧ i < s.length ∧ a ∉ s.take i ∧ s = s.take i ++ a :: s.drop (i + 1) := by
  rcases Lib.index_spec s [a] with ⟨h1, h2⟩ | ⟨i, h1, h2, h3, h4⟩
  · exact Or.inl ⟨h1, no_occ fun j hj => h2 j (by omega)⟩
  · have hr := Lib.index_room s [a] (by omega)
    rw [h1] at hr
    simp only [List.length_singleton] at hr
    have hi : i < s.length := by omega
    rw [occ_one s a i hi] at h3
    refine Or.inr ⟨i, h1, hi, no_occ fun j hj => ?_, ?_⟩
    · rw [List.length_take] at hj
      have := h4 j (by omega)
      rw [occ_one s a j (by omega)] at this
      rw [occ_one _ a j (by rw [List.length_take]; omega), List.getElem_take]
      exact this
    · have : s[i] = a := (beq_iff_eq.1 h3).symm
      rw [← this, ← List.drop_eq_getElem_cons hi, List.take_append_drop]
theorem split_one (a : UInt8) (n : Nat) : ∀ s : List UInt8, s.length = n → Lib.splitK [a] 0 (Lib.count s [a]) s = spl a s := by
  induction n using Nat.strongRecOn with
  | _ n ih =>
    intro s hn
    rcases index_cases s a with ⟨h1, h2⟩ | ⟨i, h1, hi, h2, h3⟩
    · rw [Lib.count_miss h1, spl_none a s h2]; rfl
    · rw [Lib.count_hit (by simp) h1, Nat.add_comm 1]
      rw [Lib.splitK, if_neg (by rw [h1]; simp), h1]
      simp only [Int.toNat_natCast, List.length_singleton, Nat.add_zero]
      rw [ih (s.length - (i + 1)) (by omega) _ (by rw [List.length_drop])]
      conv => rhs; rw [h3]
      rw [spl_hit a _ _ h2]
theorem cut_miss (l : List UInt8) (a : UInt8) (h : a ∉ l) : Lib.cut l [a] = (l, [], false) := by
  rcases index_cases l a with ⟨h1, _⟩ | ⟨i, _, _, _, h3⟩
  · unfold Lib.cut
    rw [if_neg (by omega)]
  · exact absurd (h3 ▸ by simp) h
theorem cut_hit (a : UInt8) (x y : List UInt8) (h : a ∉ x) : Lib.cut (x ++ a :: y) [a] = (x, y, true) := by
  have hi : Lib.index (x ++ a :: y) [a] = (x.length : Int) := by
    refine Lib.index_first (by simp) ?_ fun j hj => ?_
    · rw [occ_one _ a x.length (by simp)]; simp
    · rw [occ_one _ a j (by simp; omega), List.getElem_append_left hj]
      exact beq_eq_false_iff_ne.2 fun e => h (e ▸ List.getElem_mem hj)
  unfold Lib.cut
  rw [if_pos (by omega), hi]
  simp
def ba (l : List UInt8) : ByteArray := ⟨l.toArray⟩
theorem ba_data (l : List UInt8) : (ba l).data.toList = l := rfl
theorem data_ba (s : ByteArray) : ba s.data.toList = s := by cases s; rfl
theorem ba_size (l : List UInt8) : (ba l).size = l.length := by simp [ba, ByteArray.size]
theorem ba_inj {a b : List UInt8} (h : ba a = ba b) : a = b := by have := congrArg (·.data.toList) h; simpa [ba] using this
def piecesB (s : ByteArray) : List ByteArray := (spl 38 s.data.toList).map ba
theorem split_is (s : ByteArray) : Lib.splitB ⟨#[38]⟩ 0 (Lib.countB s ⟨#[38]⟩) s = piecesB s := by
  have h := Lib.splitB_data (⟨#[38]⟩ : ByteArray) 0 (Lib.countB s ⟨#[38]⟩) s
  have e : (⟨#[38]⟩ : ByteArray).data.toList = [38] := rfl
  rw [e, show Lib.countB s ⟨#[38]⟩ = Lib.count s.data.toList [38] from rfl, split_one 38 _ _ rfl] at h
  unfold piecesB
  rw [← h, List.map_map]
  have : (ba ∘ fun x : ByteArray => x.data.toList) = id := funext data_ba
  rw [this, List.map_id]
/-- what a part of a field says -/
def rdF (x : ByteArray) : ByteArray := encS (decT (fdecS x))
def fieldB (p : ByteArray) : ByteArray × ByteArray := (rdF (ba (Lib.cut p.data.toList [61]).1), rdF (ba (Lib.cut p.data.toList [61]).2.1))
def fieldsB (s : ByteArray) : List (ByteArray × ByteArray) := ((piecesB s).filter fun p => decide (0 < p.size)).map fieldB
def lastB (s : ByteArray) : Nat := s.size - ((spl 38 s.data.toList).getLastD []).length
def writtenB (l : List (ByteArray × ByteArray)) : ByteArray := joinS (l.map fun p => formS p.1 ++ ⟨#[61]⟩ ++ formS p.2) ⟨#[38]⟩
theorem fdecS_size (x : ByteArray) : (fdecS x).size ≤ x.size := by unfold fdecS; have := decS_size (repS 43 32 x); rw [repS_size] at this; exact this
theorem decT_len4 (s : ByteArray) : (decT s).length ≤ s.size := by unfold decT; rw [List.length_map]; exact pcs_len s s.size 0 (by omega) (by omega)
theorem rdF_size (x : ByteArray) : (rdF x).size ≤ 4 * x.size := by
  unfold rdF
  have h1 := encL_len (decT (fdecS x))
  have h2 := decT_len4 (fdecS x)
  have h3 := fdecS_size x
  rw [encS_size]
  omega
theorem ext_ba (s : ByteArray) (a b : Nat) : s.extract a b = ba ((s.data.toList.drop a).take (b - a)) := by
  rw [← data_ba (s.extract a b)]
  congr 1
  rw [ByteArray.data_extract, Array.toList_extract, List.extract_eq_take_drop]
theorem bt_byte (s : ByteArray) (i : Nat) (h : i < s.size) (c : UInt8) : bt s i = (c.toNat : Int) ↔ s.data.toList[i]? = some c := by
  have hl : i < s.data.toList.length := by rw [data_length]; exact h
  rw [List.getElem?_eq_getElem hl]
  unfold bt
  rw [dif_pos (by omega)]
  constructor
  · intro e
    have : s[(i : Int).toNat]'(by omega) = c := UInt8.toNat_inj.1 (by omega)
    rw [← this]
    rfl
  · intro e
    have e2 : s[(i : Int).toNat]'(by omega) = c := Option.some.inj e
    rw [e2]
end Go.Proofs.YtfbgmlophkbejaaDoor
