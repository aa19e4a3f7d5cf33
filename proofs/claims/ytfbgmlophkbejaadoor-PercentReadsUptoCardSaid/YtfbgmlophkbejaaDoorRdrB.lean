/- A form's reader: what is sure of what was handed in, and what is kept. -/
import Derived.Test.YtfbgmlophkbejaaDoorRdrA
import Derived.Test.YtfbgmlophkbejaaDoorQPfax3
import Derived.Test.YtfbgmlophkbejaaDoorQPfax6
import Derived.Test.YtfbgmlophkbejaaDoorQPfax0
import Derived.Test.YtfbgmlophkbejaaDoorQPfax2
set_option linter.unusedVariables false
set_option linter.unusedSimpArgs false
namespace Go.Proofs.YtfbgmlophkbejaaDoor
open Go.RowKit Go.Proofs.YtfbgmlophkbejaaDoorW.PrintWords Go.Proofs.YtfbgmlophkbejaaDoorW.PrintLast Go.Proofs.YtfbgmlophkbejaaDoorQ.Pfa
namespace FC
theorem rdF_map (l : List (ByteArray × ByteArray)) (i : Nat) (h : i < l.length) : rd_T46 (l.map toF) (i : Int) = toF l[i] := by
  unfold rd_T46
  rw [Int.toNat_natCast, List.getD_eq_getElem?_getD, List.getElem?_map, List.getElem?_eq_getElem h]
  rfl
theorem rdR_map (l : List (ByteArray × ByteArray)) (i : Nat) (h : i < l.length) : rd_T35 (l.map toR) (i : Int) = toR l[i] := by
  unfold rd_T35
  rw [Int.toNat_natCast, List.getD_eq_getElem?_getD, List.getElem?_map, List.getElem?_eq_getElem h]
  rfl
theorem fields_l0 (l : List (ByteArray × ByteArray)) (hl : l.length ≤ 1073741824) : ∀ (n k i : Nat), l.length - i = n → i ≤ l.length → n + 1 < k →
    posternlaw03_fields.l0 k (l.map toF) (l.map toR) (i : Int) = some true := by
  intro n
  induction n with
  | zero =>
    intro k i h1 h2 hk
    obtain ⟨k, rfl⟩ : ∃ m, k = m + 1 := ⟨k - 1, by omega⟩
    simp only [posternlaw03_fields.l0]
    rw [List.length_map, if_neg (by omega)]
  | succ n ih =>
    intro k i h1 h2 hk
    obtain ⟨k, rfl⟩ : ∃ m, k = m + 1 := ⟨k - 1, by omega⟩
    have hi : i < l.length := by omega
    simp only [posternlaw03_fields.l0]
    rw [List.length_map, List.length_map, if_pos (by omega), if_pos (by omega), if_pos (by omega), rdF_map l i hi, rdR_map l i hi, if_pos (show (toF l[i]).f0.toList = (toR l[i]).f0.toList from rfl), if_pos (show (toF l[i]).f1.toList = (toR l[i]).f1.toList from rfl), show wrap64 ((i : Int) + 1) = ((i + 1 : Nat) : Int) by unfold wrap64; omega]
    exact ih k (i + 1) (by omega) (by omega) (by omega)
theorem fields_is (l : List (ByteArray × ByteArray)) (hl : l.length ≤ 1073741824) (k : Nat) (hk : l.length + 1 < k) : posternlaw03_fields.f k (l.map toF) (l.map toR) = some true := by
  unfold posternlaw03_fields.f
  rw [if_pos (by rw [List.length_map, List.length_map])]
  exact fields_l0 l hl l.length k 0 (by omega) (by omega) hk
/-! ### written -/
theorem ba_app (a b : List UInt8) : ba a ++ ba b = ba (a ++ b) := by
  rw [← data_ba (ba a ++ ba b)]
  congr 1
theorem fieldsB_len (s : ByteArray) : (fieldsB s).length ≤ s.size + 1 := by
  obtain ⟨h1, h2⟩ := spl_len 38 s.data.toList
  rw [data_length] at h1
  unfold fieldsB
  rw [List.length_map]
  refine Nat.le_trans (List.length_filter_le _ _) ?_
  unfold piecesB
  rw [List.length_map]
  exact h1
theorem gB_app (a b : List (List UInt8)) : gB (a ++ b) = gB a ++ gB b := by unfold gB; rw [List.map_append, List.filter_append, List.map_append]
theorem gB_nil : gB [[]] = [] := by rw [gB_cons]; simp [gB]
/-- the fields of a text -/
def FL (l : List UInt8) : List (ByteArray × ByteArray) := gB (spl 38 l)
theorem fieldsB_FL (s : ByteArray) : fieldsB s = FL s.data.toList := rfl
theorem FL_nil : FL [] = [] := gB_nil
/-- a text behind which a piece begins -/
def Opn (A : List UInt8) : Prop := A = [] ∨ ∃ a, A = a ++ [38]
theorem spl_snoc (a K : List UInt8) (hK : (38 : UInt8) ∉ K) : spl 38 (a ++ [38] ++ K) = spl 38 a ++ [K] := by
  rw [List.append_assoc, List.singleton_append, spl_app, spl_none 38 K hK]
theorem FL_app (A b : List UInt8) (h : Opn A) : FL (A ++ b) = FL A ++ FL b := by
  rcases h with rfl | ⟨a, rfl⟩
  · rw [FL_nil, List.nil_append, List.nil_append]
  · unfold FL
    rw [List.append_assoc, List.singleton_append, spl_app, show a ++ [38] = a ++ (38 : UInt8) :: [] from rfl, spl_app, gB_app, gB_app, show spl 38 ([] : List UInt8) = [[]] from rfl, gB_nil, List.append_nil]
theorem FL_snoc (u : List UInt8) : FL (u ++ [38]) = FL u := by
  unfold FL
  rw [show u ++ [38] = u ++ (38 : UInt8) :: [] from rfl, spl_app, gB_app, show spl 38 ([] : List UInt8) = [[]] from rfl, gB_nil, List.append_nil]
theorem lastB_at (A K : List UInt8) (h : Opn A) (hK : (38 : UInt8) ∉ K) (p : ByteArray) (hp : p.data.toList = A ++ K) : lastB p = A.length := by
  have hz := data_length p
  rw [hp, List.length_append] at hz
  unfold lastB
  rw [hp]
  rcases h with rfl | ⟨a, rfl⟩
  · rw [List.nil_append, spl_none 38 K hK]
    simp only [List.getLastD_cons, List.getLastD_nil, List.length_nil] at *
    omega
  · rw [spl_snoc a K hK, List.getLastD_eq_getLast?, List.getLast?_append]
    simp only [List.getLast?_singleton, Option.some_or, Option.getD_some]
    omega
theorem data_at (s : ByteArray) (j : Nat) (h : j < s.size) : s.data[j]! = s.data.toList[j]'(by rw [data_length]; exact h) := by
  rw [getElem!_pos s.data j h, Array.getElem_toList]
theorem last_cases (all : ByteArray) : (Lib.lastIndexByte all 38 = -1 ∧ (38 : UInt8) ∉ all.data.toList) ∨ ∃ i : Nat, Lib.lastIndexByte all 38 = (i : Int) ∧ i < all.size ∧ all.extract 0 i = ba (all.data.toList.take i) ∧ all.extract (i + 1) all.size = ba (all.data.toList.drop (i + 1)) ∧
    all.data.toList = all.data.toList.take i ++ 38 :: all.data.toList.drop (i + 1) ∧ (38 : UInt8) ∉ all.data.toList.drop (i + 1) := by
  have hz := data_length all
  rcases Lib.lastIndexByte_spec all 38 with ⟨h1, h2⟩ | ⟨i, h1, h2, h3, h4⟩
  · refine Or.inl ⟨h1, fun hm => ?_⟩
    obtain ⟨j, hj, e⟩ := List.mem_iff_getElem.1 hm
    exact h2 j (by omega) (by rw [data_at all j (by omega), e]; rfl)
  · refine Or.inr ⟨i, h2, h1, by rw [ext_ba, List.drop_zero, Nat.sub_zero], by rw [ext_ba, List.take_of_length_le (by rw [List.length_drop]; omega)], ?_, fun hm => ?_⟩
    · rw [data_at all i h1] at h3
      have e : all.data.toList[i]'(by omega) = 38 := UInt8.toNat_inj.1 (by have : (38 : UInt8).toNat = 38 := rfl; omega)
      rw [← e, ← List.drop_eq_getElem_cons (by omega), List.take_append_drop]
    · obtain ⟨j, hj, e⟩ := List.mem_iff_getElem.1 hm
      rw [List.length_drop] at hj
      rw [List.getElem_drop] at e
      exact h4 (i + 1 + j) (by omega) (by omega) (by rw [data_at all _ (by omega), e]; rfl)
theorem ba_data_app (K : List UInt8) (t : ByteArray) : (ba K ++ t).data.toList = K ++ t.data.toList := by
  have h := ba_app K t.data.toList
  rw [data_ba] at h
  rw [h, ba_data]
theorem feed_any (A K : List UInt8) (t : ByteArray) (hA : Opn A) (hK : (38 : UInt8) ∉ K) (hz : A.length + K.length + t.size ≤ 1048576) :
    ∃ (Z : List (ByteArray × ByteArray)) (A' K' : List UInt8), Opn A' ∧ (38 : UInt8) ∉ K' ∧ A ++ K ++ t.data.toList = A' ++ K' ∧ FL A' = FL A ++ Z ∧
      ∀ (g : Nat) (w0 w : World), IsS98 w0 w g (ba K) → Below w0.heap.size w0 w → TabM w0 → Calls Tryd.prog 28 #[.pointer (some ⟨g, 0, none⟩), .string t] w fun e w' => ∃ v, e = .returned v ∧ Kd.R k46 46 w' w.heap.size (fun _ => True) v (Z.map toF) ∧ IsS98 w0 w' g (ba K') ∧ Below w0.heap.size w0 w' ∧ KeepBut w w' g none := by
  have hbz := ba_size K
  have hall := ba_data_app K t
  have haz : (ba K ++ t).size = (ba K).size + t.size := ByteArray.size_append
  rcases last_cases (ba K ++ t) with ⟨h1, h2⟩ | ⟨i, h1, h2, h3, h4, h5, h6⟩
  · refine ⟨[], A, K ++ t.data.toList, hA, by rw [← hall]; exact h2, List.append_assoc .., (List.append_nil _).symm, fun g w0 w hI hB T => ?_⟩
    have h := Feed_miss (ba K) t g w0 w hI hB (by omega) h1
    rw [← hall, data_ba]
    exact h
  · refine ⟨FL ((ba K ++ t).data.toList.take i), A ++ ((ba K ++ t).data.toList.take i ++ [38]), (ba K ++ t).data.toList.drop (i + 1), Or.inr ⟨A ++ (ba K ++ t).data.toList.take i, by rw [List.append_assoc]⟩, h6, ?_, by rw [FL_app A _ hA, FL_snoc], fun g w0 w hI hB T => ?_⟩
    · rw [List.append_assoc, ← hall]
      conv => lhs; rw [h5]
      simp only [List.append_assoc, List.singleton_append]
    · have h := Feed_hit (ba K) t i g w0 w hI hB (by omega) h1 h2 T
      rw [h3, h4, fieldsB_FL, ba_data] at h
      exact h
theorem end_any (K : List UInt8) (hz : K.length ≤ 1048576) (g : Nat) (w0 w : World) (hI : IsS98 w0 w g (ba K)) (hB : Below w0.heap.size w0 w) (T : TabM w0) :
    Calls Tryd.prog 29 #[.pointer (some ⟨g, 0, none⟩)] w fun e w' => ∃ v : Value, e = .returned v ∧ Kd.R k46 46 w' w.heap.size (fun _ => True) v ((FL K).map toF) ∧ IsS98 w0 w' g (ba []) ∧ Below w0.heap.size w0 w' ∧ KeepBut w w' g none := by
  have h := End_any (ba K) g w0 w hI hB (by rw [ba_size]; omega) T
  rw [fieldsB_FL, ba_data] at h
  exact h
theorem FL_len (l : List UInt8) : (FL l).length ≤ l.length + 1 := by
  have h := fieldsB_len (ba l)
  rw [fieldsB_FL, ba_data, ba_size] at h
  exact h
end FC
end Go.Proofs.YtfbgmlophkbejaaDoor
