/- Forms: what the printed functions come to: fields written, given, compared; the law. -/
import Derived.Test.YtfbgmlophkbejaaDoorFrmC
import Derived.Test.YtfbgmlophkbejaaDoorOpnF
import Derived.Test.YtfbgmlophkbejaaDoorQPfax6
import Derived.Test.YtfbgmlophkbejaaDoorQPfax3
import Derived.Test.YtfbgmlophkbejaaDoorQPfax2
import Derived.Test.YtfbgmlophkbejaaDoorQPfax0
import Derived.Test.YtfbgmlophkbejaaDoorQPfax4
import Derived.Test.YtfbgmlophkbejaaDoorQPfax5
set_option linter.unusedVariables false
set_option linter.unusedSimpArgs false
namespace Go.Proofs.YtfbgmlophkbejaaDoor
open Go.RowKit Go.Proofs.YtfbgmlophkbejaaDoorW.PrintWords Go.Proofs.YtfbgmlophkbejaaDoorW.PrintLast Go.Proofs.YtfbgmlophkbejaaDoorQ.Pfa
namespace FC
theorem rdF_map (l : List (ByteArray × ByteArray)) (i : Nat) (h : i < l.length) : rd_T46 (l.map toF) (i : Int) = toF l[i] := by
  unfold rd_T46
  rw [Int.toNat_natCast, List.getD_eq_getElem?_getD, List.getElem?_map, List.getElem?_eq_getElem h]
  rfl
theorem rdR_map (l : List (ByteArray × ByteArray)) (i : Nat) (h : i < l.length) : rd_T35 (l.map toR) (i : Int) = toR l[i] := by
  unfold rd_T35
  rw [Int.toNat_natCast, List.getD_eq_getElem?_getD, List.getElem?_map, List.getElem?_eq_getElem h]
  rfl
theorem given_l0 (l : List (ByteArray × ByteArray)) (hl : l.length ≤ 1073741824) : ∀ (n k i : Nat), l.length - i = n → i ≤ l.length → n + 1 < k →
    posternlaw03_given.l0 k (l.map toF) ((l.take i).map toR) (i : Int) = some (l.map toR) := by
  intro n
  induction n with
  | zero =>
    intro k i h1 h2 hk
    obtain ⟨k, rfl⟩ : ∃ m, k = m + 1 := ⟨k - 1, by omega⟩
    simp only [posternlaw03_given.l0]
    rw [List.length_map, if_neg (by omega), List.take_of_length_le (by omega)]
  | succ n ih =>
    intro k i h1 h2 hk
    obtain ⟨k, rfl⟩ : ∃ m, k = m + 1 := ⟨k - 1, by omega⟩
    have hi : i < l.length := by omega
    simp only [posternlaw03_given.l0]
    rw [List.length_map, if_pos (by omega), if_pos (by omega), if_pos (by rw [List.length_map, List.length_take]; omega), show wrap64 ((i : Int) + 1) = ((i + 1 : Nat) : Int) by unfold wrap64; omega, rdF_map l i hi]
    have := ih k (i + 1) (by omega) (by omega) (by omega)
    rw [List.take_succ_eq_append_getElem hi, List.map_append] at this
    exact this
theorem given_is (l : List (ByteArray × ByteArray)) (hl : l.length ≤ 1073741824) (k : Nat) (hk : l.length + 1 < k) : posternlaw03_given.f k (l.map toF) = some (l.map toR) := by
  unfold posternlaw03_given.f
  exact given_l0 l hl l.length k 0 (by omega) (by omega) hk
theorem fields_l0 (l : List (ByteArray × ByteArray)) (hl : l.length ≤ 1073741824) : ∀ (n k i : Nat), l.length - i = n → i ≤ l.length → n + 1 < k →
    posternlaw03_fields.l0 k (l.map toF) (l.map toR) (i : Int) = some true := by
  intro n
  induction n with
  | zero =>
    intro k i h1 h2 hk
    obtain ⟨k, rfl⟩ : ∃ m, k = m + 1 := ⟨k - 1, by omega⟩
    simp only [posternlaw03_fields.l0]
    rw [List.length_map, if_neg (by omega)]
  | succ n ih =>
    intro k i h1 h2 hk
    obtain ⟨k, rfl⟩ : ∃ m, k = m + 1 := ⟨k - 1, by omega⟩
    have hi : i < l.length := by omega
    simp only [posternlaw03_fields.l0]
    rw [List.length_map, List.length_map, if_pos (by omega), if_pos (by omega), if_pos (by omega), rdF_map l i hi, rdR_map l i hi, if_pos (show (toF l[i]).f0.toList = (toR l[i]).f0.toList from rfl), if_pos (show (toF l[i]).f1.toList = (toR l[i]).f1.toList from rfl), show wrap64 ((i : Int) + 1) = ((i + 1 : Nat) : Int) by unfold wrap64; omega]
    exact ih k (i + 1) (by omega) (by omega) (by omega)
theorem fields_is (l : List (ByteArray × ByteArray)) (hl : l.length ≤ 1073741824) (k : Nat) (hk : l.length + 1 < k) : posternlaw03_fields.f k (l.map toF) (l.map toR) = some true := by
  unfold posternlaw03_fields.f
  rw [if_pos (by rw [List.length_map, List.length_map])]
  exact fields_l0 l hl l.length k 0 (by omega) (by omega) hk
/-! ### written -/
def wrtP (p : ByteArray × ByteArray) : ByteArray := formS p.1 ++ ⟨#[61]⟩ ++ formS p.2
theorem wrtP_size (p : ByteArray × ByteArray) : (wrtP p).size ≤ 3 * (p.1.size + p.2.size) + 1 := by
  have h1 := formS_size p.1
  have h2 := formS_size p.2
  unfold wrtP
  rw [ByteArray.size_append, ByteArray.size_append]
  have : (⟨#[61]⟩ : ByteArray).size = 1 := rfl
  omega
theorem ba_app (a b : List UInt8) : ba a ++ ba b = ba (a ++ b) := by
  rw [← data_ba (ba a ++ ba b)]
  congr 1
theorem ba_app3 (a b : List UInt8) (s y : ByteArray) : ba (a ++ (b ++ (s.data.toList ++ y.data.toList))) = ba (a ++ b) ++ s ++ y := by
  have h1 : ba (a ++ (b ++ (s.data.toList ++ y.data.toList))) = ba ((a ++ b) ++ s.data.toList ++ y.data.toList) := by simp only [List.append_assoc]
  rw [h1, ← ba_app ((a ++ b) ++ s.data.toList) y.data.toList, ← ba_app (a ++ b) s.data.toList, data_ba s, data_ba y]
theorem joinS_nil (sep : ByteArray) : joinS [] sep = ba [] := rfl
theorem joinS_one (x sep : ByteArray) : joinS [x] sep = x := by
  unfold joinS
  rw [List.map_cons, List.map_nil, Lib.join_one]
theorem joinS_cons (x : ByteArray) (l : List ByteArray) (sep : ByteArray) : joinS (x :: l) sep = ba (x.data.toList ++ Lib.joinTail sep.data.toList (l.map (·.data.toList))) := by
  show ba (Lib.join _ _) = _
  rw [List.map_cons, Lib.join_cons]
theorem jt_app (sep : List UInt8) (a b : List (List UInt8)) : Lib.joinTail sep (a ++ b) = Lib.joinTail sep a ++ Lib.joinTail sep b := by
  unfold Lib.joinTail
  rw [List.map_append, List.flatten_append]
theorem jt_one (sep y : List UInt8) : Lib.joinTail sep [y] = sep ++ y := by
  unfold Lib.joinTail
  simp
theorem jt_len (sep : List UInt8) (l : List (List UInt8)) : (Lib.joinTail sep l).length = (l.map (·.length)).sum + l.length * sep.length := by
  induction l with
  | nil => simp [Lib.joinTail]
  | cons x r ih =>
    have e : Lib.joinTail sep (x :: r) = (sep ++ x) ++ Lib.joinTail sep r := by unfold Lib.joinTail; rw [List.map_cons, List.flatten_cons]
    rw [e, List.length_append, List.length_append, ih, List.map_cons, List.sum_cons, List.length_cons, Nat.add_mul]
    omega
theorem joinS_snoc (x : ByteArray) (l : List ByteArray) (y sep : ByteArray) : joinS ((x :: l) ++ [y]) sep = joinS (x :: l) sep ++ sep ++ y := by
  rw [List.cons_append, joinS_cons, joinS_cons, List.map_append, jt_app, List.map_cons, List.map_nil, jt_one, ba_app3]
theorem joinS_size (l : List ByteArray) (sep : ByteArray) (h : l ≠ []) : (joinS l sep).size + sep.size = (l.map (·.size)).sum + l.length * sep.size := by
  cases l with
  | nil => exact absurd rfl h
  | cons x r =>
    have e : (r.map fun y : ByteArray => y.data.toList.length) = r.map (·.size) := List.map_congr_left fun y _ => data_length y
    rw [joinS_cons, ba_size, List.length_append, jt_len, List.map_map, List.length_map, data_length, data_length, List.map_cons, List.sum_cons, List.length_cons, Nat.add_mul]
    have e2 : (((fun y : List UInt8 => y.length) ∘ fun y : ByteArray => y.data.toList)) = fun y : ByteArray => y.data.toList.length := rfl
    rw [e2, e]
    omega
theorem writtenB_take (l : List (ByteArray × ByteArray)) (i : Nat) (h : i < l.length) : writtenB (l.take (i + 1)) = if i = 0 then wrtP l[i] else writtenB (l.take i) ++ ⟨#[38]⟩ ++ wrtP l[i] := by
  unfold writtenB
  rw [List.take_succ_eq_append_getElem h, List.map_append]
  by_cases h0 : i = 0
  · subst h0
    rw [if_pos rfl, List.take_zero, List.map_nil, List.nil_append]
    exact joinS_one _ _
  · rw [if_neg h0]
    cases hl : (l.take i).map (fun p => formS p.1 ++ ⟨#[61]⟩ ++ formS p.2) with
    | nil =>
      have := congrArg List.length hl
      rw [List.length_map, List.length_take, List.length_nil] at this
      omega
    | cons x r => exact joinS_snoc x r _ _
theorem pairs_take (l : List (ByteArray × ByteArray)) (i : Nat) : pairsSize (l.take i) ≤ pairsSize l := by
  unfold pairsSize
  conv => rhs; rw [← List.take_append_drop i l]
  rw [List.map_append, List.sum_append]
  omega
theorem sum_wrt (l : List (ByteArray × ByteArray)) : ((l.map wrtP).map (·.size)).sum ≤ 3 * pairsSize l + l.length := by
  induction l with
  | nil => simp [pairsSize]
  | cons p r ih =>
    have := wrtP_size p
    simp only [List.map_cons, List.sum_cons, List.length_cons, pairsSize] at *
    omega
theorem writtenB_size (l : List (ByteArray × ByteArray)) : (writtenB l).size ≤ 3 * pairsSize l + 2 * l.length := by
  by_cases h : l = []
  · subst h; show (joinS [] _).size ≤ _; rw [joinS_nil, ba_size]; simp
  · have h1 := joinS_size (l.map wrtP) ⟨#[38]⟩ (by simpa using h)
    have h2 := sum_wrt l
    have h3 : (⟨#[38]⟩ : ByteArray).size = 1 := rfl
    rw [List.length_map, h3] at h1
    show (joinS (l.map wrtP) _).size ≤ _
    omega
theorem pair_size (l : List (ByteArray × ByteArray)) (p : ByteArray × ByteArray) (h : p ∈ l) : p.1.size + p.2.size ≤ pairsSize l := by
  induction l with
  | nil => cases h
  | cons q r ih =>
    simp only [pairsSize, List.map_cons, List.sum_cons]
    rcases List.mem_cons.1 h with rfl | h
    · omega
    · have := ih h
      unfold pairsSize at this
      omega
theorem size61 : (⟨#[61]⟩ : ByteArray).size = 1 := rfl
theorem size38 : (⟨#[38]⟩ : ByteArray).size = 1 := rfl
theorem written_zero (l : List (ByteArray × ByteArray)) (z : ByteArray) : writtenB (l.take 0) ++ z = z := by
  rw [List.take_zero]
  show joinS [] _ ++ z = z
  rw [joinS_nil, ← data_ba z, ba_app, List.nil_append]
theorem RWritten_l0 (l : List (ByteArray × ByteArray)) (hl : pairsSize l + l.length ≤ 33554432) : ∀ (n k i : Nat), l.length - i = n → i ≤ l.length → n + 1 < k →
    posternref03_Written.l0 k (l.map toR) (writtenB (l.take i)) (i : Int) = some (writtenB l) := by
  intro n
  induction n with
  | zero =>
    intro k i h1 h2 hk
    obtain ⟨k, rfl⟩ : ∃ m, k = m + 1 := ⟨k - 1, by omega⟩
    simp only [posternref03_Written.l0]
    rw [List.length_map, if_neg (by omega), List.take_of_length_le (by omega)]
  | succ n ih =>
    intro k i h1 h2 hk
    obtain ⟨k, rfl⟩ : ∃ m, k = m + 1 := ⟨k - 1, by omega⟩
    have hi : i < l.length := by omega
    have ih := ih k (i + 1) (by omega) (by omega) (by omega)
    have hww : wrap64 ((i : Int) + 1) = ((i + 1 : Nat) : Int) := by unfold wrap64; omega
    have hw := writtenB_take l i hi
    unfold wrtP at hw
    have hp := pair_size l l[i] (List.getElem_mem hi)
    have f1 := formS_size l[i].1
    have f2 := formS_size l[i].2
    have hz := writtenB_size (l.take i)
    have hz2 := pairs_take l i
    have hz3 : (l.take i).length ≤ l.length := by rw [List.length_take]; omega
    have h00 : i = 0 → writtenB (l.take i) ++ (formS l[i].1 ++ ⟨#[61]⟩ ++ formS l[i].2) = formS l[i].1 ++ ⟨#[61]⟩ ++ formS l[i].2 := fun h0 => by subst h0; exact written_zero l _
    rw [hw] at ih
    clear hw
    simp only [posternref03_Written.l0]
    rw [List.length_map, if_pos (by omega), rdR_map l i hi]
    simp only [toR]
    unfold posternref03_Form.f
    generalize writtenB l = Z at *
    generalize writtenB (l.take i) = W at *
    generalize l[i].1 = x1 at *
    generalize l[i].2 = x2 at *
    generalize formS x1 = F1 at *
    generalize formS x2 = F2 at *
    generalize pairsSize (l.take i) = pt at *
    generalize (l.take i).length = lt at *
    have e1 : (F1 ++ (⟨#[61]⟩ : ByteArray)).size = F1.size + 1 := by rw [ByteArray.size_append, size61]
    have e2 : (F1 ++ (⟨#[61]⟩ : ByteArray) ++ F2).size = F1.size + 1 + F2.size := by rw [ByteArray.size_append, e1]
    have e3 : (W ++ (⟨#[38]⟩ : ByteArray)).size = W.size + 1 := by rw [ByteArray.size_append, size38]
    by_cases h0 : i = 0
    · rw [if_pos h0] at ih
      rw [if_neg (by omega), if_pos (by omega), if_pos (by omega), Option.bind_some, if_pos (by omega), if_pos (by omega), Option.bind_some, if_pos (by omega), if_pos (by omega), hww, h00 h0]
      exact ih
    · rw [if_neg h0] at ih
      rw [if_pos (by omega), if_pos (by omega), if_pos (by omega), if_pos (by omega), Option.bind_some, if_pos (by omega), if_pos (by omega), Option.bind_some, if_pos (by omega), if_pos (by omega), hww]
      exact ih
theorem RWritten_is (l : List (ByteArray × ByteArray)) (hl : pairsSize l + l.length ≤ 33554432) (k : Nat) (hk : l.length + 1 < k) : posternref03_Written.f k (l.map toR) = some (writtenB l) := by
  unfold posternref03_Written.f
  exact RWritten_l0 l hl l.length k 0 (by omega) (by omega) hk
theorem Written_l0 (l : List (ByteArray × ByteArray)) (hl : pairsSize l + l.length ≤ 33554432) : ∀ (n k i : Nat), l.length - i = n → i ≤ l.length → n + 1 < k →
    percent_Written.l0 k ((l.take i).map wrtP) (l.map toF) (l.length : Int) (i : Int) = some (writtenB l) := by
  intro n
  induction n with
  | zero =>
    intro k i h1 h2 hk
    obtain ⟨k, rfl⟩ : ∃ m, k = m + 1 := ⟨k - 1, by omega⟩
    have hz := writtenB_size l
    have hj : (Lib.join ((l.map wrtP).map (·.data.toList)) (⟨#[38]⟩ : ByteArray).data.toList).length = (writtenB l).size := (ba_size _).symm
    simp only [percent_Written.l0]
    rw [if_neg (by omega), List.take_of_length_le (by omega)]
    unfold strings_Join.f
    rw [if_pos ⟨by rw [List.length_map]; omega, by rw [hj]; omega⟩]
    rfl
  | succ n ih =>
    intro k i h1 h2 hk
    obtain ⟨k, rfl⟩ : ∃ m, k = m + 1 := ⟨k - 1, by omega⟩
    have hi : i < l.length := by omega
    have ih := ih k (i + 1) (by omega) (by omega) (by omega)
    have hww : wrap64 ((i : Int) + 1) = ((i + 1 : Nat) : Int) := by unfold wrap64; omega
    have hp := pair_size l l[i] (List.getElem_mem hi)
    have f1 := formS_size l[i].1
    have f2 := formS_size l[i].2
    have hla : ((l.take i).map wrtP).length = i := by rw [List.length_map, List.length_take]; omega
    rw [List.take_succ_eq_append_getElem hi, List.map_append, List.map_cons, List.map_nil] at ih
    unfold wrtP at ih hla
    simp only [percent_Written.l0]
    rw [if_pos (by omega), if_pos (by omega), List.length_map, if_pos (by omega), rdF_map l i hi]
    simp only [toF]
    unfold percent_Form.f wrtP
    generalize (l.take i).map (fun p => formS p.1 ++ ⟨#[61]⟩ ++ formS p.2) = acc at *
    generalize writtenB l = Z at *
    generalize l[i].1 = x1 at *
    generalize l[i].2 = x2 at *
    generalize formS x1 = F1 at *
    generalize formS x2 = F2 at *
    have e1 : (F1 ++ (⟨#[61]⟩ : ByteArray)).size = F1.size + 1 := by rw [ByteArray.size_append, size61]
    rw [if_pos (by omega), Option.bind_some, if_pos (by omega), if_pos (by omega), Option.bind_some, if_pos (by omega), if_pos (by omega), hww]
    exact ih
theorem Written_is (l : List (ByteArray × ByteArray)) (hl : pairsSize l + l.length ≤ 33554432) (k : Nat) (hk : l.length + 1 < k) : percent_Written.f k (l.map toF) = some (writtenB l) := by
  unfold percent_Written.f
  rw [List.length_map]
  exact Written_l0 l hl l.length k 0 (by omega) (by omega) hk
theorem fieldsB_len (s : ByteArray) : (fieldsB s).length ≤ s.size + 1 := by
  obtain ⟨h1, h2⟩ := spl_len 38 s.data.toList
  rw [data_length] at h1
  unfold fieldsB
  rw [List.length_map]
  refine Nat.le_trans (List.length_filter_le _ _) ?_
  unfold piecesB
  rw [List.length_map]
  exact h1
theorem percentFields_pure (s : ByteArray) (l : List (ByteArray × ByteArray)) (hs : s.size ≤ 1048576) (hl : pairsSize l + 3 * l.length ≤ 1048576) : posternlaw03_PercentFields.f 16777216 s (l.map toF) = some true := by
  have hf := fieldsB_len s
  unfold posternlaw03_PercentFields.f posternlaw03_awake.f
  rw [RFields_is s (by omega) _ (by omega), Option.bind_some, given_is l (by omega) _ (by omega), Option.bind_some, Option.bind_some, if_pos rfl, Fields_is s (by omega) _ (by omega), Option.bind_some]
  simp only []
  rw [fields_is _ (by omega) _ (by omega), Option.bind_some, if_pos rfl, Written_is l (by omega) _ (by omega), Option.bind_some, RWritten_is l (by omega) _ (by omega), Option.bind_some, if_pos rfl, fields_is l (by omega) _ (by omega), Option.bind_some]
theorem C_pairs {w : World} {A : Option Addr} {l : List (ByteArray × ByteArray)} (h : Pairs w A l) : Kd.C k46 w A (l.map toF).length (l.map toF) := by
  rw [List.length_map]
  refine ⟨by rw [List.length_map], h.2.1, fun hn => ?_⟩
  obtain ⟨ad, e, hc⟩ := h.2.2 hn
  refine ⟨ad, e, fun j p hj => ?_⟩
  rw [List.getElem?_map] at hj
  obtain ⟨q, hq, rfl⟩ := Option.map_eq_some_iff.1 hj
  obtain ⟨c, h1, h2, h3⟩ := hc j q hq
  refine ⟨c, h1, ?_, h3⟩
  rw [h2]
  exact k46_mk w (toF q)
theorem percentFields_any (s : ByteArray) (l : List (ByteArray × ByteArray)) (A : Option Addr) (c : Nat) (w : World) (hs : s.size ≤ 1048576) (hR : Pairs w A l) (hc : l.length ≤ c) (hl : pairsSize l + 3 * l.length ≤ 1048576) (T : TabM w) :
    Calls Tryd.prog 7 #[.string s, .slice A l.length c] w fun e w' => e = .returned (.bool true) ∧ Below w.heap.size w w' := by
  have h := posternlaw03_PercentFields.calls 16777216 s A c (l.map toF) true w (C_pairs hR) (by rw [List.length_map]; exact hc) (percentFields_pure s l hs hl) T
  rw [List.length_map] at h
  exact h
end FC
end Go.Proofs.YtfbgmlophkbejaaDoor
