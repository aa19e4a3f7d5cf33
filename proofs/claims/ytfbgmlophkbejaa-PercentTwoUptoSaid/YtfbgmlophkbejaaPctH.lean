/- Percent: a text in two parts: where no coded byte stands across, what it says is what the parts say; what is not sure at the end of a text. Plain. -/
import Derived.Test.YtfbgmlophkbejaaPctF
set_option linter.unusedVariables false
set_option linter.unusedSimpArgs false
namespace Go.Proofs.Ytfbgmlophkbejaa
open Go.RowKit Go.Proofs.YtfbgmlophkbejaaW.PrintWords Go.Proofs.YtfbgmlophkbejaaW.PrintLast
theorem bt_out (s : ByteArray) (i : Int) (h : (s.size : Int) ≤ i) : bt s i = 0 := by
  unfold bt
  rw [dif_neg (by omega)]
theorem bt_app (s t : ByteArray) (i : Int) (h0 : 0 ≤ i) : bt (s ++ t) i = if i < s.size then bt s i else bt t (i - s.size) := by
  have hsz : (s ++ t).size = s.size + t.size := ByteArray.size_append
  unfold bt
  by_cases h : i < s.size
  · rw [if_pos h, dif_pos (by omega), dif_pos (by omega), ByteArray.getElem_append_left (by omega)]
  · rw [if_neg h]
    by_cases h2 : i.toNat < (s ++ t).size
    · rw [dif_pos h2, dif_pos (by omega), ByteArray.getElem_append_right (by omega)]
      congr 3
      omega
    · rw [dif_neg h2, dif_neg (by omega)]
theorem bt_ext (s : ByteArray) (a b : Nat) (hb : b ≤ s.size) (i : Int) (h0 : 0 ≤ i) : bt (s.extract a b) i = if i < (b : Int) - a then bt s (a + i) else 0 := by
  have e : (s.extract a b).size = b - a := by rw [ByteArray.size_extract]; omega
  split
  · unfold bt
    rw [dif_pos (by omega), dif_pos (by omega)]
    have h3 : (s.extract a b)[i.toNat]'(by omega) = s[a + i.toNat]'(by omega) := ByteArray.getElem_extract _
    rw [h3]
    congr 3
    omega
  · exact bt_out _ _ (by omega)
theorem size_ext (s : ByteArray) (a b : Nat) (hb : b ≤ s.size) : (s.extract a b).size = b - a := by rw [ByteArray.size_extract]; omega
theorem ba_ext {s t : ByteArray} (h : s.size = t.size) (h2 : ∀ i : Int, 0 ≤ i → i < s.size → bt s i = bt t i) : s = t := by
  rw [← strOfNums_bytesOf s, ← strOfNums_bytesOf t]
  congr 1
  refine ext_rd (by rw [bytesOf_length, bytesOf_length, h]) fun i h0 h1 => ?_
  rw [rd_bytesOf, rd_bytesOf]
  exact h2 i h0 (by rw [bytesOf_length] at h1; exact h1)
theorem isC_tail (x : ByteArray) (c : Nat) (hc : c ≤ x.size) (p : Int) (h0 : 0 ≤ p) : isC (x.extract c x.size) p = isC x (c + p) := by
  have e := size_ext x c x.size (Nat.le_refl _)
  by_cases h : p + 2 < (x.size : Int) - c
  · unfold isC
    rw [bt_ext x c x.size (Nat.le_refl _) p h0, bt_ext x c x.size (Nat.le_refl _) (p + 1) (by omega), bt_ext x c x.size (Nat.le_refl _) (p + 2) (by omega), if_pos (by omega), if_pos (by omega), if_pos (by omega), show decide (p + 2 < ((x.extract c x.size).size : Int)) = true from decide_eq_true (by omega), show decide ((c : Int) + p + 2 < (x.size : Int)) = true from decide_eq_true (by omega), show (c : Int) + (p + 1) = c + p + 1 by omega, show (c : Int) + (p + 2) = c + p + 2 by omega]
  · unfold isC
    rw [show decide (p + 2 < ((x.extract c x.size).size : Int)) = false from decide_eq_false (by omega), show decide ((c : Int) + p + 2 < (x.size : Int)) = false from decide_eq_false (by omega)]
    rfl
theorem byteC_tail (x : ByteArray) (c : Nat) (hc : c ≤ x.size) (p : Int) (h0 : 0 ≤ p) (h1 : p < (x.size : Int) - c) : byteC (x.extract c x.size) p = byteC x (c + p) := by
  have hi := isC_tail x c hc p h0
  unfold byteC
  rw [hi]
  split
  · have := isC_room ‹isC x (c + p) = true›
    unfold sayC
    rw [bt_ext x c x.size (Nat.le_refl _) (p + 1) (by omega), bt_ext x c x.size (Nat.le_refl _) (p + 2) (by omega), if_pos (by omega), if_pos (by omega), show (c : Int) + (p + 1) = c + p + 1 by omega, show (c : Int) + (p + 2) = c + p + 2 by omega]
  · rw [bt_ext x c x.size (Nat.le_refl _) p h0, if_pos h1]
theorem items_tail (x : ByteArray) (c : Nat) (hc : c ≤ x.size) (n : Nat) : ∀ p : Int, 0 ≤ p → c + p ≤ x.size → ((x.size : Int) - c - p).toNat = n → (itemsF x (c + p)).map (byteC x) = (itemsF (x.extract c x.size) p).map (byteC (x.extract c x.size)) := by
  have e := size_ext x c x.size (Nat.le_refl _)
  induction n using Nat.strongRecOn with
  | _ n ih =>
    intro p h0 h1 hn
    by_cases h : c + p < x.size
    · have hx : nxtC (x.extract c x.size) p + c = nxtC x (c + p) := by
        unfold nxtC
        rw [isC_tail x c hc p h0]
        split <;> omega
      have hg := nxtC_gt x (c + p)
      have hl := nxtC_le x (c + p) h
      rw [itemsF_go h, itemsF_go (s := x.extract c x.size) (p := p) (by omega), List.map_cons, List.map_cons, byteC_tail x c hc p h0 (by omega), ← ih _ (by omega) (nxtC (x.extract c x.size) p) (by omega) (by omega) rfl, show (c : Int) + nxtC (x.extract c x.size) p = nxtC x (c + p) by omega]
    · rw [show (c : Int) + p = x.size by omega, itemsF_end, show p = ((x.extract c x.size).size : Nat) by omega, itemsF_end]
      rfl
theorem isC_head (x : ByteArray) (c : Nat) (hc : c ≤ x.size) (p : Int) (h0 : 0 ≤ p) (hA : isC x p = true → p + 3 ≤ c) : isC (x.extract 0 c) p = isC x p := by
  have e := size_ext x 0 c hc
  by_cases h : p + 2 < (c : Int)
  · unfold isC
    rw [bt_ext x 0 c hc p h0, bt_ext x 0 c hc (p + 1) (by omega), bt_ext x 0 c hc (p + 2) (by omega), if_pos (by omega), if_pos (by omega), if_pos (by omega), show decide (p + 2 < ((x.extract 0 c).size : Int)) = true from decide_eq_true (by omega), show decide (p + 2 < (x.size : Int)) = true from decide_eq_true (by omega)]
    simp only [Int.natCast_zero, Int.zero_add]
  · have h1 : isC x p = false := by
      cases hx : isC x p
      · rfl
      · have := hA hx; omega
    rw [h1]
    unfold isC
    rw [show decide (p + 2 < ((x.extract 0 c).size : Int)) = false from decide_eq_false (by omega)]
    rfl
theorem byteC_head (x : ByteArray) (c : Nat) (hc : c ≤ x.size) (p : Int) (h0 : 0 ≤ p) (h1 : p < c) (hA : isC x p = true → p + 3 ≤ c) : byteC (x.extract 0 c) p = byteC x p := by
  unfold byteC
  rw [isC_head x c hc p h0 hA]
  split
  · have := hA ‹_›
    unfold sayC
    rw [bt_ext x 0 c hc (p + 1) (by omega), bt_ext x 0 c hc (p + 2) (by omega), if_pos (by omega), if_pos (by omega)]
    simp only [Int.natCast_zero, Int.zero_add]
  · rw [bt_ext x 0 c hc p h0, if_pos (by omega)]
    simp only [Int.natCast_zero, Int.zero_add]
theorem items_head (x : ByteArray) (c : Nat) (hc : c ≤ x.size) (hA : ∀ p : Int, 0 ≤ p → p < c → isC x p = true → p + 3 ≤ c) (n : Nat) : ∀ p : Int, 0 ≤ p → p ≤ c → ((c : Int) - p).toNat = n →
    (itemsF x p).map (byteC x) = (itemsF (x.extract 0 c) p).map (byteC (x.extract 0 c)) ++ (itemsF x c).map (byteC x) := by
  have e := size_ext x 0 c hc
  induction n using Nat.strongRecOn with
  | _ n ih =>
    intro p h0 h1 hn
    by_cases h : p < c
    · have hx : nxtC (x.extract 0 c) p = nxtC x p := by
        unfold nxtC
        rw [isC_head x c hc p h0 (hA p h0 h)]
      have hg := nxtC_gt x p
      have hl : nxtC x p ≤ c := by
        unfold nxtC
        split
        · exact hA p h0 h ‹_›
        · omega
      rw [itemsF_go (show p < x.size by omega), itemsF_go (show p < (x.extract 0 c).size by omega), List.map_cons, List.map_cons, byteC_head x c hc p h0 h (hA p h0 h), hx, List.cons_append, ih _ (by omega) (nxtC x p) (by omega) hl rfl]
    · obtain rfl : p = c := by omega
      have h2 : itemsF (x.extract 0 c) c = [] := by
        have := itemsF_end (x.extract 0 c)
        rw [e] at this
        exact this
      rw [h2]
      rfl
theorem dec_split (x : ByteArray) (c : Nat) (hc : c ≤ x.size) (hA : ∀ p : Int, 0 ≤ p → p < c → isC x p = true → p + 3 ≤ c) : decL x = decL (x.extract 0 c) ++ decL (x.extract c x.size) := by
  unfold decL
  rw [items_head x c hc hA _ 0 (by omega) (by omega) rfl, ← items_tail x c hc _ 0 (by omega) (by omega) rfl, show (c : Int) + 0 = c by omega]
theorem strOfNums_append (a b : List Int) : strOfNums (a ++ b) = strOfNums a ++ strOfNums b := by
  apply ByteArray.ext
  simp [strOfNums]
/-- how many bytes at the end of a text are not sure -/
def usz (s : ByteArray) : Int := if 0 < s.size ∧ bt s (s.size - 1) = 37 then 1 else if 1 < s.size ∧ bt s (s.size - 2) = 37 ∧ 0 ≤ dig (bt s (s.size - 1)) 16 then 2 else 0
def sureP (s : ByteArray) : ByteArray := s.extract 0 (s.size - usz s).toNat
def heldP (s : ByteArray) : ByteArray := s.extract (s.size - usz s).toNat s.size
theorem usz_range (s : ByteArray) : 0 ≤ usz s ∧ usz s ≤ 2 ∧ usz s ≤ s.size := by
  unfold usz
  split
  · omega
  · split <;> omega
theorem dig_37 : dig 37 16 = -1 := by decide
/-- nothing stands across the place from which on a text is not sure, whatever comes behind it -/
theorem sure_split (s t : ByteArray) : decL (s ++ t) = decL (sureP s) ++ decL (heldP s ++ t) := by
  obtain ⟨u0, u1, u2⟩ := usz_range s
  have hsz : (s ++ t).size = s.size + t.size := ByteArray.size_append
  obtain ⟨c, hc⟩ : ∃ c : Nat, (c : Int) = s.size - usz s := ⟨(s.size - usz s).toNat, by omega⟩
  have e1 : (s ++ t).extract 0 c = sureP s := by
    have : (s.size - usz s).toNat = c := by omega
    unfold sureP
    rw [this]
    refine ba_ext (by rw [size_ext _ _ _ (by omega), size_ext _ _ _ (by omega)]) fun i h0 h1 => ?_
    rw [size_ext _ _ _ (by omega)] at h1
    rw [bt_ext _ _ _ (by omega) i h0, bt_ext _ _ _ (by omega) i h0, if_pos (by omega), if_pos (by omega), bt_app _ _ _ (by omega), if_pos (by omega)]
  have e2 : (s ++ t).extract c (s ++ t).size = heldP s ++ t := by
    have : (s.size - usz s).toNat = c := by omega
    unfold heldP
    rw [this]
    have e3 := size_ext s c s.size (Nat.le_refl _)
    have e4 : (s.extract c s.size ++ t).size = (s.extract c s.size).size + t.size := ByteArray.size_append
    refine ba_ext (by rw [size_ext _ _ _ (Nat.le_refl _)]; omega) fun i h0 h1 => ?_
    rw [size_ext _ _ _ (by omega)] at h1
    rw [bt_ext _ _ _ (by omega) i h0, if_pos (by omega), bt_app _ _ _ (by omega), bt_app _ _ _ (by omega), e3]
    by_cases h : i < ((s.size - c : Nat) : Int)
    · rw [if_pos (by omega), if_pos h, bt_ext _ _ _ (by omega) i h0, if_pos (by omega)]
    · rw [if_neg (by omega), if_neg h]
      congr 1
      omega
  rw [dec_split (s ++ t) c (by omega) ?_, e1, e2]
  intro p h0 h1 hC
  rcases Int.lt_or_le (c : Int) (p + 3) with h | h
  · exfalso
    unfold isC at hC
    simp only [Bool.and_eq_true, decide_eq_true_eq, beq_iff_eq] at hC
    obtain ⟨⟨⟨hr, h37⟩, d1⟩, d2⟩ := hC
    rw [bt_app s t p h0, if_pos (by omega)] at h37
    unfold usz at hc
    by_cases q1 : 0 < s.size ∧ bt s (s.size - 1) = 37
    · rw [if_pos q1] at hc
      have hcc : bt (s ++ t) c = 37 := by rw [bt_app s t c (by omega), if_pos (by omega), hc]; exact q1.2
      rcases (by omega : (c : Int) = p + 1 ∨ (c : Int) = p + 2) with hp | hp
      · rw [← hp, hcc, dig_37] at d1; omega
      · rw [← hp, hcc, dig_37] at d2; omega
    · rw [if_neg q1] at hc
      by_cases q2 : 1 < s.size ∧ bt s (s.size - 2) = 37 ∧ 0 ≤ dig (bt s (s.size - 1)) 16
      · rw [if_pos q2] at hc
        have hcc : bt (s ++ t) c = 37 := by rw [bt_app s t c (by omega), if_pos (by omega), hc]; exact q2.2.1
        rcases (by omega : (c : Int) = p + 1 ∨ (c : Int) = p + 2) with hp | hp
        · rw [← hp, hcc, dig_37] at d1; omega
        · rw [← hp, hcc, dig_37] at d2; omega
      · rw [if_neg q2] at hc
        rcases (by omega : p = s.size - 1 ∨ p = s.size - 2) with hp | hp
        · exact q1 ⟨by omega, by rw [← hp]; exact h37⟩
        · refine q2 ⟨by omega, by rw [← hp]; exact h37, ?_⟩
          rw [bt_app s t (p + 1) (by omega), if_pos (by omega)] at d1
          rw [show (s.size : Int) - 1 = p + 1 by omega]
          exact d1
  · exact h
theorem held_bt (s t : ByteArray) (i : Int) (h0 : 0 ≤ i) (h1 : i < usz s + t.size) : bt (heldP s ++ t) i = bt (s ++ t) (s.size - usz s + i) := by
  obtain ⟨u0, u1, u2⟩ := usz_range s
  have hh : ((heldP s).size : Int) = usz s := by unfold heldP; rw [size_ext _ _ _ (Nat.le_refl _)]; omega
  rw [bt_app _ _ _ h0, bt_app _ _ _ (by omega)]
  by_cases h : i < usz s
  · rw [if_pos (by omega), if_pos (by omega)]
    unfold heldP
    rw [bt_ext _ _ _ (Nat.le_refl _) i h0, if_pos (by omega)]
    congr 1
    omega
  · rw [if_neg (by omega), if_neg (by omega)]
    congr 1
    omega
/-- what is held of a text is held of all that is left of it -/
theorem usz_held (s t : ByteArray) : usz (s ++ t) = usz (heldP s ++ t) := by
  obtain ⟨u0, u1, u2⟩ := usz_range s
  have hsz : (s ++ t).size = s.size + t.size := ByteArray.size_append
  have hh : ((heldP s).size : Int) = usz s := by unfold heldP; rw [size_ext _ _ _ (Nat.le_refl _)]; omega
  have hsz2 : ((heldP s ++ t).size : Int) = usz s + t.size := by rw [ByteArray.size_append]; omega
  have hl := held_bt s t
  have hlast : 0 < usz s + t.size → bt (heldP s ++ t) ((heldP s ++ t).size - 1) = bt (s ++ t) ((s ++ t).size - 1) := fun h => by
    rw [hl _ (by omega) (by omega)]
    congr 1
    omega
  have hprev : 1 < usz s + t.size → bt (heldP s ++ t) ((heldP s ++ t).size - 2) = bt (s ++ t) ((s ++ t).size - 2) := fun h => by
    rw [hl _ (by omega) (by omega)]
    congr 1
    omega
  rcases (by omega : 1 < usz s + t.size ∨ usz s + t.size = 1 ∨ usz s + t.size = 0) with h | h | h
  · have a := hlast (by omega)
    have b := hprev h
    unfold usz at *
    rw [a, b]
    have c1 : 0 < (heldP s ++ t).size ↔ 0 < (s ++ t).size := by omega
    have c2 : 1 < (heldP s ++ t).size ↔ 1 < (s ++ t).size := by omega
    simp only [c1, c2]
  · have a := hlast (by omega)
    have hv : usz (heldP s ++ t) = if bt (s ++ t) ((s ++ t).size - 1) = 37 then 1 else 0 := by
      unfold usz
      rw [a]
      by_cases q : bt (s ++ t) ((s ++ t).size - 1) = 37
      · rw [if_pos ⟨by omega, q⟩, if_pos q]
      · rw [if_neg (fun g => q g.2), if_neg q, if_neg (fun g => by omega)]
    rw [hv]
    have hd : usz (s ++ t) = if 0 < (s ++ t).size ∧ bt (s ++ t) ((s ++ t).size - 1) = 37 then 1 else if 1 < (s ++ t).size ∧ bt (s ++ t) ((s ++ t).size - 2) = 37 ∧ 0 ≤ dig (bt (s ++ t) ((s ++ t).size - 1)) 16 then 2 else 0 := rfl
    rw [hd]
    by_cases q : bt (s ++ t) ((s ++ t).size - 1) = 37
    · rw [if_pos ⟨by omega, q⟩, if_pos q]
    · rw [if_neg (fun g => q g.2), if_neg q, if_neg]
      rintro ⟨g1, g2, g3⟩
      rcases (by omega : (usz s = 0 ∧ t.size = 1) ∨ (usz s = 1 ∧ t.size = 0)) with ⟨k1, k2⟩ | ⟨k1, k2⟩
      · rw [bt_app _ _ _ (by omega), if_pos (by omega), show ((s ++ t).size : Int) - 2 = s.size - 1 by omega] at g2
        have : usz s = 1 := by unfold usz; rw [if_pos ⟨by omega, g2⟩]
        omega
      · refine q ?_
        rw [bt_app _ _ _ (by omega), if_pos (by omega), show ((s ++ t).size : Int) - 1 = s.size - 1 by omega]
        unfold usz at k1
        by_cases r : 0 < s.size ∧ bt s (s.size - 1) = 37
        · exact r.2
        · rw [if_neg r] at k1
          split at k1 <;> omega
  · have k1 : usz s = 0 := by omega
    have k2 : t.size = 0 := by omega
    have e : usz (s ++ t) = usz s := by
      have : s ++ t = s := ba_ext (by omega) fun i h0 h1 => by rw [bt_app _ _ _ h0, if_pos (by omega)]
      rw [this]
    rw [e, k1]
    have := usz_range (heldP s ++ t)
    omega
theorem held_step (s t : ByteArray) : heldP (s ++ t) = heldP (heldP s ++ t) := by
  obtain ⟨u0, u1, u2⟩ := usz_range s
  have hu := usz_held s t
  obtain ⟨v0, v1, v2⟩ := usz_range (heldP s ++ t)
  have hsz : (s ++ t).size = s.size + t.size := ByteArray.size_append
  have hh : ((heldP s).size : Int) = usz s := by unfold heldP; rw [size_ext _ _ _ (Nat.le_refl _)]; omega
  have hsz2 : ((heldP s ++ t).size : Int) = usz s + t.size := by rw [ByteArray.size_append]; omega
  have d : ∀ x : ByteArray, heldP x = x.extract (x.size - usz x).toNat x.size := fun _ => rfl
  rw [d (s ++ t), d (heldP s ++ t), hu]
  have hl := held_bt s t
  generalize heldP s ++ t = y at *
  refine ba_ext (by rw [size_ext _ _ _ (Nat.le_refl _), size_ext _ _ _ (Nat.le_refl _)]; omega) fun i h0 h1 => ?_
  rw [size_ext _ _ _ (Nat.le_refl _)] at h1
  rw [bt_ext _ _ _ (Nat.le_refl _) i h0, bt_ext _ _ _ (Nat.le_refl _) i h0, if_pos (by omega), if_pos (by omega), hl _ (by omega) (by omega)]
  congr 1
  omega
/-- what is held says itself -/
theorem dec_held (s : ByteArray) : decL (heldP s) = bytesOf (heldP s) := by
  obtain ⟨u0, u1, u2⟩ := usz_range s
  have hh : ((heldP s).size : Int) = usz s := by unfold heldP; rw [size_ext _ _ _ (Nat.le_refl _)]; omega
  generalize heldP s = y at *
  have hno : ∀ p : Int, 0 ≤ p → isC y p = false := fun p h0 => by
    unfold isC
    rw [decide_eq_false (by omega)]
    rfl
  have hb : ∀ p : Int, 0 ≤ p → byteC y p = bt y p := fun p h0 => by unfold byteC; rw [hno p h0]; rfl
  have hn : ∀ p : Int, 0 ≤ p → nxtC y p = p + 1 := fun p h0 => by unfold nxtC; rw [hno p h0]; rfl
  have key : ∀ n : Nat, ∀ p : Int, 0 ≤ p → p ≤ y.size → ((y.size : Int) - p).toNat = n → (itemsF y p).map (byteC y) = (bytesOf y).drop p.toNat := by
    intro n
    induction n with
    | zero =>
      intro p h0 h1 h2
      obtain rfl : p = y.size := by omega
      rw [itemsF_end, List.drop_of_length_le (by rw [bytesOf_length]; omega)]
      rfl
    | succ n ih =>
      intro p h0 h1 h2
      have hl : p.toNat < (bytesOf y).length := by rw [bytesOf_length]; omega
      rw [itemsF_go (by omega), List.map_cons, hb p h0, hn p h0, ih (p + 1) (by omega) (by omega) (by omega), List.drop_eq_getElem_cons hl]
      congr 1
      · rw [← rd_bytesOf]
        simp [rd, List.getD_eq_getElem?_getD, List.getElem?_eq_getElem hl]
      · congr 1
        omega
  unfold decL
  rw [key _ 0 (by omega) (by omega) rfl]
  rfl
/-- the whole is what is sure and what is held -/
theorem dec_end (s : ByteArray) : decS (sureP s) ++ heldP s = decS s := by
  have h := sure_split s ByteArray.empty
  rw [ByteArray.append_empty, ByteArray.append_empty, dec_held] at h
  unfold decS
  rw [h, strOfNums_append, strOfNums_bytesOf]
/-- a piece more -/
theorem dec_step (s t : ByteArray) : decS (sureP s) ++ decS (sureP (heldP s ++ t)) = decS (sureP (s ++ t)) := by
  have h1 := sure_split s t
  have h2 := sure_split (s ++ t) ByteArray.empty
  have h3 := sure_split (heldP s ++ t) ByteArray.empty
  rw [ByteArray.append_empty, ByteArray.append_empty] at h2 h3
  rw [h2, held_step s t, h3, ← List.append_assoc] at h1
  have h4 := List.append_cancel_right h1
  unfold decS
  rw [h4, strOfNums_append]
theorem held_empty : heldP ByteArray.empty = ByteArray.empty := by decide +kernel
theorem sure_empty : sureP ByteArray.empty = ByteArray.empty := by decide +kernel
theorem dec_empty : decS ByteArray.empty = ByteArray.empty := by
  unfold decS decL
  have := itemsF_end ByteArray.empty
  rw [show ((ByteArray.empty.size : Nat) : Int) = 0 from rfl] at this
  rw [this]
  rfl
/-- the first k pieces in one -/
def catS (l : List ByteArray) (k : Nat) : ByteArray := (l.take k).foldl (· ++ ·) ByteArray.empty
theorem catS_zero (l : List ByteArray) : catS l 0 = ByteArray.empty := rfl
theorem catS_succ (l : List ByteArray) (k : Nat) (h : k < l.length) : catS l (k + 1) = catS l k ++ l.getD k ByteArray.empty := by
  unfold catS
  rw [List.take_succ_eq_append_getElem h, List.foldl_append, List.getD_eq_getElem?_getD, List.getElem?_eq_getElem h]
  rfl
def sizeS (l : List ByteArray) : Nat := (l.map (·.size)).sum
theorem catS_size (l : List ByteArray) (k : Nat) : (catS l k).size ≤ sizeS l := by
  have key : ∀ (l : List ByteArray) (a : ByteArray), (l.foldl (· ++ ·) a).size = a.size + sizeS l := by
    intro l
    induction l with
    | nil => intro a; simp [sizeS]
    | cons x l ih => intro a; rw [List.foldl_cons, ih, ByteArray.size_append]; simp [sizeS]; omega
  have h2 : sizeS (l.take k) ≤ sizeS l := by
    have : sizeS l = sizeS (l.take k) + sizeS (l.drop k) := by
      unfold sizeS
      rw [← List.sum_append, ← List.map_append, List.take_append_drop]
    omega
  unfold catS
  rw [key]
  have : ByteArray.empty.size = 0 := rfl
  omega
end Go.Proofs.Ytfbgmlophkbejaa
