/- Forms: what the printed functions come to: fields of a text. Plain. -/
import Derived.Test.YtfbgmlophkbejaaDoorFrmB
import Derived.Test.YtfbgmlophkbejaaDoorQPfax3
import Derived.Test.YtfbgmlophkbejaaDoorQPfax2
import Derived.Test.YtfbgmlophkbejaaDoorQPfax1
import Derived.Test.YtfbgmlophkbejaaDoorQPfax0
import Derived.Test.YtfbgmlophkbejaaDoorQPfax4
import Derived.Test.YtfbgmlophkbejaaDoorQPfax5
set_option linter.unusedVariables false
set_option linter.unusedSimpArgs false
namespace Go.Proofs.YtfbgmlophkbejaaDoor
open Go.RowKit Go.Proofs.YtfbgmlophkbejaaDoorW.PrintWords Go.Proofs.YtfbgmlophkbejaaDoorW.PrintLast Go.Proofs.YtfbgmlophkbejaaDoorQ.Pfa
namespace FC
theorem scal_is {r : Int} {b : Bool} (h : b = true ↔ ((0 ≤ r ∧ r < 55296) ∨ (57343 < r ∧ r ≤ 1114111))) : scal r = b := by
  cases b with
  | true => exact (scal_iff r).2 (h.1 rfl)
  | false =>
    cases hs : scal r with
    | false => rfl
    | true => exact absurd (h.2 ((scal_iff r).1 hs)) (by simp)
theorem RScalar_is (r : Int) : posternref02_Scalar.f r = some (scal r) := by
  unfold posternref02_Scalar.f
  by_cases h0 : r ≥ 0
  · rw [if_pos h0]
    by_cases h1 : r < 55296
    · rw [if_pos h1, scal_is (b := true) (by simp; omega)]
    · rw [if_neg h1]
      by_cases h2 : r > 57343
      · rw [if_pos h2, scal_is (b := decide (r ≤ 1114111)) (by simp; omega)]
      · rw [if_neg h2, scal_is (b := false) (by simp; omega)]
  · rw [if_neg h0, if_neg (by omega), scal_is (b := false) (by simp; omega)]
/-- m is the place of the first number that is no scalar value, or the list's length -/
structure StopAt (l : List Int) (m : Nat) : Prop where
  le : m ≤ l.length
  ok : ∀ r ∈ l.take m, scal r = true
  stop : m < l.length → scal (rd l m) = false
theorem StopAt.at_ {l : List Int} {m : Nat} (h : StopAt l m) (i : Nat) (hi : i < m) : scal (rd l i) = true := by
  have := h.le
  refine h.ok _ ?_
  have e : rd l i = (l.take m)[i]'(by rw [List.length_take]; omega) := by simp [rd, List.getD_eq_getElem?_getD, List.getElem?_eq_getElem (show i < l.length by omega)]
  rw [e]
  exact List.getElem_mem _
theorem StopAt.full {l : List Int} (h : ∀ r ∈ l, scal r = true) : StopAt l l.length := ⟨Nat.le_refl _, fun r hr => h r (by rw [List.take_length] at hr; exact hr), fun h => by omega⟩
theorem RWidth_is (r : Int) : posternref02_Width.f r = some (wid r) := by
  unfold posternref02_Width.f wid
  rw [RScalar_is]
  simp only [Option.bind_some]
  repeat' split
  all_goals rfl
/-- what Encode tells, by the place of the first number that is no scalar value -/
def encA (l : List Int) (m : Nat) : ByteArray × Int × Int := if m = l.length then (encS l, 0, 0) else (⟨#[]⟩, (m : Int), 20)
theorem encL_take_len (l : List Int) (i : Nat) : (encL (l.take i)).length ≤ 4 * i := by
  have := encL_len (l.take i)
  have := List.length_take_le i l
  omega
theorem REncode_l0 (l : List Int) (m : Nat) (hm : StopAt l m) (hl : l.length ≤ 9000000000000) : ∀ (n k i : Nat), m - i = n → i ≤ m → n + 2 < k → posternref02_Encode.l0 k (encL (l.take i)) l (l.length : Int) (i : Int) = some (encA l m) := by
  intro n
  have hle := hm.le
  induction n with
  | zero =>
    intro k i h1 h2 hk
    obtain ⟨k, rfl⟩ : ∃ m, k = m + 1 := ⟨k - 1, by omega⟩
    obtain rfl : i = m := by omega
    simp only [posternref02_Encode.l0]
    unfold encA
    by_cases he : i = l.length
    · rw [if_neg (by omega), if_pos he, he, List.take_length]; rfl
    · have hs := hm.stop (by omega)
      have hw : wid (rd l i) = 0 := by unfold wid; rw [hs]; rfl
      rw [if_pos (by omega), if_pos (by omega), if_pos (by omega), RWidth_is _, hw, if_neg he]
      rfl
  | succ n ih =>
    intro k i h1 h2 hk
    obtain ⟨k, rfl⟩ : ∃ m, k = m + 1 := ⟨k - 1, by omega⟩
    have hs := hm.at_ i (by omega)
    have ht := take_rd l i (by omega)
    have hlen := encL_take_len l i
    have ih := ih k (i + 1) (by omega) (by omega) (by omega)
    rw [ht, encL_app, encL_one] at ih
    simp only [posternref02_Encode.l0]
    rw [if_pos (by omega), if_pos (by omega), if_pos (by omega), RWidth_is]
    have hr := (scal_iff _).1 hs
    have hw : wid (rd l i) = (if rd l i < 128 then 1 else if rd l i < 2048 then 2 else if rd l i < 65536 then 3 else 4) := by unfold wid; rw [hs]; rfl
    rw [hw]
    generalize rd l (i : Int) = r at *
    clear hw
    simp only [Option.bind_some]
    rw [show wrap64 ((i : Int) + 1) = ((i + 1 : Nat) : Int) by unfold wrap64; omega]
    unfold encB at ih
    by_cases c1 : r < 128
    · rw [if_pos c1] at ih
      simp only [if_pos c1]
      rw [if_neg (by decide), if_pos trivial, if_pos (by omega), show r % 256 = r by omega]
      exact ih
    · rw [if_neg c1] at ih
      simp only [if_neg c1]
      rw [Int.tdiv_eq_ediv_of_nonneg (by omega), Int.tdiv_eq_ediv_of_nonneg (by omega), Int.tdiv_eq_ediv_of_nonneg (by omega), Int.tmod_eq_emod_of_nonneg (by omega), show wrap32 (r / 64) = r / 64 by unfold wrap32; omega, show wrap32 (r / 4096) = r / 4096 by unfold wrap32; omega, show wrap32 (r / 262144) = r / 262144 by unfold wrap32; omega, Int.tmod_eq_emod_of_nonneg (by omega), Int.tmod_eq_emod_of_nonneg (by omega)]
      by_cases c2 : r < 2048
      · rw [if_pos c2] at ih
        simp only [if_pos c2]
        rw [if_neg (by decide), if_neg (by decide), if_pos trivial, if_pos (by simp only [List.length_cons, List.length_nil]; omega), show wrap32 (192 + r / 64) % 256 = 192 + r / 64 by unfold wrap32; omega, show wrap32 (128 + r % 64) % 256 = 128 + r % 64 by unfold wrap32; omega]
        exact ih
      · rw [if_neg c2] at ih
        simp only [if_neg c2]
        by_cases c3 : r < 65536
        · rw [if_pos c3] at ih
          simp only [if_pos c3]
          rw [if_neg (by decide), if_neg (by decide), if_neg (by decide), if_pos trivial, if_pos (by simp only [List.length_cons, List.length_nil]; omega), show wrap32 (224 + r / 4096) % 256 = 224 + r / 4096 by unfold wrap32; omega, show wrap32 (128 + r / 64 % 64) % 256 = 128 + r / 64 % 64 by unfold wrap32; omega, show wrap32 (128 + r % 64) % 256 = 128 + r % 64 by unfold wrap32; omega]
          exact ih
        · rw [if_neg c3] at ih
          simp only [if_neg c3]
          rw [if_neg (by decide), if_neg (by decide), if_neg (by decide), if_neg (by decide), if_pos (by simp only [List.length_cons, List.length_nil]; omega), show wrap32 (240 + r / 262144) % 256 = 240 + r / 262144 by unfold wrap32; omega, show wrap32 (128 + r / 4096 % 64) % 256 = 128 + r / 4096 % 64 by unfold wrap32; omega, show wrap32 (128 + r / 64 % 64) % 256 = 128 + r / 64 % 64 by unfold wrap32; omega, show wrap32 (128 + r % 64) % 256 = 128 + r % 64 by unfold wrap32; omega]
          exact ih
theorem REncode_is (l : List Int) (m : Nat) (hm : StopAt l m) (hl : l.length ≤ 9000000000000) (k : Nat) (hk : l.length + 2 < k) : posternref02_Encode.f k l = some (encA l m) := by
  unfold posternref02_Encode.f
  exact REncode_l0 l m hm hl m k 0 (by omega) (by omega) (by have := hm.le; omega)
def toF (p : ByteArray × ByteArray) : S46 := ⟨p.1, p.2⟩
def toR (p : ByteArray × ByteArray) : S35 := ⟨p.1, p.2⟩
theorem utf8_is (x : ByteArray) (hx : x.size ≤ 1073741824) (k : Nat) (hk : x.size + 2 < k) : posternref03_utf8.f k x = some (encS (decT x)) := by
  unfold posternref03_utf8.f posternref02_Decode.f
  have hl := decT_len4 x
  rw [if_pos (by omega), Option.bind_some, REncode_is (decT x) _ (StopAt.full (decT_scal x)) (by omega) k (by omega)]
  unfold encA
  rw [if_pos rfl]
  rfl
theorem rfd_is (x : ByteArray) (hx : x.size ≤ 1073741824) (k : Nat) (hk : x.size + 2 < k) : ((posternref03_FormDecode.f x).bind fun t => (posternref03_utf8.f k t).bind fun u => (some u : Option ByteArray)) = some (rdF x) := by
  unfold posternref03_FormDecode.f
  have hz := fdecS_size x
  rw [if_pos hx, Option.bind_some, utf8_is _ (by omega) k (by omega)]
  rfl
theorem rdF_nil : rdF (ba []) = ⟨#[]⟩ := by
  have h := rdF_size (ba [])
  exact ba_ext (by have : (ba []).size = 0 := rfl; show _ = 0; omega) fun i h0 h1 => by have : (ba []).size = 0 := rfl; omega
theorem one_l0 (p : ByteArray) (hp : p.size ≤ 1073741824) : ∀ (n k i : Nat), p.size - i = n → i ≤ p.size → n + p.size + 5 < k → (61 : UInt8) ∉ p.data.toList.take i → posternref03_one.l0 k p (i : Int) = some (fieldB p) := by
  intro n
  induction n with
  | zero =>
    intro k i h1 h2 hk hm
    obtain ⟨k, rfl⟩ : ∃ m, k = m + 1 := ⟨k - 1, by omega⟩
    obtain rfl : i = p.size := by omega
    rw [List.take_of_length_le (by rw [data_length]; exact Nat.le_refl _)] at hm
    simp only [posternref03_one.l0]
    rw [if_neg (by omega)]
    have hu := fdecS_size p
    unfold posternref03_FormDecode.f
    rw [if_pos hp, Option.bind_some, utf8_is _ (by omega) k (by omega), Option.bind_some]
    unfold fieldB
    rw [cut_miss _ _ hm, data_ba, rdF_nil]
    rfl
  | succ n ih =>
    intro k i h1 h2 hk hm
    obtain ⟨k, rfl⟩ : ∃ m, k = m + 1 := ⟨k - 1, by omega⟩
    have hl : i < p.data.toList.length := by rw [data_length]; omega
    simp only [posternref03_one.l0]
    rw [if_pos (by omega), if_pos (by omega)]
    have hb := bt_byte p i (by omega) 61
    by_cases he : bt p i = 61
    · rw [if_pos he, if_pos (by omega), show wrap64 ((i : Int) + 1) = ((i + 1 : Nat) : Int) by unfold wrap64; omega]
      have hg := hb.1 he
      have hsplit : p.data.toList = p.data.toList.take i ++ 61 :: p.data.toList.drop (i + 1) := by
        rw [List.getElem?_eq_getElem hl] at hg
        have e : p.data.toList[i] = 61 := Option.some.inj hg
        rw [← e, ← List.drop_eq_getElem_cons hl, List.take_append_drop]
      have e1 : p.extract 0 (i : Int).toNat = ba (p.data.toList.take i) := by rw [ext_ba]; simp
      have e2 : p.extract ((i + 1 : Nat) : Int).toNat p.size = ba (p.data.toList.drop (i + 1)) := by
        rw [ext_ba, List.take_of_length_le (by rw [List.length_drop, data_length]; omega)]
        congr 1
      rw [e1, e2]
      have s1 : (ba (p.data.toList.take i)).size ≤ p.size := by rw [ba_size, List.length_take, data_length]; omega
      have s2 : (ba (p.data.toList.drop (i + 1))).size ≤ p.size := by rw [ba_size, List.length_drop, data_length]; omega
      have u1 := fdecS_size (ba (p.data.toList.take i))
      have u2 := fdecS_size (ba (p.data.toList.drop (i + 1)))
      unfold posternref03_FormDecode.f
      rw [if_pos (by omega), Option.bind_some, utf8_is _ (by omega) k (by omega), Option.bind_some, if_pos (by omega), if_pos (by omega), if_pos (by omega), Option.bind_some, utf8_is _ (by omega) k (by omega), Option.bind_some]
      unfold fieldB
      conv => rhs; rw [hsplit, cut_hit _ _ _ hm]
      rfl
    · rw [if_neg he, show wrap64 ((i : Int) + 1) = ((i + 1 : Nat) : Int) by unfold wrap64; omega]
      refine ih k (i + 1) (by omega) (by omega) (by omega) fun hx => ?_
      rw [List.take_succ_eq_append_getElem hl, List.mem_append, List.mem_singleton] at hx
      rcases hx with hx | hx
      · exact hm hx
      · exact he (hb.2 (by rw [List.getElem?_eq_getElem hl, ← hx]))
theorem one_is (p : ByteArray) (hp : p.size ≤ 1073741824) (k : Nat) (hk : 2 * p.size + 5 < k) : posternref03_one.f k p = some (fieldB p) := by
  unfold posternref03_one.f
  exact one_l0 p hp p.size k 0 (by omega) (by omega) (by omega) (by simp)
/-- the fields of pieces -/
def gB (l : List (List UInt8)) : List (ByteArray × ByteArray) := ((l.map ba).filter fun p => decide (0 < p.size)).map fieldB
theorem gB_cons (p : List UInt8) (l : List (List UInt8)) : gB (p :: l) = (if 0 < p.length then [fieldB (ba p)] else []) ++ gB l := by
  unfold gB
  rw [List.map_cons, List.filter_cons]
  by_cases h : 0 < p.length
  · rw [if_pos (by rw [ba_size]; exact decide_eq_true h), if_pos h]; rfl
  · rw [if_neg (by rw [ba_size]; simpa using h), if_neg h]; rfl
theorem RFields_l0 (s : ByteArray) (hs : s.size ≤ 1073741824) : ∀ (n k fr i : Nat) (acc : List S35), s.size - i = n → i ≤ s.size → fr ≤ i → 2 * n + 3 * s.size + 12 < k → (38 : UInt8) ∉ (s.data.toList.drop fr).take (i - fr) → acc.length ≤ i →
    posternref03_Fields.l0 k s acc (fr : Int) (i : Int) = some (acc ++ (gB (spl 38 (s.data.toList.drop fr))).map toR, ((s.size - ((spl 38 (s.data.toList.drop fr)).getLastD []).length : Nat) : Int)) := by
  have hL : s.data.toList.length = s.size := data_length s
  intro n
  induction n with
  | zero =>
    intro k fr i acc h1 h2 h3 hk hm ha
    obtain rfl : i = s.size := by omega
    rw [List.take_of_length_le (by rw [List.length_drop, hL]; exact Nat.le_refl _)] at hm
    obtain ⟨k, rfl⟩ : ∃ m, k = m + 3 := ⟨k - 3, by omega⟩
    have hl2 : (spl 38 (s.data.toList.drop fr)).getLastD [] = s.data.toList.drop fr := by rw [spl_none _ _ hm]; rfl
    rw [hl2, List.length_drop, hL, show s.size - (s.size - fr) = fr by omega, spl_none _ _ hm, gB_cons]
    simp only [posternref03_Fields.l0, posternref03_Fields.j1]
    rw [if_pos (by omega), if_neg (by omega), if_neg (by simp)]
    have hw : wrap64 ((s.size : Int) + 1) = (s.size : Int) + 1 := by unfold wrap64; omega
    by_cases hc : fr < s.size
    · have e1 : s.extract (fr : Int).toNat (s.size : Int).toNat = ba (s.data.toList.drop fr) := by
        rw [ext_ba, List.take_of_length_le (by rw [List.length_drop, hL]; simp)]
        rfl
      have hz : (ba (s.data.toList.drop fr)).size ≤ s.size := by rw [ba_size, List.length_drop, hL]; omega
      rw [if_pos (by omega), if_pos (by omega), if_pos (by omega), if_pos (by omega), e1, one_is _ (by omega) _ (by omega), Option.bind_some, if_pos (by omega), Option.bind_some, if_neg (by omega), hw, if_neg (by omega)]
      rw [if_pos (by rw [List.length_drop, hL]; omega)]
      rfl
    · rw [if_neg (by omega), if_neg (by omega), hw, if_neg (by omega), if_neg (by rw [List.length_drop, hL]; omega)]
      simp [gB]
  | succ n ih =>
    intro k fr i acc h1 h2 h3 hk hm ha
    obtain ⟨k, rfl⟩ : ∃ m, k = m + 2 := ⟨k - 2, by omega⟩
    have hl : i < s.data.toList.length := by rw [hL]; omega
    have hw : wrap64 ((i : Int) + 1) = ((i + 1 : Nat) : Int) := by unfold wrap64; omega
    have hb := bt_byte s i (by omega) 38
    simp only [posternref03_Fields.l0, posternref03_Fields.j1]
    rw [if_pos (by omega), if_pos (by omega), if_pos (by omega)]
    have hdl : i - fr < (s.data.toList.drop fr).length := by rw [List.length_drop]; omega
    have hge : (s.data.toList.drop fr)[i - fr]'hdl = s.data.toList[i] := by rw [List.getElem_drop]; congr 1; omega
    by_cases he : bt s i = 38
    · have hg := hb.1 he
      rw [List.getElem?_eq_getElem hl] at hg
      have e : s.data.toList[i] = 38 := Option.some.inj hg
      have hsp : s.data.toList.drop fr = (s.data.toList.drop fr).take (i - fr) ++ 38 :: s.data.toList.drop (i + 1) := by
        have : s.data.toList.drop (i + 1) = (s.data.toList.drop fr).drop (i - fr + 1) := by rw [List.drop_drop]; congr 1; omega
        rw [this, ← e, ← hge, ← List.drop_eq_getElem_cons hdl, List.take_append_drop]
      have hspl : spl 38 (s.data.toList.drop fr) = (s.data.toList.drop fr).take (i - fr) :: spl 38 (s.data.toList.drop (i + 1)) := by
        conv => lhs; rw [hsp]
        exact spl_hit 38 _ _ hm
      have hlast : (spl 38 (s.data.toList.drop fr)).getLastD [] = (spl 38 (s.data.toList.drop (i + 1))).getLastD [] := by
        rw [hspl]
        obtain ⟨p, ps, hp⟩ := List.exists_cons_of_ne_nil (spl_ne 38 (s.data.toList.drop (i + 1)))
        rw [hp]
        rfl
      rw [if_neg (by rw [he]; decide), hlast, hspl, gB_cons, List.length_take, Nat.min_eq_left (by omega)]
      have ih := fun acc ha => ih k (i + 1) (i + 1) acc (by omega) (by omega) (by omega) (by omega) (by simp) ha
      by_cases hc : fr < i
      · have e1 : s.extract (fr : Int).toNat (i : Int).toNat = ba ((s.data.toList.drop fr).take (i - fr)) := by rw [ext_ba]; rfl
        have hz : (ba ((s.data.toList.drop fr).take (i - fr))).size ≤ s.size := by rw [ba_size, List.length_take]; omega
        rw [if_pos (by omega), if_pos (by omega), if_pos (by omega), if_pos (by omega), e1, one_is _ (by omega) _ (by omega), Option.bind_some, if_pos (by omega), Option.bind_some, if_pos (by omega), hw, ih _ (by rw [List.length_append, List.length_singleton]; omega), if_pos (by omega)]
        simp [toR]
      · rw [if_neg (by omega), if_pos (by omega), hw, ih _ (by omega), if_neg (by omega)]
        simp
    · rw [if_pos (by simpa using he), hw]
      refine ih k fr (i + 1) acc (by omega) (by omega) (by omega) (by omega) (fun hx => ?_) (by omega)
      rw [show i + 1 - fr = i - fr + 1 by omega, List.take_succ_eq_append_getElem hdl, List.mem_append, List.mem_singleton] at hx
      rcases hx with hx | hx
      · exact hm hx
      · exact he (hb.2 (by rw [List.getElem?_eq_getElem hl, hx, hge]))
theorem RFields_is (s : ByteArray) (hs : s.size ≤ 1073741824) (k : Nat) (hk : 5 * s.size + 12 < k) : posternref03_Fields.f k s = some ((fieldsB s).map toR, (lastB s : Int)) := by
  unfold posternref03_Fields.f
  have := RFields_l0 s hs s.size k 0 0 [] (by omega) (by omega) (by omega) (by omega) (by simp) (by simp)
  rw [List.drop_zero, List.nil_append] at this
  exact this
theorem ne_bool (p : ByteArray) : (p.toList != ([] : List UInt8)) = decide (0 < p.size) := by
  by_cases h : 0 < p.size
  · have := empty_no h
    rw [decide_eq_true h]
    exact bne_iff_ne.2 fun e => by rw [e] at this; cases this
  · have := empty_yes (s := p) (by omega)
    rw [decide_eq_false h, List.isEmpty_iff.1 this]
    rfl
theorem read_is (x : ByteArray) (hx : x.size ≤ 1073741824) : percent_read.f x = some (rdF x) := by
  unfold percent_read.f percent_FormDecode.f scalar_Clean.f
  have hz := fdecS_size x
  rw [if_pos hx, Option.bind_some, if_pos (by omega)]
  rfl
theorem cut_sizes (l : List UInt8) (c : UInt8) : (ba (Lib.cut l [c]).1).size ≤ l.length ∧ (ba (Lib.cut l [c]).2.1).size ≤ l.length := by
  unfold Lib.cut
  rw [ba_size, ba_size]
  split
  · simp only [List.length_take, List.length_drop]; omega
  · simp
theorem field_is (p : ByteArray) (hp : p.size ≤ 1073741824) : percent_field.f p = some ((fieldB p).1, (fieldB p).2, decide (0 < p.size)) := by
  unfold percent_field.f strings_Cut.f
  obtain ⟨h1, h2⟩ := cut_sizes p.data.toList 61
  rw [data_length] at h1 h2
  rw [if_pos hp, Option.bind_some]
  show ((percent_read.f (ba (Lib.cut p.data.toList [61]).1)).bind fun t => _) = _
  rw [read_is _ (by omega), Option.bind_some]
  show ((percent_read.f (ba (Lib.cut p.data.toList [61]).2.1)).bind fun t => _) = _
  rw [read_is _ (by omega), Option.bind_some, ne_bool]
  rfl
theorem spl_len (c : UInt8) (l : List UInt8) : (spl c l).length ≤ l.length + 1 ∧ ∀ p ∈ spl c l, p.length ≤ l.length := by
  induction l with
  | nil => simp [spl]
  | cons b r ih =>
    obtain ⟨h1, h2⟩ := ih
    obtain ⟨p, ps, hp⟩ := List.exists_cons_of_ne_nil (spl_ne c r)
    unfold spl
    split
    · refine ⟨by simp; omega, fun q hq => ?_⟩
      rcases List.mem_cons.1 hq with rfl | hq
      · simp
      · have := h2 q hq; simp; omega
    · rw [hp] at h1 h2 ⊢
      refine ⟨by simp at h1 ⊢; omega, fun q hq => ?_⟩
      rcases List.mem_cons.1 hq with rfl | hq
      · have := h2 p (by simp); simp; omega
      · have := h2 q (List.mem_cons_of_mem _ hq); simp; omega
theorem Fields_l0 (ps : List ByteArray) (hps : ∀ p ∈ ps, p.size ≤ 1073741824) (hl : ps.length ≤ 1073741825) : ∀ (n k i : Nat) (acc : List S46), ps.length - i = n → i ≤ ps.length → n + 1 < k → acc.length ≤ i →
    percent_Fields.l0 k acc ps (ps.length : Int) (i : Int) = some (acc ++ (((ps.drop i).filter fun p => decide (0 < p.size)).map fieldB).map toF) := by
  intro n
  induction n with
  | zero =>
    intro k i acc h1 h2 hk ha
    obtain ⟨k, rfl⟩ : ∃ m, k = m + 1 := ⟨k - 1, by omega⟩
    simp only [percent_Fields.l0]
    rw [if_neg (by omega), List.drop_eq_nil_of_le (by omega)]
    simp
  | succ n ih =>
    intro k i acc h1 h2 hk ha
    obtain ⟨k, rfl⟩ : ∃ m, k = m + 1 := ⟨k - 1, by omega⟩
    have hi : i < ps.length := by omega
    have hd : rdOf ByteArray.empty ps (i : Int) = ps[i] := by unfold rdOf; rw [Int.toNat_natCast, List.getD_eq_getElem?_getD, List.getElem?_eq_getElem hi]; rfl
    have hw : wrap64 ((i : Int) + 1) = ((i + 1 : Nat) : Int) := by unfold wrap64; omega
    simp only [percent_Fields.l0]
    rw [if_pos (by omega), if_pos (by omega), if_pos (by omega), hd, field_is _ (hps _ (List.getElem_mem hi)), Option.bind_some, hw, List.drop_eq_getElem_cons hi, List.filter_cons]
    simp only []
    by_cases h : 0 < ps[i].size
    · rw [if_pos (decide_eq_true h), if_pos (by omega), if_pos (decide_eq_true h), ih k (i + 1) _ (by omega) (by omega) (by omega) (by rw [List.length_append, List.length_singleton]; omega)]
      simp [toF]
    · rw [if_neg (by simpa using h), if_neg (by simpa using h), ih k (i + 1) _ (by omega) (by omega) (by omega) (by omega)]
theorem Fields_is (s : ByteArray) (hs : s.size ≤ 1073741824) (k : Nat) (hk : s.size + 3 < k) : percent_Fields.f k s = some ((fieldsB s).map toF) := by
  unfold percent_Fields.f strings_Split.f
  obtain ⟨h1, h2⟩ := spl_len 38 s.data.toList
  rw [data_length] at h1 h2
  rw [if_pos ⟨hs, by decide⟩, Option.bind_some, split_is]
  have hpl : (piecesB s).length = (spl 38 s.data.toList).length := by unfold piecesB; rw [List.length_map]
  have hps : ∀ p ∈ piecesB s, p.size ≤ 1073741824 := fun p hp => by
    unfold piecesB at hp
    obtain ⟨l, hl, rfl⟩ := List.mem_map.1 hp
    have := h2 l hl
    rw [ba_size]
    omega
  have := Fields_l0 (piecesB s) hps (by omega) (piecesB s).length k 0 [] (by omega) (by omega) (by omega) (by simp)
  rw [List.drop_zero, List.nil_append] at this
  exact this
end FC
end Go.Proofs.YtfbgmlophkbejaaDoor
