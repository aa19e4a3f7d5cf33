/- OpaqueAll: what is left when the program is gone; the walk. -/
import Derived.Test.YtebpghpaglpdlaaDoorOpqH
import Derived.Test.YtebpghpaglpdlaaDoorQOpex4
import Derived.Test.YtebpghpaglpdlaaDoorQOpex3
import Derived.Test.YtebpghpaglpdlaaDoorQOpex2
import Derived.Test.YtebpghpaglpdlaaDoorQOpex1
import Derived.Test.YtebpghpaglpdlaaDoorQOpex0
set_option linter.unusedVariables false
set_option linter.unusedSimpArgs false
namespace Go.Proofs.YtebpghpaglpdlaaDoor
open Go.RowKit Go.Proofs.YtebpghpaglpdlaaDoorW.PrintWords Go.Proofs.YtebpghpaglpdlaaDoorW.PrintMore Go.Proofs.YtebpghpaglpdlaaDoorQ.Ope
theorem scal_is {r : Int} {b : Bool} (h : b = true ↔ ((0 ≤ r ∧ r < 55296) ∨ (57343 < r ∧ r ≤ 1114111))) : scal r = b := by
  cases b with
  | true => exact (scal_iff r).2 (h.1 rfl)
  | false =>
    cases hs : scal r with
    | false => rfl
    | true => exact absurd (h.2 ((scal_iff r).1 hs)) (by simp)
theorem RScalar_is (r : Int) : posternref02_Scalar.f r = some (scal r) := by
  unfold posternref02_Scalar.f
  by_cases h0 : r ≥ 0
  · rw [if_pos h0]
    by_cases h1 : r < 55296
    · rw [if_pos h1, scal_is (b := true) (by simp; omega)]
    · rw [if_neg h1]
      by_cases h2 : r > 57343
      · rw [if_pos h2, scal_is (b := decide (r ≤ 1114111)) (by simp; omega)]
      · rw [if_neg h2, scal_is (b := false) (by simp; omega)]
  · rw [if_neg h0, if_neg (by omega), scal_is (b := false) (by simp; omega)]
/-- m is the place of the first number that is no scalar value, or the list's length -/
structure StopAt (l : List Int) (m : Nat) : Prop where
  le : m ≤ l.length
  ok : ∀ r ∈ l.take m, scal r = true
  stop : m < l.length → scal (rd l m) = false
theorem StopAt.at_ {l : List Int} {m : Nat} (h : StopAt l m) (i : Nat) (hi : i < m) : scal (rd l i) = true := by
  have := h.le
  refine h.ok _ ?_
  have e : rd l i = (l.take m)[i]'(by rw [List.length_take]; omega) := by simp [rd, List.getD_eq_getElem?_getD, List.getElem?_eq_getElem (show i < l.length by omega)]
  rw [e]
  exact List.getElem_mem _
theorem StopAt.full {l : List Int} (h : ∀ r ∈ l, scal r = true) : StopAt l l.length := ⟨Nat.le_refl _, fun r hr => h r (by rw [List.take_length] at hr; exact hr), fun h => by omega⟩
theorem RWidth_is (r : Int) : posternref02_Width.f r = some (wid r) := by
  unfold posternref02_Width.f wid
  rw [RScalar_is]
  simp only [Option.bind_some]
  repeat' split
  all_goals rfl
/-- what Encode tells, by the place of the first number that is no scalar value -/
def encA (l : List Int) (m : Nat) : ByteArray × Int × Int := if m = l.length then (encS l, 0, 0) else (⟨#[]⟩, (m : Int), 20)
theorem encL_take_len (l : List Int) (i : Nat) : (encL (l.take i)).length ≤ 4 * i := by
  have := encL_len (l.take i)
  have := List.length_take_le i l
  omega
theorem REncode_l0 (l : List Int) (m : Nat) (hm : StopAt l m) (hl : l.length ≤ 9000000000000) : ∀ (n k i : Nat), m - i = n → i ≤ m → n + 2 < k → posternref02_Encode.l0 k (encL (l.take i)) l (l.length : Int) (i : Int) = some (encA l m) := by
  intro n
  have hle := hm.le
  induction n with
  | zero =>
    intro k i h1 h2 hk
    obtain ⟨k, rfl⟩ : ∃ m, k = m + 1 := ⟨k - 1, by omega⟩
    obtain rfl : i = m := by omega
    simp only [posternref02_Encode.l0]
    unfold encA
    by_cases he : i = l.length
    · rw [if_neg (by omega), if_pos he, he, List.take_length]; rfl
    · have hs := hm.stop (by omega)
      have hw : wid (rd l i) = 0 := by unfold wid; rw [hs]; rfl
      rw [if_pos (by omega), if_pos (by omega), if_pos (by omega), RWidth_is _, hw, if_neg he]
      rfl
  | succ n ih =>
    intro k i h1 h2 hk
    obtain ⟨k, rfl⟩ : ∃ m, k = m + 1 := ⟨k - 1, by omega⟩
    have hs := hm.at_ i (by omega)
    have ht := take_rd l i (by omega)
    have hlen := encL_take_len l i
    have ih := ih k (i + 1) (by omega) (by omega) (by omega)
    rw [ht, encL_app, encL_one] at ih
    simp only [posternref02_Encode.l0]
    rw [if_pos (by omega), if_pos (by omega), if_pos (by omega), RWidth_is]
    have hr := (scal_iff _).1 hs
    have hw : wid (rd l i) = (if rd l i < 128 then 1 else if rd l i < 2048 then 2 else if rd l i < 65536 then 3 else 4) := by unfold wid; rw [hs]; rfl
    rw [hw]
    generalize rd l (i : Int) = r at *
    clear hw
    simp only [Option.bind_some]
    rw [show wrap64 ((i : Int) + 1) = ((i + 1 : Nat) : Int) by unfold wrap64; omega]
    unfold encB at ih
    by_cases c1 : r < 128
    · rw [if_pos c1] at ih
      simp only [if_pos c1]
      rw [if_neg (by decide), if_pos trivial, if_pos (by omega), show r % 256 = r by omega]
      exact ih
    · rw [if_neg c1] at ih
      simp only [if_neg c1]
      rw [Int.tdiv_eq_ediv_of_nonneg (by omega), Int.tdiv_eq_ediv_of_nonneg (by omega), Int.tdiv_eq_ediv_of_nonneg (by omega), Int.tmod_eq_emod_of_nonneg (by omega), show wrap32 (r / 64) = r / 64 by unfold wrap32; omega, show wrap32 (r / 4096) = r / 4096 by unfold wrap32; omega, show wrap32 (r / 262144) = r / 262144 by unfold wrap32; omega, Int.tmod_eq_emod_of_nonneg (by omega), Int.tmod_eq_emod_of_nonneg (by omega)]
      by_cases c2 : r < 2048
      · rw [if_pos c2] at ih
        simp only [if_pos c2]
        rw [if_neg (by decide), if_neg (by decide), if_pos trivial, if_pos (by simp only [List.length_cons, List.length_nil]; omega), show wrap32 (192 + r / 64) % 256 = 192 + r / 64 by unfold wrap32; omega, show wrap32 (128 + r % 64) % 256 = 128 + r % 64 by unfold wrap32; omega]
        exact ih
      · rw [if_neg c2] at ih
        simp only [if_neg c2]
        by_cases c3 : r < 65536
        · rw [if_pos c3] at ih
          simp only [if_pos c3]
          rw [if_neg (by decide), if_neg (by decide), if_neg (by decide), if_pos trivial, if_pos (by simp only [List.length_cons, List.length_nil]; omega), show wrap32 (224 + r / 4096) % 256 = 224 + r / 4096 by unfold wrap32; omega, show wrap32 (128 + r / 64 % 64) % 256 = 128 + r / 64 % 64 by unfold wrap32; omega, show wrap32 (128 + r % 64) % 256 = 128 + r % 64 by unfold wrap32; omega]
          exact ih
        · rw [if_neg c3] at ih
          simp only [if_neg c3]
          rw [if_neg (by decide), if_neg (by decide), if_neg (by decide), if_neg (by decide), if_pos (by simp only [List.length_cons, List.length_nil]; omega), show wrap32 (240 + r / 262144) % 256 = 240 + r / 262144 by unfold wrap32; omega, show wrap32 (128 + r / 4096 % 64) % 256 = 128 + r / 4096 % 64 by unfold wrap32; omega, show wrap32 (128 + r / 64 % 64) % 256 = 128 + r / 64 % 64 by unfold wrap32; omega, show wrap32 (128 + r % 64) % 256 = 128 + r % 64 by unfold wrap32; omega]
          exact ih
theorem REncode_is (l : List Int) (m : Nat) (hm : StopAt l m) (hl : l.length ≤ 9000000000000) (k : Nat) (hk : l.length + 2 < k) : posternref02_Encode.f k l = some (encA l m) := by
  unfold posternref02_Encode.f
  exact REncode_l0 l m hm hl m k 0 (by omega) (by omega) (by have := hm.le; omega)
theorem drop_pc (l : List (Int × Pc)) (i : Nat) (h : i < l.length) : l.drop i = l.getD i pc0 :: l.drop (i + 1) := by
  rw [List.drop_eq_getElem_cons h, List.getD_eq_getElem?_getD, List.getElem?_eq_getElem h]
  rfl
theorem rdR_map (l : List (Int × Pc)) (i : Nat) (h : i < l.length) : rd_T46 (l.map toS46) (i : Int) = toS46 (l.getD i pc0) := by
  unfold rd_T46
  simp only [Int.toNat_natCast, List.getD_eq_getElem?_getD, List.getElem?_map, List.getElem?_eq_getElem h]
  rfl
/-- pieces of a text that is not too great -/
structure Fit (s : ByteArray) (l : List (Int × Pc)) : Prop where
  size : s.size ≤ 9000000000
  at_ : ∀ i, i < l.length → 0 ≤ (l.getD i pc0).1 ∧ (l.getD i pc0).1 < s.size ∧ 1 ≤ (l.getD i pc0).2.size ∧ (l.getD i pc0).1 + (l.getD i pc0).2.size ≤ s.size
  len : l.length ≤ s.size
theorem fit (s : ByteArray) (hs : s.size ≤ 9000000000) : Fit s (pcs s 0) := by
  refine ⟨hs, fun i hi => ?_, pcs_len s s.size 0 (by omega) (by omega)⟩
  have ha := To.all s s.size 0 (by omega) (by omega) (by omega)
  have hm := ha.mem (by omega) ((pcs s 0).getD i pc0) (by rw [List.getD_eq_getElem?_getD, List.getElem?_eq_getElem hi]; exact List.getElem_mem _)
  obtain ⟨h1, h2, h3, h4⟩ := hm
  have hst := fst_step s _ h1 h2
  rw [← h3] at hst
  exact ⟨h1, h2, hst.1, h4⟩
theorem decT_len (s : ByteArray) : (decT s).length ≤ s.size := by
  unfold decT
  rw [List.length_map]
  exact pcs_len s s.size 0 (by omega) (by omega)
theorem encS_len (l : List Int) : (encS l).size ≤ 4 * l.length := by rw [encS_size]; exact encL_len l
theorem in9 (r : Int) : inT r 9 = forb r := by
  unfold inT
  by_cases h : r < 0 ∨ 127 < r
  · rw [if_pos h]
    unfold forb
    symm
    refine decide_eq_false fun hm => ?_
    have key : ∀ x ∈ forbL, 0 ≤ x ∧ x ≤ 127 := by decide
    have := key r hm
    omega
  · rw [if_neg h]
    have key : ∀ n : Fin 128, inSet (nW 9) (n.val : Int) = forb (n.val : Int) := by decide +kernel
    have := key ⟨r.toNat, by omega⟩
    rw [show ((r.toNat : Nat) : Int) = r by omega] at this
    exact this
theorem in1 (b : Int) (h0 : 0 ≤ b) (h1 : b ≤ 255) : inSet (nW 1) b = decide (b < 32 ∨ 126 < b) := by
  have key : ∀ n : Fin 256, inSet (nW 1) (n.val : Int) = decide ((n.val : Int) < 32 ∨ 126 < (n.val : Int)) := by decide +kernel
  have := key ⟨b.toNat, by omega⟩
  rw [show ((b.toNat : Nat) : Int) = b by omega] at this
  exact this
theorem upT_at (d : Int) (h0 : 0 ≤ d) (h1 : d < 16) : bt Z.upT d = bt (⟨#[48, 49, 50, 51, 52, 53, 54, 55, 56, 57, 65, 66, 67, 68, 69, 70]⟩ : ByteArray) d := by
  have key : ∀ n : Fin 16, bt Z.upT (n.val : Int) = bt (⟨#[48, 49, 50, 51, 52, 53, 54, 55, 56, 57, 65, 66, 67, 68, 69, 70]⟩ : ByteArray) (n.val : Int) := by decide +kernel
  have := key ⟨d.toNat, by omega⟩
  rw [show ((d.toNat : Nat) : Int) = d by omega] at this
  exact this
/-- one byte, the control set coded -/
def ctlB (b : Int) : List Int := Z.encB (inSet (nW 1)) b
theorem ctlB_is (b : Int) (h0 : 0 ≤ b) (h1 : b ≤ 255) : ctlB b = if b < 32 ∨ 126 < b then [37, bt (⟨#[48, 49, 50, 51, 52, 53, 54, 55, 56, 57, 65, 66, 67, 68, 69, 70]⟩ : ByteArray) (b / 16), bt (⟨#[48, 49, 50, 51, 52, 53, 54, 55, 56, 57, 65, 66, 67, 68, 69, 70]⟩ : ByteArray) (b % 16)] else [b] := by
  unfold ctlB Z.encB Z.codeL
  rw [in1 b h0 h1, upT_at (b / 16) (by omega) (by omega), upT_at (b % 16) (by omega) (by omega)]
  by_cases h : b < 32 ∨ 126 < b
  · rw [decide_eq_true h, if_pos rfl, if_pos h]
  · rw [decide_eq_false h, if_neg (by decide), if_neg h]
theorem RParse_l1 (C : ByteArray) (hC : C.size ≤ 1000000000) : ∀ (n k : Nat) (i : Int) (acc : List Int), (C.size : Int) - i = n → 0 ≤ i → (acc.length : Int) ≤ 3 * i → acc = Z.encL (inSet (nW 1)) ((bytesOf C).take i.toNat) → n < k → posternref22_Parse.l1 k C acc i = some (ctlS C, 0, 0) := by
  intro n
  induction n with
  | zero =>
    intro k i acc h1 h0 ha he hk
    obtain ⟨k, rfl⟩ : ∃ m, k = m + 1 := ⟨k - 1, by omega⟩
    simp only [posternref22_Parse.l1]
    rw [if_neg (by omega), he, show i.toNat = (bytesOf C).length by rw [bytesOf_length]; omega, List.take_length]
    rfl
  | succ n ih =>
    intro k i acc h1 h0 ha he hk
    obtain ⟨k, rfl⟩ : ∃ m, k = m + 1 := ⟨k - 1, by omega⟩
    have hb := bt_range C i
    have hst := Z.enc_step (inSet (nW 1)) C i h0 (by omega)
    have hcb := ctlB_is (bt C i) hb.1 hb.2
    have hlen := Z.encB_len (inSet (nW 1)) (bt C i)
    rw [← he] at hst
    have ih := ih k (i + 1) (acc ++ ctlB (bt C i)) (by omega) (by omega) (by unfold ctlB; rw [List.length_append]; omega) hst.symm (by omega)
    rw [hcb] at ih
    simp only [posternref22_Parse.l1]
    rw [if_pos (by omega), if_pos h0, show wrap64 (i + 1) = i + 1 by unfold wrap64; omega]
    generalize bt C i = b at *
    rw [Int.tdiv_eq_ediv_of_nonneg hb.1, Int.tmod_eq_emod_of_nonneg hb.1, show b / 16 % 256 = b / 16 by omega]
    by_cases c1 : b < 32
    · rw [if_pos (Or.inl c1)] at ih
      rw [if_pos c1, if_pos (by omega), if_pos (by omega), if_pos (by omega), if_pos (by omega)]
      simp only [Option.bind_some]
      rw [if_pos (by simp only [List.length_cons, List.length_nil]; omega)]
      exact ih
    · rw [if_neg c1]
      by_cases c2 : b > 126
      · rw [if_pos (Or.inr c2)] at ih
        rw [if_pos c2, if_pos (by omega), if_pos (by omega), if_pos (by omega), if_pos (by omega)]
        simp only [Option.bind_some]
        rw [if_pos (by simp only [List.length_cons, List.length_nil]; omega)]
        exact ih
      · rw [if_neg (by omega)] at ih
        rw [if_neg c2, if_pos (by omega)]
        exact ih
/-- what Parse tells -/
def parT (s : ByteArray) : ByteArray × Int × Int := if 0 ≤ fstF (fun r => inT r 9) (pcs s 0) then (⟨#[]⟩, fstF (fun r => inT r 9) (pcs s 0), 220) else (ctlS (encS (decT s)), 0, 0)
theorem Parse_is (s : ByteArray) (hs : s.size ≤ 16777216) : opaque_Parse.f s = some (parT s) := by
  unfold opaque_Parse.f parT
  rw [if_pos hs]
  split <;> rfl
theorem RParse_l0 (s : ByteArray) (hs : s.size ≤ 16777216) : ∀ (n k i : Nat), (pcs s 0).length - i = n → i ≤ (pcs s 0).length → fstF (fun r => inT r 9) ((pcs s 0).drop i) = fstF (fun r => inT r 9) (pcs s 0) → n + 100000000 < k → posternref22_Parse.l0 k s ((pcs s 0).map toS46) ((pcs s 0).length : Int) (i : Int) = some (parT s) := by
  intro n
  have F := fit s (by omega)
  have hFl := F.len
  have hdl := decT_len s
  have hel := encS_len (decT s)
  induction n with
  | zero =>
    intro k i h1 h2 h3 hk
    obtain ⟨k, rfl⟩ : ∃ m, k = m + 1 := ⟨k - 1, by omega⟩
    rw [List.drop_of_length_le (by omega)] at h3
    have hF : fstF (fun r => inT r 9) (pcs s 0) = -1 := h3.symm
    have hRE := REncode_is (decT s) _ (StopAt.full (decT_scal s)) (by omega) k (by omega)
    unfold encA at hRE
    rw [if_pos rfl] at hRE
    simp only [posternref22_Parse.l0]
    unfold posternref02_Decode.f
    rw [if_neg (by omega), if_pos (by omega)]
    simp only [Option.bind_some]
    rw [hRE]
    simp only [Option.bind_some]
    rw [RParse_l1 (encS (decT s)) (by omega) (encS (decT s)).size k 0 [] (by omega) (by omega) (by simp) rfl (by omega)]
    unfold parT
    rw [hF, if_neg (by omega)]
  | succ n ih =>
    intro k i h1 h2 h3 hk
    obtain ⟨k, rfl⟩ : ∃ m, k = m + 1 := ⟨k - 1, by omega⟩
    have hat := F.at_ i (by omega)
    rw [fstF_drop (by omega)] at h3
    simp only [posternref22_Parse.l0, rdR_map (pcs s 0) i (by omega), toS46, posternref22_Host.f, Option.bind_some]
    rw [if_pos (by omega), if_pos (by omega), if_pos (by rw [List.length_map]; omega), ← in9]
    cases hc : inT ((pcs s 0).getD i pc0).2.rune 9 with
    | true =>
      rw [hc] at h3
      simp only [if_true] at h3 ⊢
      unfold parT
      rw [← h3, if_pos hat.1]
    | false =>
      rw [hc] at h3
      simp only [Bool.false_eq_true, if_false] at h3 ⊢
      rw [show wrap64 ((i : Int) + 1) = ((i + 1 : Nat) : Int) by unfold wrap64; omega]
      exact ih k (i + 1) (by omega) (by omega) h3 (by omega)
theorem RParse_is (s : ByteArray) (hs : s.size ≤ 16777216) (k : Nat) (hk : s.size + 100000000 < k) : posternref22_Parse.f k s = some (parT s) := by
  have F := fit s (by omega)
  have hFl := F.len
  unfold posternref22_Parse.f posternref02_Pieces.f
  rw [if_pos (by omega)]
  simp only [Option.bind_some, List.length_map]
  exact RParse_l0 s hs (pcs s 0).length k 0 (by omega) (by omega) (by rw [List.drop_zero]) (by omega)
theorem in10 (r : Int) : inT r 10 = (forb r || decide (0 ≤ r ∧ r < 32) || decide (r = 37) || decide (r = 127)) := by
  unfold inT
  by_cases h : r < 0 ∨ 127 < r
  · rw [if_pos h]
    have hf : forb r = false := by
      unfold forb
      refine decide_eq_false fun hm => ?_
      have key : ∀ x ∈ forbL, 0 ≤ x ∧ x ≤ 127 := by decide
      have := key r hm
      omega
    rw [hf, decide_eq_false (by omega), decide_eq_false (by omega), decide_eq_false (by omega)]
    rfl
  · rw [if_neg h]
    have key : ∀ n : Fin 128, inSet (nW 10) (n.val : Int) = (forb (n.val : Int) || decide (0 ≤ (n.val : Int) ∧ (n.val : Int) < 32) || decide ((n.val : Int) = 37) || decide ((n.val : Int) = 127)) := by decide +kernel
    have := key ⟨r.toNat, by omega⟩
    rw [show ((r.toNat : Nat) : Int) = r by omega] at this
    exact this
theorem RDomain_is (r : Int) : posternref22_Domain.f r = some (inT r 10) := by
  unfold posternref22_Domain.f posternref22_Host.f
  rw [in10]
  simp only [Option.bind_some]
  cases hf : forb r with
  | true => simp
  | false =>
    simp only [Bool.false_eq_true, if_false, Bool.false_or]
    by_cases h0 : r ≥ 0
    · rw [if_pos h0]
      by_cases h1 : r < 32
      · rw [if_pos h1, decide_eq_true ⟨h0, h1⟩]; rfl
      · rw [if_neg h1, decide_eq_false (fun h => h1 h.2)]
        by_cases h2 : r = 37
        · rw [if_pos h2, decide_eq_true h2]; rfl
        · rw [if_neg h2, decide_eq_false h2]
          simp only [Bool.false_or]
          congr 1
    · rw [if_neg h0, decide_eq_false (fun h => h0 h.1), if_neg (by omega), decide_eq_false (show ¬ r = 37 by omega)]
      simp only [Bool.false_or]
      congr 1
theorem RFirst_l0 (b : Bool) (l : List Int) (hl : l.length ≤ 1000000000) : ∀ (n k i : Nat), l.length - i = n → i ≤ l.length → n < k → posternref22_First.l0 k b l (l.length : Int) (i : Int) = some (if b = true then fixF (fun r => inT r 10) (l.drop i) i else fixF (fun r => inT r 9) (l.drop i) i) := by
  intro n
  induction n with
  | zero =>
    intro k i h1 h2 hk
    obtain ⟨k, rfl⟩ : ∃ m, k = m + 1 := ⟨k - 1, by omega⟩
    rw [List.drop_of_length_le (by omega)]
    simp only [posternref22_First.l0, fixF]
    rw [if_neg (by omega)]
    cases b <;> rfl
  | succ n ih =>
    intro k i h1 h2 hk
    obtain ⟨k, rfl⟩ : ∃ m, k = m + 1 := ⟨k - 1, by omega⟩
    have ih := ih k (i + 1) (by omega) (by omega) (by omega)
    have e1 := fixF_drop (f := fun r => inT r 10) (show i < l.length by omega) (i : Int)
    have e2 := fixF_drop (f := fun r => inT r 9) (show i < l.length by omega) (i : Int)
    rw [e1, e2]
    clear e1 e2
    simp only [posternref22_First.l0, RDomain_is, posternref22_Host.f, Option.bind_some, ← in9]
    rw [if_pos (by omega), if_pos (by omega), if_pos (by omega), show wrap64 ((i : Int) + 1) = ((i + 1 : Nat) : Int) by unfold wrap64; omega, ih]
    cases b with
    | true =>
      simp only [if_true]
      split <;> rfl
    | false =>
      simp only [Bool.false_eq_true, if_false]
      split <;> rfl
theorem RFirst_is (b : Bool) (l : List Int) (hl : l.length ≤ 1000000000) (k : Nat) (hk : l.length < k) : posternref22_First.f k l b = some (if b = true then fixF (fun r => inT r 10) l 0 else fixF (fun r => inT r 9) l 0) := by
  unfold posternref22_First.f
  exact RFirst_l0 b l hl l.length k 0 (by omega) (by omega) hk
theorem dig16_is (c : Int) (h0 : 0 ≤ c) (h1 : c ≤ 255) : Z.dig c 16 = if 48 ≤ c ∧ c ≤ 57 then c - 48 else if 97 ≤ c ∧ c ≤ 102 then c - 87 else if 65 ≤ c ∧ c ≤ 70 then c - 55 else -1 := by
  have key : ∀ n : Fin 256, Z.dig (n.val : Int) 16 = if 48 ≤ (n.val : Int) ∧ (n.val : Int) ≤ 57 then (n.val : Int) - 48 else if 97 ≤ (n.val : Int) ∧ (n.val : Int) ≤ 102 then (n.val : Int) - 87 else if 65 ≤ (n.val : Int) ∧ (n.val : Int) ≤ 70 then (n.val : Int) - 55 else -1 := by decide +kernel
  have := key ⟨c.toNat, by omega⟩
  rw [show ((c.toNat : Nat) : Int) = c by omega] at this
  exact this
theorem hex_is (c : Int) (h0 : 0 ≤ c) (h1 : c ≤ 255) (k : Nat) (hk : 2 ≤ k) : posternref22_hex.f k c = some (Z.dig c 16) := by
  obtain ⟨k, rfl⟩ : ∃ m, k = m + 1 + 1 := ⟨k - 2, by omega⟩
  rw [dig16_is c h0 h1]
  have hj1 : ∀ b, posternref22_hex.j1 (k + 1) c b = some (if b = true then (c - 97) % 256 + 10 else if c ≥ 65 then (if c ≤ 70 then (c - 65) % 256 + 10 else -1) else -1) := fun b => by
    simp only [posternref22_hex.j1]
    repeat' split
    all_goals rfl
  have hj0 : ∀ b, posternref22_hex.j0 (k + 1 + 1) c b = some (if b = true then (c - 48) % 256 else if c ≥ 97 then (if c ≤ 102 then (c - 97) % 256 + 10 else if c ≥ 65 then (if c ≤ 70 then (c - 65) % 256 + 10 else -1) else -1) else if c ≥ 65 then (if c ≤ 70 then (c - 65) % 256 + 10 else -1) else -1) := fun b => by
    simp only [posternref22_hex.j0, hj1]
    cases b with
    | true => rfl
    | false =>
      simp only [Bool.false_eq_true, if_false, decide_eq_true_eq]
      split <;> rfl
  unfold posternref22_hex.f
  rw [hj0, hj0]
  simp only [decide_eq_true_eq, Bool.false_eq_true, if_false]
  repeat' split
  all_goals first | rfl | (congr 1; omega) | omega
theorem awakeB_is : posternlaw22_awake.f = some true := by
  have e1 : parT (⟨#[195, 164, 37, 122, 122]⟩ : ByteArray) = (⟨#[37, 67, 51, 37, 65, 52, 37, 122, 122]⟩, 0, 0) := by decide +kernel
  have e2 : parT (⟨#[97, 32, 98]⟩ : ByteArray) = (⟨#[]⟩, 1, 220) := by decide +kernel
  unfold posternlaw22_awake.f
  rw [Parse_is _ (by decide), Parse_is _ (by decide), e1, e2]
  decide +kernel
theorem plain_is (b : Int) (h0 : 0 ≤ b) (h1 : b ≤ 255) : posternref22_plain.f b = some (freeB b) := by
  have key : ∀ n : Fin 256, posternref22_plain.f (n.val : Int) = some (freeB (n.val : Int)) := by decide +kernel
  have := key ⟨b.toNat, by omega⟩
  rw [show ((b.toNat : Nat) : Int) = b by omega] at this
  exact this
theorem coded_is (b : Int) (h0 : 0 ≤ b) (h1 : b ≤ 255) : posternref22_coded.f b = some (Z.codeL b) := by
  unfold posternref22_coded.f Z.codeL
  rw [Int.tdiv_eq_ediv_of_nonneg h0, Int.tmod_eq_emod_of_nonneg h0, show b / 16 % 256 = b / 16 by omega, if_pos (by omega), if_pos (by omega), if_pos (by omega), if_pos (by omega), upT_at (b / 16) (by omega) (by omega), upT_at (b % 16) (by omega) (by omega)]
theorem codeL_len (b : Int) : (Z.codeL b).length = 3 := rfl
theorem codeL_37 : Z.codeL 37 = [37, 50, 53] := by decide +kernel
set_option maxHeartbeats 1000000 in
theorem RNormal_l0 (s : ByteArray) (hs : s.size ≤ 1000000000) : ∀ (n k : Nat) (i : Int) (out : List Int), (s.size : Int) - i = n → 0 ≤ i → (out.length : Int) ≤ 3 * i → 2 * n + 10 < k → posternref22_Normal.l0 k s out i = some (strOfNums (out ++ norL s i), 0, 0) := by
  intro n
  induction n using Nat.strongRecOn with
  | ind n ih =>
    intro k i out h1 h0 ho hk
    obtain ⟨k, rfl⟩ : ∃ m, k = m + 1 + 1 := ⟨k - 2, by omega⟩
    by_cases hlt : i < s.size
    · have w1 : wrap64 (i + 1) = i + 1 := by unfold wrap64; omega
      have w2 : wrap64 (i + 2) = i + 2 := by unfold wrap64; omega
      have w3 : wrap64 (i + 2 + 1) = i + 3 := by unfold wrap64; omega
      have hb0 := bt_range s i
      have hb1 := bt_range s (i + 1)
      have hb2 := bt_range s (i + 2)
      have hx1 := hex_is (bt s (i + 1)) hb1.1 hb1.2 (k + 1) (by omega)
      have hx2 := hex_is (bt s (i + 2)) hb2.1 hb2.2 (k + 1) (by omega)
      have hy1 := hex_is (bt s (i + 1)) hb1.1 hb1.2 k (by omega)
      have hy2 := hex_is (bt s (i + 2)) hb2.1 hb2.2 k (by omega)
      have hd1 := Z.dig16 (bt s (i + 1))
      have hd2 := Z.dig16 (bt s (i + 2))
      have hnx : Z.nxtC s i = if Z.isC s i = true then i + 3 else i + 1 := rfl
      have hnb : norB s i = if Z.isC s i = true then (if freeB (Z.sayC s i) = true then [Z.sayC s i] else Z.codeL (Z.sayC s i)) else if bt s i = 37 then [37, 50, 53] else [bt s i] := rfl
      have hsa : Z.sayC s i = 16 * Z.dig (bt s (i + 1)) 16 + Z.dig (bt s (i + 2)) 16 := rfl
      have hC : Z.isC s i = (decide (i + 2 < s.size) && (bt s i == 37) && decide (0 ≤ Z.dig (bt s (i + 1)) 16) && decide (0 ≤ Z.dig (bt s (i + 2)) 16)) := rfl
      rw [norL_go hlt, ← List.append_assoc]
      rw [posternref22_Normal.l0]
      simp only [w1, w2]
      rw [if_pos hlt, if_pos h0]
      have yes : Z.isC s i = true → posternref22_Normal.j1 (k + 1) s out i true = some (strOfNums (out ++ norB s i ++ norL s (Z.nxtC s i)), 0, 0) := fun hc => by
        have hsr := sayC_range s i hc
        have hbl := norB_len s i
        rw [hnx, if_pos hc, hnb, if_pos hc]
        rw [hnb, if_pos hc] at hbl
        rw [hC] at hc
        simp only [Bool.and_eq_true, decide_eq_true_eq, beq_iff_eq] at hc
        obtain ⟨⟨⟨c1, c2⟩, c3⟩, c4⟩ := hc
        simp only [posternref22_Normal.j1, if_true, w1, w2, w3]
        rw [if_pos (by omega), if_pos (by omega), hy1]
        simp only [Option.bind_some]
        rw [if_pos (by omega), if_pos (by omega), hy2]
        simp only [Option.bind_some]
        rw [show wrap64 (wrap64 (16 * Z.dig (bt s (i + 1)) 16) + Z.dig (bt s (i + 2)) 16) % 256 = Z.sayC s i by rw [hsa]; unfold wrap64; omega]
        generalize Z.sayC s i = c at *
        rw [plain_is c hsr.1 hsr.2, coded_is c hsr.1 hsr.2]
        simp only [Option.bind_some]
        by_cases hf : freeB c = true
        · rw [if_pos hf, if_pos hf, if_pos (by omega), ih (n - 3) (by omega) k (i + 3) _ (by omega) (by omega) (by rw [List.length_append, List.length_singleton]; omega) (by omega)]
        · rw [if_neg hf, if_neg hf, if_pos (by rw [codeL_len]; omega), ih (n - 3) (by omega) k (i + 3) _ (by omega) (by omega) (by rw [List.length_append, codeL_len]; omega) (by omega)]
      have no : Z.isC s i = false → posternref22_Normal.j1 (k + 1) s out i false = some (strOfNums (out ++ norB s i ++ norL s (Z.nxtC s i)), 0, 0) := fun hc => by
        have hnx2 : Z.nxtC s i = i + 1 := by rw [hnx, if_neg (by rw [hc]; decide)]
        have hnb2 : norB s i = if bt s i = 37 then [37, 50, 53] else [bt s i] := by rw [hnb, if_neg (by rw [hc]; decide)]
        rw [hnx2, hnb2]
        clear hnx hnb hnx2 hnb2 yes
        simp only [posternref22_Normal.j1, Bool.false_eq_true, if_false, w1]
        rw [if_pos (by omega), if_pos (by omega), coded_is 37 (by omega) (by omega)]
        simp only [Option.bind_some]
        by_cases c37 : bt s i = 37
        · rw [if_pos c37, if_pos c37, if_pos (by rw [codeL_len]; omega), codeL_37, ih (n - 1) (by omega) k (i + 1) _ (by omega) (by omega) (by rw [List.length_append]; simp only [List.length_cons, List.length_nil]; omega) (by omega)]
        · rw [if_neg c37, if_neg c37, if_pos (by omega), ih (n - 1) (by omega) k (i + 1) _ (by omega) (by omega) (by rw [List.length_append, List.length_singleton]; omega) (by omega)]
      by_cases c1 : bt s i = 37
      · rw [if_pos c1]
        by_cases c2 : i + 2 < s.size
        · rw [if_pos c2, if_pos (by omega), if_pos (by omega), hx1]
          simp only [Option.bind_some]
          by_cases c3 : Z.dig (bt s (i + 1)) 16 ≥ 0
          · rw [if_pos c3, if_pos (by omega), hx2]
            simp only [Option.bind_some]
            by_cases c4 : Z.dig (bt s (i + 2)) 16 ≥ 0
            · have hc : Z.isC s i = true := by rw [hC, decide_eq_true c2, c1, decide_eq_true c3, decide_eq_true c4]; rfl
              rw [decide_eq_true c4]
              exact yes hc
            · have hc : Z.isC s i = false := by rw [hC, decide_eq_false (show ¬ 0 ≤ Z.dig (bt s (i + 2)) 16 from c4)]; simp
              rw [decide_eq_false c4]
              exact no hc
          · have hc : Z.isC s i = false := by rw [hC, decide_eq_false (show ¬ 0 ≤ Z.dig (bt s (i + 1)) 16 from c3)]; simp
            rw [if_neg c3]
            exact no hc
        · have hc : Z.isC s i = false := by rw [hC, decide_eq_false c2]; simp
          rw [if_neg c2]
          exact no hc
      · have hc : Z.isC s i = false := by rw [hC, show (bt s i == 37) = false from beq_eq_false_iff_ne.2 c1]; simp
        rw [if_neg c1]
        exact no hc
    · obtain rfl : i = s.size := by omega
      rw [posternref22_Normal.l0, if_neg (by omega), norL_end, List.append_nil]
/-- what Normal tells -/
def norT (s : ByteArray) : ByteArray × Int × Int := if 0 ≤ fstF (fun r => inT r 9) (pcs s 0) then (⟨#[]⟩, fstF (fun r => inT r 9) (pcs s 0), 220) else (norS (ctlS (encS (decT s))), 0, 0)
theorem ctlS_len (s : ByteArray) : (ctlS (encS (decT s))).size ≤ 12 * s.size := by
  have h1 := decT_len s
  have h2 := encS_len (decT s)
  have h3 := Z.encL_len (inSet (nW 1)) (bytesOf (encS (decT s)))
  rw [bytesOf_length] at h3
  unfold ctlS
  rw [strOfNums_size]
  omega
theorem Normal_is (s : ByteArray) (hs : s.size ≤ 16777216) : opaque_Normal.f s = some (norT s) := by
  unfold opaque_Normal.f norT
  rw [if_pos hs]
  split <;> rfl
theorem RNormal_is (s : ByteArray) (hs : s.size ≤ 16777216) (k : Nat) (hk : 1000000000 < k) : posternref22_Normal.f k s = some (norT s) := by
  have hl := ctlS_len s
  unfold posternref22_Normal.f
  rw [RParse_is s hs k (by omega)]
  simp only [Option.bind_some]
  unfold parT norT
  by_cases h : 0 ≤ fstF (fun r => inT r 9) (pcs s 0)
  · rw [if_pos h, if_pos h]
    rfl
  · rw [if_neg h, if_neg h]
    simp only
    rw [if_pos trivial, RNormal_l0 (ctlS (encS (decT s))) (by omega) (ctlS (encS (decT s))).size k 0 [] (by omega) (by omega) (by simp) (by omega), List.nil_append]
    rfl
theorem first1 (b : Bool) (r : Int) (k : Nat) (hk : 1 < k) : posternref22_First.f k [r] b = some (if inT r (if b = true then 10 else 9) = true then 0 else -1) := by
  rw [RFirst_is b [r] (by simp) k (by simp; omega)]
  cases b with
  | true => simp only [if_true, fixF]
  | false => simp only [Bool.false_eq_true, if_false, fixF]
theorem RAll_l0 (b : Bool) (l : List (Int × Pc)) (hl : l.length ≤ 1000000000) : ∀ (n k i : Nat) (acc : List Int), l.length - i = n → i ≤ l.length → acc.length ≤ i → n + 10 < k → posternref22_All.l0 k b acc (l.map toS46) (l.length : Int) (i : Int) = some (acc ++ allF (fun r => inT r (if b = true then 10 else 9)) (l.drop i)) := by
  intro n
  induction n with
  | zero =>
    intro k i acc h1 h2 ha hk
    obtain ⟨k, rfl⟩ : ∃ m, k = m + 1 := ⟨k - 1, by omega⟩
    rw [List.drop_of_length_le (by omega), posternref22_All.l0, if_neg (by omega)]
    simp [allF]
  | succ n ih =>
    intro k i acc h1 h2 ha hk
    obtain ⟨k, rfl⟩ : ∃ m, k = m + 1 := ⟨k - 1, by omega⟩
    have e2 : (toS46 (l.getD i pc0)).f2 = (l.getD i pc0).2.rune := rfl
    have e0 : (toS46 (l.getD i pc0)).f0 = (l.getD i pc0).1 := rfl
    rw [drop_pc l i (by omega), posternref22_All.l0, if_pos (by omega), if_pos (by omega), if_pos (by rw [List.length_map]; omega), rdR_map l i (by omega), e2, e0, first1 b _ k (by omega), show wrap64 ((i : Int) + 1) = ((i + 1 : Nat) : Int) by unfold wrap64; omega]
    simp only [Option.bind_some, allF]
    by_cases hc : inT (l.getD i pc0).2.rune (if b = true then 10 else 9) = true
    · rw [if_pos hc, if_pos hc, if_pos rfl, if_pos (by omega), ih k (i + 1) _ (by omega) (by omega) (by rw [List.length_append, List.length_singleton]; omega) (by omega), List.append_assoc]
      rfl
    · rw [if_neg hc, if_neg hc, if_neg (by decide), ih k (i + 1) _ (by omega) (by omega) (by omega) (by omega)]
/-- what All tells -/
def allT (b : Bool) (s : ByteArray) : List Int := allF (fun r => inT r (if b = true then 10 else 9)) (pcs s 0)
theorem All_is (b : Bool) (s : ByteArray) (hs : s.size ≤ 16777216) : opaque_All.f s b = some (allT b s) := by
  unfold opaque_All.f allT
  rw [if_pos hs]
  cases b <;> rfl
theorem RAll_is (b : Bool) (s : ByteArray) (hs : s.size ≤ 16777216) (k : Nat) (hk : 1000000000 < k) : posternref22_All.f k s b = some (allT b s) := by
  have hn := pcs_len s s.size 0 (by omega) (by omega)
  unfold posternref22_All.f posternref02_Pieces.f
  rw [if_pos (by omega)]
  simp only [Option.bind_some, List.length_map]
  have h := RAll_l0 b (pcs s 0) (by omega) (pcs s 0).length k 0 [] (by omega) (by omega) (by simp) (by omega)
  rw [List.drop_zero, List.nil_append] at h
  exact h
theorem escB_is (b : Int) (h0 : 0 ≤ b) (h1 : b ≤ 255) : Z.encB escP b = if b < 32 then Z.codeL b else if b > 126 then Z.codeL b else if forb b = true then Z.codeL b else [b] := by
  have key : ∀ n : Fin 256, escP (n.val : Int) = (decide ((n.val : Int) < 32) || decide ((n.val : Int) > 126) || forb (n.val : Int)) := by decide +kernel
  have := key ⟨b.toNat, by omega⟩
  rw [show ((b.toNat : Nat) : Int) = b by omega] at this
  unfold Z.encB
  rw [this]
  by_cases c1 : b < 32
  · rw [if_pos c1, decide_eq_true c1]; rfl
  · rw [if_neg c1, decide_eq_false c1]
    by_cases c2 : b > 126
    · rw [if_pos c2, decide_eq_true c2]; rfl
    · rw [if_neg c2, decide_eq_false c2]
      simp only [Bool.false_or]
theorem REscape_l0 (C : ByteArray) (hC : C.size ≤ 1000000000) : ∀ (n k : Nat) (i : Int) (acc : List Int), (C.size : Int) - i = n → 0 ≤ i → (acc.length : Int) ≤ 3 * i → acc = Z.encL escP ((bytesOf C).take i.toNat) → n < k → posternref22_Escape.l0 k C acc i = some (escS C) := by
  intro n
  induction n with
  | zero =>
    intro k i acc h1 h0 ha he hk
    obtain ⟨k, rfl⟩ : ∃ m, k = m + 1 := ⟨k - 1, by omega⟩
    simp only [posternref22_Escape.l0]
    rw [if_neg (by omega), he, show i.toNat = (bytesOf C).length by rw [bytesOf_length]; omega, List.take_length]
    rfl
  | succ n ih =>
    intro k i acc h1 h0 ha he hk
    obtain ⟨k, rfl⟩ : ∃ m, k = m + 1 := ⟨k - 1, by omega⟩
    have hb := bt_range C i
    have hst := Z.enc_step escP C i h0 (by omega)
    have hcb := escB_is (bt C i) hb.1 hb.2
    have hlen := Z.encB_len escP (bt C i)
    rw [← he] at hst
    have ih := ih k (i + 1) (acc ++ Z.encB escP (bt C i)) (by omega) (by omega) (by rw [List.length_append]; omega) hst.symm (by omega)
    rw [hcb] at ih
    rw [posternref22_Escape.l0, if_pos (by omega), if_pos h0, show wrap64 (i + 1) = i + 1 by unfold wrap64; omega, coded_is (bt C i) hb.1 hb.2, show wrap32 (bt C i) = bt C i by unfold wrap32; omega]
    unfold posternref22_Host.f
    simp only [Option.bind_some]
    generalize bt C i = b at *
    by_cases c1 : b < 32
    · rw [if_pos c1] at ih
      rw [if_pos c1, if_pos (by rw [codeL_len]; omega)]
      exact ih
    · rw [if_neg c1] at ih
      rw [if_neg c1]
      by_cases c2 : b > 126
      · rw [if_pos c2] at ih
        rw [if_pos c2, if_pos (by rw [codeL_len]; omega)]
        exact ih
      · rw [if_neg c2] at ih
        rw [if_neg c2]
        by_cases c3 : forb b = true
        · rw [if_pos c3] at ih
          rw [if_pos c3, if_pos (by rw [codeL_len]; omega)]
          exact ih
        · rw [if_neg c3] at ih
          rw [if_neg c3, if_pos (by omega)]
          exact ih
theorem REscape_is (s : ByteArray) (hs : s.size ≤ 1000000000) (k : Nat) (hk : s.size < k) : posternref22_Escape.f k s = some (escS s) := by
  unfold posternref22_Escape.f
  exact REscape_l0 s hs s.size k 0 [] (by omega) (by omega) (by simp) rfl hk
theorem Escape_is (s : ByteArray) (hs : s.size ≤ 16777216) : opaque_Escape.f s = some (escS s) := by
  unfold opaque_Escape.f
  rw [if_pos hs]
theorem OAll_l0 (s : ByteArray) (hs : s.size ≤ 16777216) (l : List Int) (hl : l.length ≤ 100000000) : ∀ (n k i : Nat), l.length - i = n → i ≤ l.length → n + 1000000010 < k → posternlaw22_OpaqueAll.l0 k s l l (l.length : Int) (i : Int) = some true := by
  intro n
  induction n with
  | zero =>
    intro k i h1 h2 hk
    obtain ⟨k, rfl⟩ : ∃ m, k = m + 1 := ⟨k - 1, by omega⟩
    rw [posternlaw22_OpaqueAll.l0, if_neg (by omega), Normal_is s hs, RNormal_is s hs k (by omega)]
    simp only [Option.bind_some, if_true, beq_self_eq_true]
  | succ n ih =>
    intro k i h1 h2 hk
    obtain ⟨k, rfl⟩ : ∃ m, k = m + 1 := ⟨k - 1, by omega⟩
    rw [posternlaw22_OpaqueAll.l0, if_pos (by omega), if_pos (by omega), if_pos (by omega), if_pos (by omega), if_pos rfl, show wrap64 ((i : Int) + 1) = ((i + 1 : Nat) : Int) by unfold wrap64; omega]
    exact ih k (i + 1) (by omega) (by omega) (by omega)
theorem opaqueAll_any (s : ByteArray) (b : Bool) (w : World) (hs : s.size ≤ 1048576) (T : Tabs w) : Calls Tryd.prog 8 #[.string s, .bool b] w fun e w' => e = .returned (.bool true) ∧ Below w.heap.size w w' := by
  obtain ⟨K, hK⟩ : ∃ K : Nat, K = 2000000000 := ⟨_, rfl⟩
  refine posternlaw22_OpaqueAll.calls (K + 1) s b true w ?_ T
  have hl : (allT b s).length ≤ s.size := Nat.le_trans (allF_len _ _) (pcs_len s s.size 0 (by omega) (by omega))
  unfold posternlaw22_OpaqueAll.f
  rw [awakeB_is, All_is b s (by omega), RAll_is b s (by omega) (K + 1) (by omega), Escape_is s (by omega), REscape_is s (by omega) (K + 1) (by omega)]
  simp only [Option.bind_some, if_true, bne_self_eq_false]
  rw [posternlaw22_OpaqueAll.j0]
  simp only [Bool.false_eq_true, if_false]
  exact OAll_l0 s (by omega) (allT b s) (by omega) (allT b s).length K 0 (by omega) (by omega) (by omega)
end Go.Proofs.YtebpghpaglpdlaaDoor
