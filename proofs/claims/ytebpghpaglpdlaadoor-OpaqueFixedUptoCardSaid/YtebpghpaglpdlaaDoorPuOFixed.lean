/- OpaqueFixed: what is left when the program is gone; the walk. -/
import Derived.Test.YtebpghpaglpdlaaDoorOpqF
import Derived.Test.YtebpghpaglpdlaaDoorQOpfx9
import Derived.Test.YtebpghpaglpdlaaDoorQOpfx3
import Derived.Test.YtebpghpaglpdlaaDoorQOpfx1
import Derived.Test.YtebpghpaglpdlaaDoorQOpfx4
import Derived.Test.YtebpghpaglpdlaaDoorQOpfx7
import Derived.Test.YtebpghpaglpdlaaDoorQOpfx5
import Derived.Test.YtebpghpaglpdlaaDoorQOpfx6
set_option linter.unusedVariables false
set_option linter.unusedSimpArgs false
namespace Go.Proofs.YtebpghpaglpdlaaDoor
open Go.RowKit Go.Proofs.YtebpghpaglpdlaaDoorW.PrintWords Go.Proofs.YtebpghpaglpdlaaDoorQ.Opf
theorem scal_is {r : Int} {b : Bool} (h : b = true ↔ ((0 ≤ r ∧ r < 55296) ∨ (57343 < r ∧ r ≤ 1114111))) : scal r = b := by
  cases b with
  | true => exact (scal_iff r).2 (h.1 rfl)
  | false =>
    cases hs : scal r with
    | false => rfl
    | true => exact absurd (h.2 ((scal_iff r).1 hs)) (by simp)
theorem RScalar_is (r : Int) : posternref02_Scalar.f r = some (scal r) := by
  unfold posternref02_Scalar.f
  by_cases h0 : r ≥ 0
  · rw [if_pos h0]
    by_cases h1 : r < 55296
    · rw [if_pos h1, scal_is (b := true) (by simp; omega)]
    · rw [if_neg h1]
      by_cases h2 : r > 57343
      · rw [if_pos h2, scal_is (b := decide (r ≤ 1114111)) (by simp; omega)]
      · rw [if_neg h2, scal_is (b := false) (by simp; omega)]
  · rw [if_neg h0, if_neg (by omega), scal_is (b := false) (by simp; omega)]
/-- m is the place of the first number that is no scalar value, or the list's length -/
structure StopAt (l : List Int) (m : Nat) : Prop where
  le : m ≤ l.length
  ok : ∀ r ∈ l.take m, scal r = true
  stop : m < l.length → scal (rd l m) = false
theorem StopAt.at_ {l : List Int} {m : Nat} (h : StopAt l m) (i : Nat) (hi : i < m) : scal (rd l i) = true := by
  have := h.le
  refine h.ok _ ?_
  have e : rd l i = (l.take m)[i]'(by rw [List.length_take]; omega) := by simp [rd, List.getD_eq_getElem?_getD, List.getElem?_eq_getElem (show i < l.length by omega)]
  rw [e]
  exact List.getElem_mem _
theorem StopAt.full {l : List Int} (h : ∀ r ∈ l, scal r = true) : StopAt l l.length := ⟨Nat.le_refl _, fun r hr => h r (by rw [List.take_length] at hr; exact hr), fun h => by omega⟩
theorem RWidth_is (r : Int) : posternref02_Width.f r = some (wid r) := by
  unfold posternref02_Width.f wid
  rw [RScalar_is]
  simp only [Option.bind_some]
  repeat' split
  all_goals rfl
/-- what Encode tells, by the place of the first number that is no scalar value -/
def encA (l : List Int) (m : Nat) : ByteArray × Int × Int := if m = l.length then (encS l, 0, 0) else (⟨#[]⟩, (m : Int), 20)
theorem encL_take_len (l : List Int) (i : Nat) : (encL (l.take i)).length ≤ 4 * i := by
  have := encL_len (l.take i)
  have := List.length_take_le i l
  omega
theorem REncode_l0 (l : List Int) (m : Nat) (hm : StopAt l m) (hl : l.length ≤ 9000000000000) : ∀ (n k i : Nat), m - i = n → i ≤ m → n + 2 < k → posternref02_Encode.l0 k (encL (l.take i)) l (l.length : Int) (i : Int) = some (encA l m) := by
  intro n
  have hle := hm.le
  induction n with
  | zero =>
    intro k i h1 h2 hk
    obtain ⟨k, rfl⟩ : ∃ m, k = m + 1 := ⟨k - 1, by omega⟩
    obtain rfl : i = m := by omega
    simp only [posternref02_Encode.l0]
    unfold encA
    by_cases he : i = l.length
    · rw [if_neg (by omega), if_pos he, he, List.take_length]; rfl
    · have hs := hm.stop (by omega)
      have hw : wid (rd l i) = 0 := by unfold wid; rw [hs]; rfl
      rw [if_pos (by omega), if_pos (by omega), if_pos (by omega), RWidth_is _, hw, if_neg he]
      rfl
  | succ n ih =>
    intro k i h1 h2 hk
    obtain ⟨k, rfl⟩ : ∃ m, k = m + 1 := ⟨k - 1, by omega⟩
    have hs := hm.at_ i (by omega)
    have ht := take_rd l i (by omega)
    have hlen := encL_take_len l i
    have ih := ih k (i + 1) (by omega) (by omega) (by omega)
    rw [ht, encL_app, encL_one] at ih
    simp only [posternref02_Encode.l0]
    rw [if_pos (by omega), if_pos (by omega), if_pos (by omega), RWidth_is]
    have hr := (scal_iff _).1 hs
    have hw : wid (rd l i) = (if rd l i < 128 then 1 else if rd l i < 2048 then 2 else if rd l i < 65536 then 3 else 4) := by unfold wid; rw [hs]; rfl
    rw [hw]
    generalize rd l (i : Int) = r at *
    clear hw
    simp only [Option.bind_some]
    rw [show wrap64 ((i : Int) + 1) = ((i + 1 : Nat) : Int) by unfold wrap64; omega]
    unfold encB at ih
    by_cases c1 : r < 128
    · rw [if_pos c1] at ih
      simp only [if_pos c1]
      rw [if_neg (by decide), if_pos trivial, if_pos (by omega), show r % 256 = r by omega]
      exact ih
    · rw [if_neg c1] at ih
      simp only [if_neg c1]
      rw [Int.tdiv_eq_ediv_of_nonneg (by omega), Int.tdiv_eq_ediv_of_nonneg (by omega), Int.tdiv_eq_ediv_of_nonneg (by omega), Int.tmod_eq_emod_of_nonneg (by omega), show wrap32 (r / 64) = r / 64 by unfold wrap32; omega, show wrap32 (r / 4096) = r / 4096 by unfold wrap32; omega, show wrap32 (r / 262144) = r / 262144 by unfold wrap32; omega, Int.tmod_eq_emod_of_nonneg (by omega), Int.tmod_eq_emod_of_nonneg (by omega)]
      by_cases c2 : r < 2048
      · rw [if_pos c2] at ih
        simp only [if_pos c2]
        rw [if_neg (by decide), if_neg (by decide), if_pos trivial, if_pos (by simp only [List.length_cons, List.length_nil]; omega), show wrap32 (192 + r / 64) % 256 = 192 + r / 64 by unfold wrap32; omega, show wrap32 (128 + r % 64) % 256 = 128 + r % 64 by unfold wrap32; omega]
        exact ih
      · rw [if_neg c2] at ih
        simp only [if_neg c2]
        by_cases c3 : r < 65536
        · rw [if_pos c3] at ih
          simp only [if_pos c3]
          rw [if_neg (by decide), if_neg (by decide), if_neg (by decide), if_pos trivial, if_pos (by simp only [List.length_cons, List.length_nil]; omega), show wrap32 (224 + r / 4096) % 256 = 224 + r / 4096 by unfold wrap32; omega, show wrap32 (128 + r / 64 % 64) % 256 = 128 + r / 64 % 64 by unfold wrap32; omega, show wrap32 (128 + r % 64) % 256 = 128 + r % 64 by unfold wrap32; omega]
          exact ih
        · rw [if_neg c3] at ih
          simp only [if_neg c3]
          rw [if_neg (by decide), if_neg (by decide), if_neg (by decide), if_neg (by decide), if_pos (by simp only [List.length_cons, List.length_nil]; omega), show wrap32 (240 + r / 262144) % 256 = 240 + r / 262144 by unfold wrap32; omega, show wrap32 (128 + r / 4096 % 64) % 256 = 128 + r / 4096 % 64 by unfold wrap32; omega, show wrap32 (128 + r / 64 % 64) % 256 = 128 + r / 64 % 64 by unfold wrap32; omega, show wrap32 (128 + r % 64) % 256 = 128 + r % 64 by unfold wrap32; omega]
          exact ih
theorem REncode_is (l : List Int) (m : Nat) (hm : StopAt l m) (hl : l.length ≤ 9000000000000) (k : Nat) (hk : l.length + 2 < k) : posternref02_Encode.f k l = some (encA l m) := by
  unfold posternref02_Encode.f
  exact REncode_l0 l m hm hl m k 0 (by omega) (by omega) (by have := hm.le; omega)
theorem decT_len (s : ByteArray) : (decT s).length ≤ s.size := by
  unfold decT
  rw [List.length_map]
  exact pcs_len s s.size 0 (by omega) (by omega)
theorem encS_len (l : List Int) : (encS l).size ≤ 4 * l.length := by rw [encS_size]; exact encL_len l
/-- what Parse tells -/
def parT (s : ByteArray) : ByteArray × Int × Int := if 0 ≤ fstF (fun r => inT r 9) (pcs s 0) then (⟨#[]⟩, fstF (fun r => inT r 9) (pcs s 0), 220) else (ctlS (encS (decT s)), 0, 0)
theorem Parse_is (s : ByteArray) (hs : s.size ≤ 16777216) : opaque_Parse.f s = some (parT s) := by
  unfold opaque_Parse.f parT
  rw [if_pos hs]
  split <;> rfl
theorem awakeB_is : posternlaw22_awake.f = some true := by
  have e1 : parT (⟨#[195, 164, 37, 122, 122]⟩ : ByteArray) = (⟨#[37, 67, 51, 37, 65, 52, 37, 122, 122]⟩, 0, 0) := by decide +kernel
  have e2 : parT (⟨#[97, 32, 98]⟩ : ByteArray) = (⟨#[]⟩, 1, 220) := by decide +kernel
  unfold posternlaw22_awake.f
  rw [Parse_is _ (by decide), Parse_is _ (by decide), e1, e2]
  decide +kernel
theorem ctlS_len (s : ByteArray) : (ctlS (encS (decT s))).size ≤ 12 * s.size := by
  have h1 := decT_len s
  have h2 := encS_len (decT s)
  have h3 := Z.encL_len (inSet (nW 1)) (bytesOf (encS (decT s)))
  rw [bytesOf_length] at h3
  unfold ctlS
  rw [strOfNums_size]
  omega
theorem toList_nil {s : ByteArray} (h : s.toList = []) : s.size = 0 := by
  rw [ByteArray.toList_eq] at h
  have : s.data.toList.length = 0 := by rw [h]; rfl
  rw [Array.length_toList] at this
  exact this
theorem toList_nil' {s : ByteArray} (h : s.size = 0) : s.toList = [] := by
  rw [ByteArray.toList_eq]
  exact List.eq_nil_of_length_eq_zero (by rw [Array.length_toList]; exact h)
theorem parT_ok (s : ByteArray) (h : fstF (fun r => inT r 9) (pcs s 0) < 0) : parT (ctlS (encS (decT s))) = (ctlS (encS (decT s)), 0, 0) := by
  have hp := ok_parse _ (parse_ok s h)
  unfold parT
  rw [show ctlS (encS (decT s)) = strOfNums (Z.encL (inSet (nW 1)) (bytesOf (encS (decT s)))) from rfl, hp.1, hp.2, if_neg (by decide)]
theorem OFixed_l1 (s : ByteArray) (hs : s.size ≤ 1048576) (h : fstF (fun r => inT r 9) (pcs s 0) < 0) (P : Bool) (hP : P = false → ∀ i : Int, 0 ≤ i → i < s.size → bt s i ≠ 37) : ∀ (n k : Nat) (i : Int), ((ctlS (encS (decT s))).size : Int) - i = n → 0 ≤ i → n + 50000000 < k → posternlaw22_OpaqueFixed.l1 k s (ctlS (encS (decT s))) P ((ctlS (encS (decT s))).size : Int) i = some true := by
  have hlen := ctlS_len s
  have hT := parT_ok s h
  have hok := parse_ok s h
  have hdl := decT_len s
  have hfin : ∀ k : Nat, 40000000 < k → posternlaw22_OpaqueFixed.l1 (k + 1) s (ctlS (encS (decT s))) P ((ctlS (encS (decT s))).size : Int) ((ctlS (encS (decT s))).size : Int) = some true := fun k hk => by
    have hRE := REncode_is (decT s) _ (StopAt.full (decT_scal s)) (by omega) k (by omega)
    unfold encA at hRE
    rw [if_pos rfl] at hRE
    have hsay : P = false → Z.decS (ctlS (encS (decT s))) = encS (decT s) := fun e => parse_says s (hP e)
    rw [posternlaw22_OpaqueFixed.l1]
    unfold posternref02_Decode.f opaque_Is.f opaque_Bytes.f percent_Decode.f
    rw [if_neg (by omega), Parse_is _ (by omega), hT, if_pos (show s.size * 24 + 24 ≤ 140737488351232 by omega), if_pos (show (ctlS (encS (decT s))).size ≤ 140737488351232 by omega)]
    simp only [Option.bind_some]
    rw [hRE]
    simp only [Option.bind_some, if_true, beq_self_eq_true]
    have hnil : s.toList = [] → (ctlS (encS (decT s))).toList = [] := fun e => toList_nil' (by have := toList_nil e; omega)
    generalize ctlS (encS (decT s)) = t at *
    cases P with
    | true =>
      simp only [if_true]
      split
      · rename_i e
        rw [hnil e]; rfl
      · rfl
    | false =>
      rw [hsay rfl]
      simp only [Bool.false_eq_true, if_false, if_true]
      split
      · rename_i e
        rw [hnil e]; rfl
      · rfl
  have hb : ∀ i : Int, 0 ≤ i → i < (ctlS (encS (decT s))).size → okP (bt (ctlS (encS (decT s))) i) := fun i h0 h1 => by
    refine hok _ ?_
    have e : bytesOf (ctlS (encS (decT s))) = Z.encL (inSet (nW 1)) (bytesOf (encS (decT s))) := bytesOf_strOfNums _ (fun x hx => by have := (hok x hx).ascii; omega)
    rw [← e, ← rd_bytesOf _ i]
    have hl := bytesOf_length (ctlS (encS (decT s)))
    unfold rd
    rw [List.getD_eq_getElem?_getD, List.getElem?_eq_getElem (by omega)]
    exact List.getElem_mem _
  generalize ctlS (encS (decT s)) = t at *
  intro n
  induction n with
  | zero =>
    intro k i h1 h0 hk
    obtain ⟨k, rfl⟩ : ∃ m, k = m + 1 := ⟨k - 1, by omega⟩
    obtain rfl : i = t.size := by omega
    exact hfin k (by omega)
  | succ n ih =>
    intro k i h1 h0 hk
    obtain ⟨k, rfl⟩ : ∃ m, k = m + 1 := ⟨k - 1, by omega⟩
    have hc := hb i h0 (by omega)
    have hc0 := hc.1
    have hc1 := hc.2.1
    have hc2 := hc.2.2
    rw [posternlaw22_OpaqueFixed.l1]
    unfold opaque_Host.f opaque_in.f
    rw [if_pos (by omega), if_pos (by omega), if_pos (by omega), if_neg (by omega), if_neg (by omega), show wrap32 (bt t i) = bt t i by unfold wrap32; omega, hc2, show wrap64 (i + 1) = i + 1 by unfold wrap64; omega]
    simp only [Option.bind_some, Bool.false_eq_true, if_false]
    exact ih k (i + 1) (by omega) (by omega) (by omega)
theorem OFixed_l0 (s : ByteArray) (hs : s.size ≤ 1048576) (h : fstF (fun r => inT r 9) (pcs s 0) < 0) : ∀ (n k : Nat) (i : Int) (P : Bool), (s.size : Int) - i = n → 0 ≤ i → (P = false → ∀ j : Int, 0 ≤ j → j < i → bt s j ≠ 37) → n + 100000000 < k → posternlaw22_OpaqueFixed.l0 k s (ctlS (encS (decT s))) P (s.size : Int) i = some true := by
  intro n
  have hlen := ctlS_len s
  induction n with
  | zero =>
    intro k i P h1 h0 hP hk
    obtain ⟨k, rfl⟩ : ∃ m, k = m + 1 := ⟨k - 1, by omega⟩
    rw [posternlaw22_OpaqueFixed.l0, if_neg (by omega)]
    exact OFixed_l1 s hs h P (fun e j j0 j1 => hP e j j0 (by omega)) (ctlS (encS (decT s))).size k 0 (by omega) (by omega) (by omega)
  | succ n ih =>
    intro k i P h1 h0 hP hk
    obtain ⟨k, rfl⟩ : ∃ m, k = m + 1 := ⟨k - 1, by omega⟩
    rw [posternlaw22_OpaqueFixed.l0, if_pos (by omega), show wrap64 (i + 1) = i + 1 by unfold wrap64; omega]
    cases P with
    | true => exact ih k (i + 1) true (by omega) (by omega) (fun e => by cases e) (by omega)
    | false =>
      rw [if_neg (by decide), if_pos (by omega), if_pos (by omega)]
      refine ih k (i + 1) _ (by omega) (by omega) (fun e j j0 j1 => ?_) (by omega)
      by_cases hj : j < i
      · exact hP rfl j j0 hj
      · obtain rfl : j = i := by omega
        exact beq_eq_false_iff_ne.1 e
theorem opaqueFixed_any (s : ByteArray) (w : World) (hs : s.size ≤ 1048576) (T : Tabs w) : Calls Tryd.prog 5 #[.string s] w fun e w' => e = .returned (.bool true) ∧ Below w.heap.size w w' := by
  obtain ⟨K, hK⟩ : ∃ K : Nat, K = 200000000 := ⟨_, rfl⟩
  refine posternlaw22_OpaqueFixed.calls K s true w ?_ T
  unfold posternlaw22_OpaqueFixed.f
  rw [awakeB_is, Parse_is s (by omega)]
  simp only [Option.bind_some, if_true]
  by_cases h : 0 ≤ fstF (fun r => inT r 9) (pcs s 0)
  · obtain ⟨p, hp, e, -⟩ := fstF_mem h
    have hm := (To.all s s.size 0 (by omega) (by omega) (by omega)).mem (by omega) p hp
    unfold parT
    rw [if_pos h]
    simp only
    rw [if_neg (by decide), if_pos (by decide +kernel : (⟨#[]⟩ : ByteArray).toList = ([] : List UInt8)), if_pos (by omega), decide_eq_true (by omega)]
  · have e : parT s = (ctlS (encS (decT s)), 0, 0) := by unfold parT; rw [if_neg h]
    rw [e]
    simp only
    rw [if_pos trivial]
    exact OFixed_l0 s hs (by omega) s.size K 0 false (by omega) (by omega) (fun _ j j0 j1 => by omega) (by omega)
end Go.Proofs.YtebpghpaglpdlaaDoor
