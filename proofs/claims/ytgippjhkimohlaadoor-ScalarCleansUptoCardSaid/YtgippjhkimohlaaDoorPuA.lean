/- Scalar: what the printed functions on lists of numbers come to. Plain. -/
import Derived.Test.YtgippjhkimohlaaDoorQScax1
import Derived.Test.YtgippjhkimohlaaDoorQScax2
import Derived.Test.YtgippjhkimohlaaDoorScX
set_option linter.unusedVariables false
set_option linter.unusedSimpArgs false
namespace Go.Proofs.YtgippjhkimohlaaDoor
open Go.RowKit Go.Proofs.YtgippjhkimohlaaDoorW.PrintWords Go.Proofs.YtgippjhkimohlaaDoorQ.Sca
theorem same_l0 (l : List Int) (hl : l.length ≤ 9000000000000) : ∀ (n k i : Nat), l.length - i = n → i ≤ l.length → n < k → posternlaw02_same.l0 k l l (l.length : Int) (i : Int) = some true := by
  intro n
  induction n with
  | zero =>
    intro k i h1 h2 hk
    obtain ⟨k, rfl⟩ : ∃ m, k = m + 1 := ⟨k - 1, by omega⟩
    simp only [posternlaw02_same.l0]
    rw [if_neg (by omega)]
  | succ n ih =>
    intro k i h1 h2 hk
    obtain ⟨k, rfl⟩ : ∃ m, k = m + 1 := ⟨k - 1, by omega⟩
    simp only [posternlaw02_same.l0]
    rw [if_pos (by omega), if_pos (by omega), if_pos (by omega), if_pos (by omega), if_pos trivial, show wrap64 ((i : Int) + 1) = ((i + 1 : Nat) : Int) by unfold wrap64; omega]
    exact ih k (i + 1) (by omega) (by omega) (by omega)
theorem same_is (l : List Int) (hl : l.length ≤ 9000000000000) (k : Nat) (hk : l.length < k) : posternlaw02_same.f k l l = some true := by
  unfold posternlaw02_same.f
  rw [if_pos rfl]
  exact same_l0 l hl l.length k 0 (by omega) (by omega) hk
theorem unitsame_l0 (l : List Int) (hl : l.length ≤ 9000000000000) : ∀ (n k i : Nat), l.length - i = n → i ≤ l.length → n < k → posternlaw02_units.l0 k l l (l.length : Int) (i : Int) = some true := by
  intro n
  induction n with
  | zero =>
    intro k i h1 h2 hk
    obtain ⟨k, rfl⟩ : ∃ m, k = m + 1 := ⟨k - 1, by omega⟩
    simp only [posternlaw02_units.l0]
    rw [if_neg (by omega)]
  | succ n ih =>
    intro k i h1 h2 hk
    obtain ⟨k, rfl⟩ : ∃ m, k = m + 1 := ⟨k - 1, by omega⟩
    simp only [posternlaw02_units.l0]
    rw [if_pos (by omega), if_pos (by omega), if_pos (by omega), if_pos (by omega), if_pos trivial, show wrap64 ((i : Int) + 1) = ((i + 1 : Nat) : Int) by unfold wrap64; omega]
    exact ih k (i + 1) (by omega) (by omega) (by omega)
theorem unitsame_is (l : List Int) (hl : l.length ≤ 9000000000000) (k : Nat) (hk : l.length < k) : posternlaw02_units.f k l l = some true := by
  unfold posternlaw02_units.f
  rw [if_pos rfl]
  exact unitsame_l0 l hl l.length k 0 (by omega) (by omega) hk
theorem scal_is {r : Int} {b : Bool} (h : b = true ↔ ((0 ≤ r ∧ r < 55296) ∨ (57343 < r ∧ r ≤ 1114111))) : scal r = b := by
  cases b with
  | true => exact (scal_iff r).2 (h.1 rfl)
  | false =>
    cases hs : scal r with
    | false => rfl
    | true => exact absurd (h.2 ((scal_iff r).1 hs)) (by simp)
theorem Scalar_is (r : Int) (k : Nat) (hk : 0 < k) : scalar_Scalar.f k r = some (scal r) := by
  obtain ⟨k, rfl⟩ : ∃ m, k = m + 1 := ⟨k - 1, by omega⟩
  unfold scalar_Scalar.f utf8_ValidRune.f
  by_cases h0 : 0 ≤ r
  · rw [if_pos h0]
    by_cases h1 : r < 55296
    · rw [scal_is (b := true) (by simp; omega)]
      simp [utf8_ValidRune.j0, h1]
    · by_cases h2 : 57343 < r
      · by_cases h3 : r ≤ 1114111
        · rw [scal_is (b := true) (by simp; omega)]
          simp [utf8_ValidRune.j0, h1, h2, h3]
        · rw [scal_is (b := false) (by simp; omega)]
          simp [utf8_ValidRune.j0, h1, h2, h3]
      · rw [scal_is (b := false) (by simp; omega)]
        simp [utf8_ValidRune.j0, h1, h2]
  · rw [if_neg h0, scal_is (b := false) (by simp; omega)]
    have h2 : ¬ 57343 < r := by omega
    simp [utf8_ValidRune.j0, h2]
theorem RScalar_is (r : Int) : posternref02_Scalar.f r = some (scal r) := by
  unfold posternref02_Scalar.f
  by_cases h0 : r ≥ 0
  · rw [if_pos h0]
    by_cases h1 : r < 55296
    · rw [if_pos h1, scal_is (b := true) (by simp; omega)]
    · rw [if_neg h1]
      by_cases h2 : r > 57343
      · rw [if_pos h2, scal_is (b := decide (r ≤ 1114111)) (by simp; omega)]
      · rw [if_neg h2, scal_is (b := false) (by simp; omega)]
  · rw [if_neg h0, if_neg (by omega), scal_is (b := false) (by simp; omega)]
/-- m is the place of the first number that is no scalar value, or the list's length -/
structure StopAt (l : List Int) (m : Nat) : Prop where
  le : m ≤ l.length
  ok : ∀ r ∈ l.take m, scal r = true
  stop : m < l.length → scal (rd l m) = false
theorem stop_ix (l : List Int) : StopAt l (l.findIdx (fun r => !scal r)) := by
  by_cases h : l.all scal = true
  · have e : l.findIdx (fun r => !scal r) = l.length := by
      rw [List.findIdx_eq_length]
      intro x hx
      have := List.all_eq_true.1 h x hx
      simp [this]
    rw [e]
    exact ⟨Nat.le_refl _, fun r hr => List.all_eq_true.1 h r (by rw [List.take_length] at hr; exact hr), fun h => by omega⟩
  · obtain ⟨h1, h2, h3⟩ := bad_ix l h
    exact ⟨by omega, h2, fun _ => h3⟩
theorem StopAt.at_ {l : List Int} {m : Nat} (h : StopAt l m) (i : Nat) (hi : i < m) : scal (rd l i) = true := by
  have := h.le
  refine h.ok _ ?_
  have e : rd l i = (l.take m)[i]'(by rw [List.length_take]; omega) := by simp [rd, List.getD_eq_getElem?_getD, List.getElem?_eq_getElem (show i < l.length by omega)]
  rw [e]
  exact List.getElem_mem _
theorem StopAt.full {l : List Int} (h : ∀ r ∈ l, scal r = true) : StopAt l l.length := ⟨Nat.le_refl _, fun r hr => h r (by rw [List.take_length] at hr; exact hr), fun h => by omega⟩
theorem StopAt.all {l : List Int} {m : Nat} (h : StopAt l m) : l.all scal = true ↔ m = l.length := by
  constructor
  · intro ha
    refine Decidable.byContradiction fun hne => ?_
    have hlt : m < l.length := by have := h.le; omega
    have e : rd l m = l[m] := by simp [rd, List.getD_eq_getElem?_getD, List.getElem?_eq_getElem hlt]
    have h1 := h.stop hlt
    rw [e, List.all_eq_true.1 ha _ (List.getElem_mem _)] at h1
    cases h1
  · rintro rfl
    refine List.all_eq_true.2 fun x hx => h.ok x ?_
    rw [List.take_length]
    exact hx
theorem u16_in (x : Int) (h : 0 ≤ x ∧ x ≤ 65535) : IntKind.u16.wrap x = x := by
  simp [IntKind.wrap, IntKind.bits, IntKind.signed]
  omega
theorem and1023 (x : Int) (h0 : 0 ≤ x) (h1 : x < 2147483648) : Go.bits .and .i32 x 1023 = x % 1024 := bits_mask .i32 31 (by decide) wraps_i32 10 (by decide) x h0 h1
theorem untL_take_len (l : List Int) (i : Nat) : (untL (l.take i)).length ≤ 2 * i := by
  have := untL_len (l.take i)
  have := List.length_take_le i l
  omega
/-- what Units tells, by the place of the first number that is no scalar value -/
def untA (l : List Int) (m : Nat) : List Int × Int × Int := if m = l.length then (untL l, 0, 0) else ([], (m : Int), 20)
theorem Units_l0 (l : List Int) (m : Nat) (hm : StopAt l m) (hl : l.length ≤ 9000000000000) : ∀ (n k i : Nat), m - i = n → i ≤ m → n + 2 < k → scalar_Units.l0 k (untL (l.take i)) l (l.length : Int) (i : Int) = some (untA l m) := by
  intro n
  have hle := hm.le
  induction n with
  | zero =>
    intro k i h1 h2 hk
    obtain ⟨k, rfl⟩ : ∃ m, k = m + 1 := ⟨k - 1, by omega⟩
    obtain rfl : i = m := by omega
    simp only [scalar_Units.l0]
    unfold untA
    by_cases he : i = l.length
    · rw [if_neg (by omega), if_pos he, he, List.take_length]
    · have hs := hm.stop (by omega)
      rw [if_pos (by omega), if_pos (by omega), if_pos (by omega), Scalar_is _ k (by omega), hs, if_neg he]
      rfl
  | succ n ih =>
    intro k i h1 h2 hk
    obtain ⟨k, rfl⟩ : ∃ m, k = m + 1 := ⟨k - 1, by omega⟩
    have hs := hm.at_ i (by omega)
    have ht := take_rd l i (by omega)
    have hlen := untL_take_len l i
    have ih := ih k (i + 1) (by omega) (by omega) (by omega)
    rw [ht, untL_app, untL_one] at ih
    simp only [scalar_Units.l0]
    rw [if_pos (by omega), if_pos (by omega), if_pos (by omega), Scalar_is _ k (by omega), hs]
    have hr := (scal_iff _).1 hs
    generalize rd l (i : Int) = r at *
    simp only [Option.bind_some, if_true]
    rw [show wrap64 ((i : Int) + 1) = ((i + 1 : Nat) : Int) by unfold wrap64; omega]
    unfold untB at ih
    by_cases hp : r < 65536
    · rw [if_pos hp] at ih ⊢
      rw [if_pos (by omega), u16_in r (by omega)]
      exact ih
    · rw [if_neg hp] at ih ⊢
      rw [show wrap32 (r - 65536) = r - 65536 by unfold wrap32; omega, and1023 _ (by omega) (by omega), show wrap32 (55296 + (r - 65536) / 1024) = 55296 + (r - 65536) / 1024 by unfold wrap32; omega, show wrap32 (56320 + (r - 65536) % 1024) = 56320 + (r - 65536) % 1024 by unfold wrap32; omega, u16_in _ (by omega), u16_in _ (by omega), if_pos (by simp only [List.length_cons, List.length_nil]; omega)]
      exact ih
theorem Units_is (l : List Int) (m : Nat) (hm : StopAt l m) (hl : l.length ≤ 9000000000000) (k : Nat) (hk : l.length + 2 < k) : scalar_Units.f k l = some (untA l m) := by
  unfold scalar_Units.f
  exact Units_l0 l m hm hl m k 0 (by omega) (by omega) (by have := hm.le; omega)
theorem RUnits_l0 (l : List Int) (m : Nat) (hm : StopAt l m) (hl : l.length ≤ 9000000000000) : ∀ (n k i : Nat), m - i = n → i ≤ m → n + 2 < k → posternref02_Units.l0 k (untL (l.take i)) l (l.length : Int) (i : Int) = some (untA l m) := by
  intro n
  have hle := hm.le
  induction n with
  | zero =>
    intro k i h1 h2 hk
    obtain ⟨k, rfl⟩ : ∃ m, k = m + 1 := ⟨k - 1, by omega⟩
    obtain rfl : i = m := by omega
    simp only [posternref02_Units.l0]
    unfold untA
    by_cases he : i = l.length
    · rw [if_neg (by omega), if_pos he, he, List.take_length]
    · have hs := hm.stop (by omega)
      rw [if_pos (by omega), if_pos (by omega), if_pos (by omega), RScalar_is _, hs, if_neg he]
      rfl
  | succ n ih =>
    intro k i h1 h2 hk
    obtain ⟨k, rfl⟩ : ∃ m, k = m + 1 := ⟨k - 1, by omega⟩
    have hs := hm.at_ i (by omega)
    have ht := take_rd l i (by omega)
    have hlen := untL_take_len l i
    have ih := ih k (i + 1) (by omega) (by omega) (by omega)
    rw [ht, untL_app, untL_one] at ih
    simp only [posternref02_Units.l0]
    rw [if_pos (by omega), if_pos (by omega), if_pos (by omega), RScalar_is _, hs]
    have hr := (scal_iff _).1 hs
    generalize rd l (i : Int) = r at *
    simp only [Option.bind_some, if_true]
    rw [show wrap64 ((i : Int) + 1) = ((i + 1 : Nat) : Int) by unfold wrap64; omega]
    unfold untB at ih
    by_cases hp : r < 65536
    · rw [if_pos hp] at ih ⊢
      rw [if_pos (by omega), u16_in r (by omega)]
      exact ih
    · rw [if_neg hp] at ih ⊢
      rw [show wrap32 (r - 65536) = r - 65536 by unfold wrap32; omega, Int.tdiv_eq_ediv_of_nonneg (by omega), Int.tmod_eq_emod_of_nonneg (by omega), show wrap32 ((r - 65536) / 1024) = (r - 65536) / 1024 by unfold wrap32; omega, show wrap32 (55296 + (r - 65536) / 1024) = 55296 + (r - 65536) / 1024 by unfold wrap32; omega, show wrap32 (56320 + (r - 65536) % 1024) = 56320 + (r - 65536) % 1024 by unfold wrap32; omega, u16_in _ (by omega), u16_in _ (by omega), if_pos (by simp only [List.length_cons, List.length_nil]; omega)]
      exact ih
theorem RUnits_is (l : List Int) (m : Nat) (hm : StopAt l m) (hl : l.length ≤ 9000000000000) (k : Nat) (hk : l.length + 2 < k) : posternref02_Units.f k l = some (untA l m) := by
  unfold posternref02_Units.f
  exact RUnits_l0 l m hm hl m k 0 (by omega) (by omega) (by have := hm.le; omega)
end Go.Proofs.YtgippjhkimohlaaDoor
