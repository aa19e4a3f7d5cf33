/- Scalar: scalar values, written and read again. Plain. -/
import Derived.Test.YtgippjhkimohlaaDoorScaB
set_option linter.unusedVariables false
set_option linter.unusedSimpArgs false
namespace Go.Proofs.YtgippjhkimohlaaDoor
open Go.RowKit Go.Proofs.YtgippjhkimohlaaDoorW.PrintWords Go.Proofs.YtgippjhkimohlaaDoorW.PrintLast
/-- is a number a scalar value? in how many bytes is it written? -/
def scal (r : Int) : Bool := decide ((0 ≤ r ∧ r < 55296) ∨ (57343 < r ∧ r ≤ 1114111))
def wid (r : Int) : Int := if scal r then (if r < 128 then 1 else if r < 2048 then 2 else if r < 65536 then 3 else 4) else 0
theorem scal_iff (r : Int) : scal r = true ↔ ((0 ≤ r ∧ r < 55296) ∨ (57343 < r ∧ r ≤ 1114111)) := by unfold scal; exact decide_eq_true_iff
/-- the bytes of a scalar value -/
def encB (r : Int) : List Int :=
  if r < 128 then [r] else if r < 2048 then [192 + r / 64, 128 + r % 64] else if r < 65536 then [224 + r / 4096, 128 + r / 64 % 64, 128 + r % 64]
  else [240 + r / 262144, 128 + r / 4096 % 64, 128 + r / 64 % 64, 128 + r % 64]
def encL (l : List Int) : List Int := l.flatMap encB
theorem encB_len (r : Int) (h : scal r = true) : ((encB r).length : Int) = wid r := by
  unfold wid encB
  rw [if_pos h]
  repeat' split
  all_goals rfl
theorem encB_len4 (r : Int) : 1 ≤ (encB r).length ∧ (encB r).length ≤ 4 := by
  unfold encB
  repeat' split
  all_goals simp
theorem encB_range (r : Int) (h : scal r = true) : ∀ x ∈ encB r, 0 ≤ x ∧ x ≤ 255 := by
  have hs := (scal_iff r).1 h
  intro x hx
  unfold encB at hx
  repeat' split at hx
  all_goals
    simp only [List.mem_cons, List.not_mem_nil, or_false] at hx
    omega
theorem encL_range (l : List Int) (h : ∀ r ∈ l, scal r = true) : ∀ x ∈ encL l, 0 ≤ x ∧ x ≤ 255 := by
  intro x hx
  unfold encL at hx
  rw [List.mem_flatMap] at hx
  obtain ⟨r, hr, hx⟩ := hx
  exact encB_range r (h r hr) x hx
theorem valT_eq (t : ByteArray) (n : Int) : valT t n = if n = 1 then lead (bt t 0) else if n = 2 then 64 * lead (bt t 0) + bt t 1 - 128 else if n = 3 then 64 * (64 * lead (bt t 0) + bt t 1 - 128) + bt t 2 - 128 else 64 * (64 * (64 * lead (bt t 0) + bt t 1 - 128) + bt t 2 - 128) + bt t 3 - 128 := rfl
/-- a whole piece is a scalar value of the width that it has -/
theorem whole_scal {t : ByteArray} {n : Int} (h : WholeIs t n) (h1 : n ≠ 1 ∨ 0 ≤ bt t 0) : scal (valT t n) = true ∧ wid (valT t n) = n := by
  obtain ⟨hs, hk⟩ := h
  have hb := bt_range t 0
  have key : scal (valT t n) = true := by
    rw [scal_iff]
    unfold valT lead
    rcases hk with hk | hk | hk | hk
    · obtain ⟨rfl, hk⟩ := hk
      rw [if_pos rfl, if_pos (by omega)]; omega
    · obtain ⟨rfl, hk⟩ := hk
      rw [if_neg (by omega), if_pos rfl, if_neg (by omega), if_pos (by omega)]; omega
    · obtain ⟨rfl, hk⟩ := hk
      rw [if_neg (by omega), if_neg (by omega), if_pos rfl, if_neg (by omega), if_neg (by omega), if_pos (by omega)]; omega
    · obtain ⟨rfl, hk⟩ := hk
      rw [if_neg (by omega), if_neg (by omega), if_neg (by omega), if_neg (by omega), if_neg (by omega), if_neg (by omega)]; omega
  refine ⟨key, ?_⟩
  unfold wid
  rw [if_pos key]
  rcases hk with hk | hk | hk | hk
  · obtain ⟨rfl, hk⟩ := hk
    have hv : valT t 1 = bt t 0 := by
      unfold valT lead
      rw [if_pos rfl, if_pos (by omega)]
    rw [hv, if_pos (by omega)]
  · obtain ⟨rfl, hk⟩ := hk
    have hv : valT t 2 = 64 * (bt t 0 - 192) + bt t 1 - 128 := by
      unfold valT lead
      rw [if_neg (by omega), if_pos rfl, if_neg (by omega), if_pos (by omega)]
    rw [hv, if_neg (by omega), if_pos (by omega)]
  · obtain ⟨rfl, hk⟩ := hk
    have hv : valT t 3 = 64 * (64 * (bt t 0 - 224) + bt t 1 - 128) + bt t 2 - 128 := by
      unfold valT lead
      rw [if_neg (by omega), if_neg (by omega), if_pos rfl, if_neg (by omega), if_neg (by omega), if_pos (by omega)]
    rw [hv, if_neg (by omega), if_neg (by omega), if_pos (by omega)]
  · obtain ⟨rfl, hk⟩ := hk
    have hv : valT t 4 = 64 * (64 * (64 * (bt t 0 - 240) + bt t 1 - 128) + bt t 2 - 128) + bt t 3 - 128 := by
      unfold valT lead
      rw [if_neg (by omega), if_neg (by omega), if_neg (by omega), if_neg (by omega), if_neg (by omega), if_neg (by omega)]
    rw [hv, if_neg (by omega), if_neg (by omega), if_neg (by omega)]
/-- what a scalar value is written as is read as just that -/
theorem enc_fst (t : ByteArray) (r : Int) (hs : scal r = true) (h : ∀ i : Int, 0 ≤ i → i < (encB r).length → bt t i = rd (encB r) i) (hz : (encB r).length ≤ t.size) : fstT t = ⟨(encB r).length, r, false⟩ := by
  have hr := (scal_iff r).1 hs
  have ht : 0 < t.size := by have := encB_len4 r; omega
  have go : ∀ n : Int, ((encB r).length : Int) = n → bgN (bt t 0) = n → (∀ i, 1 ≤ i → i < n → okB t i) → valT t n = r → fstT t = ⟨(encB r).length, r, false⟩ := fun n hn hb ho hv => by
    have hp := encB_len4 r
    have e : runT t = n := (RunIs.eq ⟨by omega, ho, by omega, by omega, by omega⟩ ht).symm
    unfold fstT
    rw [e, hb, if_pos rfl, hv, hn]
  by_cases c1 : r < 128
  · have he : encB r = [r] := by unfold encB; rw [if_pos c1]
    rw [he] at h go ⊢
    have b0 : bt t 0 = r := h 0 (by omega) (by simp)
    refine go 1 (by simp) (by rw [b0]; unfold bgN; rw [if_pos c1]) (fun i _ _ => by omega) ?_
    unfold valT lead
    rw [if_pos rfl, b0, if_pos c1]
  by_cases c2 : r < 2048
  · have he : encB r = [192 + r / 64, 128 + r % 64] := by unfold encB; rw [if_neg c1, if_pos c2]
    rw [he] at h go ⊢
    have b0 : bt t 0 = 192 + r / 64 := h 0 (by omega) (by simp)
    have b1 : bt t 1 = 128 + r % 64 := h 1 (by omega) (by simp)
    refine go 2 (by simp) (by rw [b0]; unfold bgN; rw [if_neg (by omega), if_neg (by omega), if_pos (by omega)]) (fun i _ _ => ?_) ?_
    · obtain rfl : i = 1 := by omega
      refine Or.inl ⟨rfl, ?_⟩
      rw [b0, b1]
      unfold bgLo bgHi
      rw [if_neg (by omega), if_neg (by omega), if_neg (by omega), if_pos (by omega), if_neg (by omega), if_neg (by omega), if_neg (by omega), if_pos (by omega)]
      omega
    · unfold valT lead
      rw [if_neg (by omega), if_pos rfl, b0, b1, if_neg (by omega), if_pos (by omega)]
      omega
  by_cases c3 : r < 65536
  · have he : encB r = [224 + r / 4096, 128 + r / 64 % 64, 128 + r % 64] := by unfold encB; rw [if_neg c1, if_neg c2, if_pos c3]
    rw [he] at h go ⊢
    have b0 : bt t 0 = 224 + r / 4096 := h 0 (by omega) (by simp)
    have b1 : bt t 1 = 128 + r / 64 % 64 := h 1 (by omega) (by simp)
    have b2 : bt t 2 = 128 + r % 64 := h 2 (by omega) (by simp)
    refine go 3 (by simp) (by rw [b0]; unfold bgN; rw [if_neg (by omega), if_neg (by omega), if_neg (by omega), if_pos (by omega)]) (fun i _ _ => ?_) ?_
    · rcases (show i = 1 ∨ i = 2 by omega) with rfl | rfl
      · refine Or.inl ⟨rfl, ?_⟩
        rw [b0, b1]
        unfold bgLo bgHi
        repeat' split
        all_goals omega
      · exact Or.inr ⟨by omega, by omega, by omega⟩
    · unfold valT lead
      rw [if_neg (by omega), if_neg (by omega), if_pos rfl, b0, b1, b2, if_neg (by omega), if_neg (by omega), if_pos (by omega)]
      omega
  · have he : encB r = [240 + r / 262144, 128 + r / 4096 % 64, 128 + r / 64 % 64, 128 + r % 64] := by unfold encB; rw [if_neg c1, if_neg c2, if_neg c3]
    rw [he] at h go ⊢
    have b0 : bt t 0 = 240 + r / 262144 := h 0 (by omega) (by simp)
    have b1 : bt t 1 = 128 + r / 4096 % 64 := h 1 (by omega) (by simp)
    have b2 : bt t 2 = 128 + r / 64 % 64 := h 2 (by omega) (by simp)
    have b3 : bt t 3 = 128 + r % 64 := h 3 (by omega) (by simp)
    refine go 4 (by simp) (by rw [b0]; unfold bgN; rw [if_neg (by omega), if_neg (by omega), if_neg (by omega), if_neg (by omega), if_pos (by omega)]) (fun i _ _ => ?_) ?_
    · rcases (show i = 1 ∨ i = 2 ∨ i = 3 by omega) with rfl | rfl | rfl
      · refine Or.inl ⟨rfl, ?_⟩
        rw [b0, b1]
        unfold bgLo bgHi
        repeat' split
        all_goals omega
      · exact Or.inr ⟨by omega, by omega, by omega⟩
      · exact Or.inr ⟨by omega, by omega, by omega⟩
    · unfold valT lead
      rw [if_neg (by omega), if_neg (by omega), if_neg (by omega), b0, b1, b2, b3, if_neg (by omega), if_neg (by omega), if_neg (by omega)]
      omega
end Go.Proofs.YtgippjhkimohlaaDoor
