/- What is printed is read back: the plain law. -/
import Derived.Test.YtjiapggmiddpdaaOctK
import Derived.Test.YtjiapggmiddpdaaLNumbers
import Derived.Test.YtjiapggmiddpdaaOctB
set_option linter.unusedVariables false
set_option linter.unusedSimpArgs false
namespace Go.Proofs.Ytjiapggmiddpdaa
open Go.RowKit Go.Proofs.YtjiapggmiddpdaaW.PrintWords
/-- a row of digits, read from its front -/
def hor (base : Int) (xs : List Int) : Int := xs.foldl (fun a c => a * base + dig c base) 0
theorem hor_snoc (base : Int) (xs : List Int) (c : Int) : hor base (xs ++ [c]) = hor base xs * base + dig c base := by simp [hor]
theorem val_hor (base : Int) (xs : List Int) (hr : ∀ x ∈ xs, 0 ≤ x ∧ x ≤ 255) : ∀ k, k ≤ xs.length → val (strOfNums xs) base k = hor base (xs.take k)
  | 0, _ => by rw [val_zero]; rfl
  | k + 1, h => by
    rw [val, val_hor base xs hr k (by omega), bt_strOfNums xs k (by omega) hr, List.take_succ_eq_append_getElem (by omega), hor_snoc]
    congr 2
    simp [rd, List.getD_eq_getElem?_getD, List.getElem?_eq_getElem (show k < xs.length by omega)]
theorem num_of {base n : Int} {xs : List Int} (hb : 2 ≤ base ∧ base ≤ 36) (hr : ∀ x ∈ xs, 0 ≤ x ∧ x ≤ 255) (hd : ∀ x ∈ xs, 0 ≤ dig x base) (hne : xs ≠ []) (hh : hor base xs = n) (hn : n < 18446744073709551616) : Num (strOfNums xs) base n 0 0 := by
  have hv := val_hor base xs hr xs.length (Nat.le_refl _)
  rw [List.take_length, hh] at hv
  refine .inr ⟨hb.1, hb.2, .inr (.inr ⟨by rw [strOfNums_size]; intro h; exact hne (List.eq_nil_of_length_eq_zero h), fun j h0 h1 => ?_, rfl, .inr ⟨by rw [strOfNums_size, hv]; exact hn, by rw [strOfNums_size, hv], rfl⟩⟩)⟩
  rw [strOfNums_size] at h1
  rw [bt_strOfNums xs j h0 hr]
  have hj : j.toNat < xs.length := by omega
  have e : rd xs j = xs[j.toNat] := by simp [rd, List.getD_eq_getElem?_getD, List.getElem?_eq_getElem hj]
  rw [e]; exact hd _ (List.getElem_mem hj)
theorem dig_low (base r : Int) (hb : 2 ≤ base ∧ base ≤ 36) (h0 : 0 ≤ r) (h1 : r < base) : dig (bt lowT r) base = r := by
  have h : d36 (bt lowT r) = r := by
    have hp := place36 r (bt lowT r) (bt_range _ _).1 (by have := (bt_range lowT r).2; omega) h0 (by omega)
    simp at hp
    exact hp
  unfold dig
  rw [if_neg (by omega), h, if_neg (by omega)]
theorem hor_low (base : Int) (hb : 2 ≤ base ∧ base ≤ 36) : ∀ (f : Nat) (m : Int), 0 ≤ m → m < 2 ^ (f + 1) → hor base (lowD base (f + 1) m).reverse = m
  | 0, m, h0, h1 => by
    have hm : m < 2 := by simpa using h1
    have hq : m / base = 0 := Int.ediv_eq_zero_of_lt h0 (by omega)
    have hr := Int.emod_eq_of_lt h0 (show m < base by omega)
    rw [lowD_step, if_pos hq, List.reverse_singleton, ← List.nil_append [_], hor_snoc, dig_low base (m % base) hb (by omega) (by omega), hr]
    simp [hor]
  | f + 1, m, h0, h1 => by
    have hr0 : 0 ≤ m % base := Int.emod_nonneg _ (by omega)
    have hr1 : m % base < base := Int.emod_lt_of_pos _ (by omega)
    have hdm : m / base * base + m % base = m := Int.ediv_mul_add_emod m base
    rw [lowD_step, List.reverse_cons, hor_snoc, dig_low base (m % base) hb hr0 hr1]
    have hq0 : 0 ≤ m / base := Int.ediv_nonneg h0 (by omega)
    split
    · rename_i hq
      rw [hq] at hdm
      simp [hor]
      omega
    · have h7 : m / base * 2 ≤ m / base * base := Int.mul_le_mul_of_nonneg_left hb.1 hq0
      have hp : (2 : Int) ^ (f + 1 + 1) = 2 ^ (f + 1) * 2 := Int.pow_succ ..
      rw [hor_low base hb f (m / base) hq0 (by omega), hdm]
theorem low_mem (base : Int) (hb : 2 ≤ base ∧ base ≤ 36) : ∀ (f : Nat) (m x : Int), 0 ≤ m → x ∈ lowD base f m → (0 ≤ x ∧ x ≤ 255) ∧ 0 ≤ dig x base
  | 0, m, x, _, h => by simp [lowD] at h
  | f + 1, m, x, h0, h => by
    have hr0 : 0 ≤ m % base := Int.emod_nonneg _ (by omega)
    have hr1 : m % base < base := Int.emod_lt_of_pos _ (by omega)
    rw [lowD_step] at h
    rcases List.mem_cons.1 h with rfl | h
    · exact ⟨bt_range _ _, by rw [dig_low base _ hb hr0 hr1]; exact hr0⟩
    · split at h
      · simp at h
      · exact low_mem base hb f (m / base) x (Int.ediv_nonneg h0 (by omega)) h
theorem dig_zero (base : Int) (hb : 2 ≤ base ∧ base ≤ 36) : dig 48 base = 0 := by
  unfold dig
  rw [if_neg (by omega), show d36 48 = 0 from by decide, if_neg (by omega)]
theorem hor_zeros (base : Int) (hb : 2 ≤ base ∧ base ≤ 36) (xs : List Int) : ∀ k, hor base (List.replicate k 48 ++ xs) = hor base xs
  | 0 => rfl
  | k + 1 => by
    have := hor_zeros base hb xs k
    rw [List.replicate_succ, List.cons_append]
    show List.foldl _ (0 * base + dig 48 base) _ = _
    rw [dig_zero base hb, Int.zero_mul]
    exact this
theorem num_back (n base : Int) (k : Nat) (hn : U64 n) (hb : 2 ≤ base ∧ base ≤ 36) : Num (strOfNums (List.replicate k 48) ++ strOfNums (lowD base 64 n).reverse) base n 0 0 := by
  rw [strOfNums_append]
  have hm := low_mem base hb 64 n
  refine num_of hb (fun x hx => ?_) (fun x hx => ?_) ?_ ?_ hn.2
  · rcases List.mem_append.1 hx with h | h
    · rw [List.eq_of_mem_replicate h]; omega
    · exact (hm x hn.1 (List.mem_reverse.1 h)).1
  · rcases List.mem_append.1 hx with h | h
    · rw [List.eq_of_mem_replicate h, dig_zero base hb]; omega
    · exact (hm x hn.1 (List.mem_reverse.1 h)).2
  · rw [lowD_step]; simp
  · rw [hor_zeros base hb, hor_low base hb 63 n hn.1 hn.2]
theorem d36_upp (c : Int) (h0 : 0 ≤ c) (h1 : c ≤ 255) : d36 (uppb c) = d36 c := each256 (p := fun c => d36 (uppb c)) (q := d36) (by kernel_rfl) c h0 (by omega)
theorem uppb_range (c : Int) (h0 : 0 ≤ c) (h1 : c ≤ 255) : 0 ≤ uppb c ∧ uppb c ≤ 255 := by
  have := each256 (p := fun c => decide (0 ≤ uppb c ∧ uppb c ≤ 255)) (q := fun _ => true) (by kernel_rfl) c h0 (by omega)
  simpa using this
theorem dig_upp (c base : Int) (h0 : 0 ≤ c) (h1 : c ≤ 255) : dig (uppb c) base = dig c base := by unfold dig; rw [d36_upp c h0 h1]
theorem hor_upp (base : Int) (xs : List Int) (hr : ∀ x ∈ xs, 0 ≤ x ∧ x ≤ 255) : ∀ a, (xs.map uppb).foldl (fun a c => a * base + dig c base) a = xs.foldl (fun a c => a * base + dig c base) a := by
  induction xs with
  | nil => intro a; rfl
  | cons x r ih =>
    intro a
    have hx := hr x (List.mem_cons_self ..)
    simp only [List.map_cons, List.foldl_cons]
    rw [dig_upp x base hx.1 hx.2, ih (fun y hy => hr y (List.mem_cons_of_mem _ hy))]
theorem num_upper (n base : Int) (hn : U64 n) (hb : 2 ≤ base ∧ base ≤ 36) : Num (uppS (strOfNums (lowD base 64 n).reverse)) base n 0 0 := by
  have hm := low_mem base hb 64 n
  have hr : ∀ x ∈ (lowD base 64 n).reverse, 0 ≤ x ∧ x ≤ 255 := fun x hx => (hm x hn.1 (List.mem_reverse.1 hx)).1
  unfold uppS
  rw [bytesOf_strOfNums _ hr]
  refine num_of hb (fun x hx => ?_) (fun x hx => ?_) ?_ ?_ hn.2
  · obtain ⟨y, hy, rfl⟩ := List.mem_map.1 hx
    exact uppb_range y (hr y hy).1 (hr y hy).2
  · obtain ⟨y, hy, rfl⟩ := List.mem_map.1 hx
    rw [dig_upp y base (hr y hy).1 (hr y hy).2]
    exact (hm y hn.1 (List.mem_reverse.1 hy)).2
  · rw [lowD_step]; simp
  · exact (hor_upp base _ hr 0).trans (hor_low base hb 63 n hn.1 hn.2)
end Go.Proofs.Ytjiapggmiddpdaa
