/- Scalar: what the printed functions come to: Encode and FromUnits of both, Width of both. Plain. -/
import Derived.Test.YtgippjhkimohlaaDoorPuA
import Derived.Test.YtgippjhkimohlaaDoorQScax1
import Derived.Test.YtgippjhkimohlaaDoorQScax5
import Derived.Test.YtgippjhkimohlaaDoorQScax2
set_option linter.unusedVariables false
set_option linter.unusedSimpArgs false
namespace Go.Proofs.YtgippjhkimohlaaDoor
open Go.RowKit Go.Proofs.YtgippjhkimohlaaDoorW.PrintWords Go.Proofs.YtgippjhkimohlaaDoorW.PrintMore Go.Proofs.YtgippjhkimohlaaDoorQ.Sca
theorem RWidth_is (r : Int) : posternref02_Width.f r = some (wid r) := by
  unfold posternref02_Width.f wid
  rw [RScalar_is]
  simp only [Option.bind_some]
  repeat' split
  all_goals rfl
theorem Width_is (r : Int) (k : Nat) (hk : 0 < k) : scalar_Width.f k r = some (wid r) := by
  obtain ⟨k, rfl⟩ : ∃ m, k = m + 1 := ⟨k - 1, by omega⟩
  unfold scalar_Width.f utf8_RuneLen.f wid
  by_cases h0 : r < 0
  · rw [if_pos h0, scal_is (b := false) (by simp; omega)]; rfl
  rw [if_neg h0]
  by_cases h1 : r ≤ 127
  · rw [if_pos h1, scal_is (b := true) (by simp; omega), if_pos rfl, if_pos (by omega)]; rfl
  rw [if_neg h1]
  by_cases h2 : r ≤ 2047
  · rw [if_pos h2, scal_is (b := true) (by simp; omega), if_pos rfl, if_neg (by omega), if_pos (by omega)]; rfl
  rw [if_neg h2]
  by_cases h3 : 55296 ≤ r
  · rw [if_pos h3]
    by_cases h4 : r ≤ 57343
    · rw [scal_is (b := false) (by simp; omega)]
      simp only [decide_eq_true h4, utf8_RuneLen.j0, if_true, Option.bind_some]
      rfl
    · simp only [decide_eq_false h4, utf8_RuneLen.j0, Bool.false_eq_true, if_false]
      by_cases h5 : r ≤ 65535
      · rw [if_pos h5, scal_is (b := true) (by simp; omega), if_pos rfl, if_neg (by omega), if_neg (by omega), if_pos (by omega)]; rfl
      · rw [if_neg h5]
        by_cases h6 : r ≤ 1114111
        · rw [if_pos h6, scal_is (b := true) (by simp; omega), if_pos rfl, if_neg (by omega), if_neg (by omega), if_neg (by omega)]; rfl
        · rw [if_neg h6, scal_is (b := false) (by simp; omega)]; rfl
  · rw [if_neg h3, scal_is (b := true) (by simp; omega), if_pos rfl, if_neg (by omega), if_neg (by omega), if_pos (by omega)]
    simp only [utf8_RuneLen.j0, Bool.false_eq_true, if_false]
    rw [if_pos (by omega)]
    rfl
/-- what Encode tells, by the place of the first number that is no scalar value -/
def encA (l : List Int) (m : Nat) : ByteArray × Int × Int := if m = l.length then (encS l, 0, 0) else (⟨#[]⟩, (m : Int), 20)
theorem encL_take_len (l : List Int) (i : Nat) : (encL (l.take i)).length ≤ 4 * i := by
  have := encL_len (l.take i)
  have := List.length_take_le i l
  omega
theorem REncode_l0 (l : List Int) (m : Nat) (hm : StopAt l m) (hl : l.length ≤ 9000000000000) : ∀ (n k i : Nat), m - i = n → i ≤ m → n + 2 < k → posternref02_Encode.l0 k (encL (l.take i)) l (l.length : Int) (i : Int) = some (encA l m) := by
  intro n
  have hle := hm.le
  induction n with
  | zero =>
    intro k i h1 h2 hk
    obtain ⟨k, rfl⟩ : ∃ m, k = m + 1 := ⟨k - 1, by omega⟩
    obtain rfl : i = m := by omega
    simp only [posternref02_Encode.l0]
    unfold encA
    by_cases he : i = l.length
    · rw [if_neg (by omega), if_pos he, he, List.take_length]; rfl
    · have hs := hm.stop (by omega)
      have hw : wid (rd l i) = 0 := by unfold wid; rw [hs]; rfl
      rw [if_pos (by omega), if_pos (by omega), if_pos (by omega), RWidth_is _, hw, if_neg he]
      rfl
  | succ n ih =>
    intro k i h1 h2 hk
    obtain ⟨k, rfl⟩ : ∃ m, k = m + 1 := ⟨k - 1, by omega⟩
    have hs := hm.at_ i (by omega)
    have ht := take_rd l i (by omega)
    have hlen := encL_take_len l i
    have ih := ih k (i + 1) (by omega) (by omega) (by omega)
    rw [ht, encL_app, encL_one] at ih
    simp only [posternref02_Encode.l0]
    rw [if_pos (by omega), if_pos (by omega), if_pos (by omega), RWidth_is]
    have hr := (scal_iff _).1 hs
    have hw : wid (rd l i) = (if rd l i < 128 then 1 else if rd l i < 2048 then 2 else if rd l i < 65536 then 3 else 4) := by unfold wid; rw [hs]; rfl
    rw [hw]
    generalize rd l (i : Int) = r at *
    clear hw
    simp only [Option.bind_some]
    rw [show wrap64 ((i : Int) + 1) = ((i + 1 : Nat) : Int) by unfold wrap64; omega]
    unfold encB at ih
    by_cases c1 : r < 128
    · rw [if_pos c1] at ih
      simp only [if_pos c1]
      rw [if_neg (by decide), if_pos trivial, if_pos (by omega), show r % 256 = r by omega]
      exact ih
    · rw [if_neg c1] at ih
      simp only [if_neg c1]
      rw [Int.tdiv_eq_ediv_of_nonneg (by omega), Int.tdiv_eq_ediv_of_nonneg (by omega), Int.tdiv_eq_ediv_of_nonneg (by omega), Int.tmod_eq_emod_of_nonneg (by omega), show wrap32 (r / 64) = r / 64 by unfold wrap32; omega, show wrap32 (r / 4096) = r / 4096 by unfold wrap32; omega, show wrap32 (r / 262144) = r / 262144 by unfold wrap32; omega, Int.tmod_eq_emod_of_nonneg (by omega), Int.tmod_eq_emod_of_nonneg (by omega)]
      by_cases c2 : r < 2048
      · rw [if_pos c2] at ih
        simp only [if_pos c2]
        rw [if_neg (by decide), if_neg (by decide), if_pos trivial, if_pos (by simp only [List.length_cons, List.length_nil]; omega), show wrap32 (192 + r / 64) % 256 = 192 + r / 64 by unfold wrap32; omega, show wrap32 (128 + r % 64) % 256 = 128 + r % 64 by unfold wrap32; omega]
        exact ih
      · rw [if_neg c2] at ih
        simp only [if_neg c2]
        by_cases c3 : r < 65536
        · rw [if_pos c3] at ih
          simp only [if_pos c3]
          rw [if_neg (by decide), if_neg (by decide), if_neg (by decide), if_pos trivial, if_pos (by simp only [List.length_cons, List.length_nil]; omega), show wrap32 (224 + r / 4096) % 256 = 224 + r / 4096 by unfold wrap32; omega, show wrap32 (128 + r / 64 % 64) % 256 = 128 + r / 64 % 64 by unfold wrap32; omega, show wrap32 (128 + r % 64) % 256 = 128 + r % 64 by unfold wrap32; omega]
          exact ih
        · rw [if_neg c3] at ih
          simp only [if_neg c3]
          rw [if_neg (by decide), if_neg (by decide), if_neg (by decide), if_neg (by decide), if_pos (by simp only [List.length_cons, List.length_nil]; omega), show wrap32 (240 + r / 262144) % 256 = 240 + r / 262144 by unfold wrap32; omega, show wrap32 (128 + r / 4096 % 64) % 256 = 128 + r / 4096 % 64 by unfold wrap32; omega, show wrap32 (128 + r / 64 % 64) % 256 = 128 + r / 64 % 64 by unfold wrap32; omega, show wrap32 (128 + r % 64) % 256 = 128 + r % 64 by unfold wrap32; omega]
          exact ih
theorem REncode_is (l : List Int) (m : Nat) (hm : StopAt l m) (hl : l.length ≤ 9000000000000) (k : Nat) (hk : l.length + 2 < k) : posternref02_Encode.f k l = some (encA l m) := by
  unfold posternref02_Encode.f
  exact REncode_l0 l m hm hl m k 0 (by omega) (by omega) (by have := hm.le; omega)
theorem Encode_is (l : List Int) (m : Nat) (hm : StopAt l m) (hl : l.length ≤ 1000000000000) : scalar_Encode.f l = some (encA l m) := by
  unfold scalar_Encode.f encA
  rw [if_pos (by omega)]
  by_cases h : l.all scal = true
  · rw [if_pos h, if_pos (hm.all.1 h)]
  · have hne : ¬ m = l.length := fun e => h (hm.all.2 e)
    have hs := stop_ix l
    have e : l.findIdx (fun r => !scal r) = m := by
      have h1 := hm.le
      have h2 := hs.le
      rcases Nat.lt_trichotomy (l.findIdx (fun r => !scal r)) m with hlt | he | hlt
      · have a1 := hm.at_ _ hlt
        have a2 := hs.stop (by omega)
        rw [a1] at a2
        cases a2
      · exact he
      · have a1 := hs.at_ _ hlt
        have a2 := hm.stop (by omega)
        rw [a1] at a2
        cases a2
    rw [if_neg h, if_neg hne, e]
/-! ### FromUnits -/
theorem rd_range {l : List Int} {b : Int} (h : ∀ x ∈ l, 0 ≤ x ∧ x ≤ b) (hb : 0 ≤ b) (i : Int) : 0 ≤ rd l i ∧ rd l i ≤ b := by
  unfold rd
  rw [List.getD_eq_getElem?_getD]
  cases e : l[i.toNat]? with
  | none => exact ⟨Int.le_refl 0, hb⟩
  | some x => exact h x (List.mem_of_getElem? e)
theorem frm_drop_len (l : List Int) (i : Nat) : (frmU (l.drop i)).length ≤ l.length - i := by
  have := frmU_len (l.drop i).length (l.drop i) (Nat.le_refl _)
  rw [List.length_drop] at this
  exact this
theorem FromUnits_l0 (l : List Int) (hr : ∀ x ∈ l, 0 ≤ x ∧ x ≤ 65535) (hl : l.length ≤ 9000000000000) : ∀ (n k i : Nat) (acc : List Int), l.length - i = n → i ≤ l.length → acc.length ≤ i → 2 * n < k → scalar_FromUnits.l0 k l acc (i : Int) = some (acc ++ frmU (l.drop i)) := by
  intro n
  induction n using Nat.strongRecOn with
  | ind n ih =>
    intro k i acc h1 h2 h3 hk
    obtain ⟨k, rfl⟩ : ∃ m, k = m + 1 := ⟨k - 1, by omega⟩
    simp only [scalar_FromUnits.l0]
    by_cases hlt : i < l.length
    · obtain ⟨k, rfl⟩ : ∃ m, k = m + 1 := ⟨k - 1, by omega⟩
      have hx := rd_range hr (by decide) (i : Int)
      have hy := rd_range hr (by decide) ((i : Int) + 1)
      have e1 : wrap32 (rd l i) = rd l i := by unfold wrap32; omega
      have e2 : wrap64 ((i : Int) + 1) = (i : Int) + 1 := by unfold wrap64; omega
      have e2' : ((i : Int) + 1) = ((i + 1 : Nat) : Int) := by omega
      have e3 : wrap32 (rd l ((i : Int) + 1)) = rd l ((i : Int) + 1) := by unfold wrap32; omega
      have step : ∀ x, scalar_FromUnits.l0 k l (acc ++ [x]) ((i : Int) + 1) = some (acc ++ (x :: frmU (l.drop (i + 1)))) := fun x => by
        rw [e2', ih (n - 1) (by omega) k (i + 1) (acc ++ [x]) (by omega) (by omega) (by rw [List.length_append, List.length_singleton]; omega) (by omega)]
        simp
      rw [if_pos (by omega), if_pos (by omega), e1]
      by_cases hp : rd l i < 55296 ∨ 57343 < rd l i
      · have hb : (if rd l i < 55296 then scalar_FromUnits.j1 (k + 1) l acc (i : Int) (rd l i) true else scalar_FromUnits.j1 (k + 1) l acc (i : Int) (rd l i) (decide (rd l i > 57343))) = scalar_FromUnits.j1 (k + 1) l acc (i : Int) (rd l i) true := by
          split
          · rfl
          · rw [decide_eq_true (by omega)]
        rw [hb]
        simp only [scalar_FromUnits.j1, if_true]
        rw [if_pos (by omega), e2, step, frm_plain l i hlt hp]
      · have hb : (if rd l i < 55296 then scalar_FromUnits.j1 (k + 1) l acc (i : Int) (rd l i) true else scalar_FromUnits.j1 (k + 1) l acc (i : Int) (rd l i) (decide (rd l i > 57343))) = scalar_FromUnits.j1 (k + 1) l acc (i : Int) (rd l i) false := by
          rw [if_neg (by omega), decide_eq_false (by omega)]
        rw [hb]
        simp only [scalar_FromUnits.j1, Bool.false_eq_true, if_false, e2, e3]
        by_cases hq : rd l i < 56320
        · rw [if_pos hq]
          by_cases h4 : i + 1 < l.length
          · rw [if_pos (by omega), if_pos (by omega)]
            by_cases h5 : rd l ((i : Int) + 1) ≥ 56320
            · rw [if_pos h5]
              by_cases h6 : rd l ((i : Int) + 1) ≤ 57343
              · rw [if_pos h6, if_pos (by omega), show wrap32 (rd l i - 55296) = rd l i - 55296 by unfold wrap32; omega, show wrap32 ((rd l i - 55296) * 1024) = (rd l i - 55296) * 1024 by unfold wrap32; omega, show wrap32 (65536 + (rd l i - 55296) * 1024) = 65536 + (rd l i - 55296) * 1024 by unfold wrap32; omega, show wrap32 (65536 + (rd l i - 55296) * 1024 + rd l ((i : Int) + 1)) = 65536 + (rd l i - 55296) * 1024 + rd l ((i : Int) + 1) by unfold wrap32; omega, show wrap32 (65536 + (rd l i - 55296) * 1024 + rd l ((i : Int) + 1) - 56320) = 65536 + 1024 * (rd l i - 55296) + rd l ((i : Int) + 1) - 56320 by unfold wrap32; omega, show wrap64 ((i : Int) + 1 + 1) = ((i + 2 : Nat) : Int) by unfold wrap64; omega, ih (n - 2) (by omega) k (i + 2) _ (by omega) (by omega) (by rw [List.length_append, List.length_singleton]; omega) (by omega), frm_pair l i h4 (by omega) (by omega)]
                simp
              · rw [if_neg h6, if_pos (by omega), step, frm_lone l i hlt (by omega) (by omega)]
            · rw [if_neg h5, if_pos (by omega), step, frm_lone l i hlt (by omega) (by omega)]
          · rw [if_neg (by omega), if_pos (by omega), step, frm_lone l i hlt (by omega) (by omega)]
        · rw [if_neg hq, if_pos (by omega), step, frm_lone l i hlt (by omega) (by omega)]
    · obtain rfl : i = l.length := by omega
      rw [if_neg (by omega), List.drop_length]
      simp [frmU]
theorem FromUnits_is (l : List Int) (hr : ∀ x ∈ l, 0 ≤ x ∧ x ≤ 65535) (hl : l.length ≤ 9000000000000) (k : Nat) (hk : 2 * l.length < k) : scalar_FromUnits.f k l = some (frmU l) := by
  unfold scalar_FromUnits.f
  have := FromUnits_l0 l hr hl l.length k 0 [] (by omega) (by omega) (by simp) hk
  simpa using this
theorem RFromUnits_l0 (l : List Int) (hr : ∀ x ∈ l, 0 ≤ x ∧ x ≤ 65535) (hl : l.length ≤ 9000000000000) : ∀ (n k i : Nat) (acc : List Int), l.length - i = n → i ≤ l.length → acc.length ≤ i → 2 * n < k → posternref02_FromUnits.l0 k l acc (i : Int) = some (acc ++ frmU (l.drop i)) := by
  intro n
  induction n using Nat.strongRecOn with
  | ind n ih =>
    intro k i acc h1 h2 h3 hk
    obtain ⟨k, rfl⟩ : ∃ m, k = m + 1 := ⟨k - 1, by omega⟩
    simp only [posternref02_FromUnits.l0]
    by_cases hlt : i < l.length
    · obtain ⟨k, rfl⟩ : ∃ m, k = m + 1 := ⟨k - 1, by omega⟩
      have hx := rd_range hr (by decide) (i : Int)
      have hy := rd_range hr (by decide) ((i : Int) + 1)
      have e1 : wrap32 (rd l i) = rd l i := by unfold wrap32; omega
      have e2 : wrap64 ((i : Int) + 1) = (i : Int) + 1 := by unfold wrap64; omega
      have e2' : ((i : Int) + 1) = ((i + 1 : Nat) : Int) := by omega
      have e3 : wrap32 (rd l ((i : Int) + 1)) = rd l ((i : Int) + 1) := by unfold wrap32; omega
      have step : ∀ x, posternref02_FromUnits.l0 k l (acc ++ [x]) ((i : Int) + 1) = some (acc ++ (x :: frmU (l.drop (i + 1)))) := fun x => by
        rw [e2', ih (n - 1) (by omega) k (i + 1) (acc ++ [x]) (by omega) (by omega) (by rw [List.length_append, List.length_singleton]; omega) (by omega)]
        simp
      rw [if_pos (by omega), if_pos (by omega), e1]
      by_cases hp : rd l i < 55296 ∨ 57343 < rd l i
      · have hb : (if rd l i < 55296 then posternref02_FromUnits.j1 (k + 1) l acc (i : Int) (rd l i) true else posternref02_FromUnits.j1 (k + 1) l acc (i : Int) (rd l i) (decide (rd l i > 57343))) = posternref02_FromUnits.j1 (k + 1) l acc (i : Int) (rd l i) true := by
          split
          · rfl
          · rw [decide_eq_true (by omega)]
        rw [hb]
        simp only [posternref02_FromUnits.j1, if_true]
        rw [if_pos (by omega), e2, step, frm_plain l i hlt hp]
      · have hb : (if rd l i < 55296 then posternref02_FromUnits.j1 (k + 1) l acc (i : Int) (rd l i) true else posternref02_FromUnits.j1 (k + 1) l acc (i : Int) (rd l i) (decide (rd l i > 57343))) = posternref02_FromUnits.j1 (k + 1) l acc (i : Int) (rd l i) false := by
          rw [if_neg (by omega), decide_eq_false (by omega)]
        rw [hb]
        simp only [posternref02_FromUnits.j1, Bool.false_eq_true, if_false, e2, e3]
        by_cases hq : rd l i < 56320
        · rw [if_pos hq]
          by_cases h4 : i + 1 < l.length
          · rw [if_pos (by omega), if_pos (by omega)]
            by_cases h5 : rd l ((i : Int) + 1) ≥ 56320
            · rw [if_pos h5]
              by_cases h6 : rd l ((i : Int) + 1) ≤ 57343
              · rw [if_pos h6, if_pos (by omega), show wrap32 (rd l i - 55296) = rd l i - 55296 by unfold wrap32; omega, show wrap32 (1024 * (rd l i - 55296)) = 1024 * (rd l i - 55296) by unfold wrap32; omega, show wrap32 (65536 + 1024 * (rd l i - 55296)) = 65536 + 1024 * (rd l i - 55296) by unfold wrap32; omega, show wrap32 (65536 + 1024 * (rd l i - 55296) + rd l ((i : Int) + 1)) = 65536 + 1024 * (rd l i - 55296) + rd l ((i : Int) + 1) by unfold wrap32; omega, show wrap32 (65536 + 1024 * (rd l i - 55296) + rd l ((i : Int) + 1) - 56320) = 65536 + 1024 * (rd l i - 55296) + rd l ((i : Int) + 1) - 56320 by unfold wrap32; omega, show wrap64 ((i : Int) + 1 + 1) = ((i + 2 : Nat) : Int) by unfold wrap64; omega, ih (n - 2) (by omega) k (i + 2) _ (by omega) (by omega) (by rw [List.length_append, List.length_singleton]; omega) (by omega), frm_pair l i h4 (by omega) (by omega)]
                simp
              · rw [if_neg h6, if_pos (by omega), step, frm_lone l i hlt (by omega) (by omega)]
            · rw [if_neg h5, if_pos (by omega), step, frm_lone l i hlt (by omega) (by omega)]
          · rw [if_neg (by omega), if_pos (by omega), step, frm_lone l i hlt (by omega) (by omega)]
        · rw [if_neg hq, if_pos (by omega), step, frm_lone l i hlt (by omega) (by omega)]
    · obtain rfl : i = l.length := by omega
      rw [if_neg (by omega), List.drop_length]
      simp [frmU]
theorem RFromUnits_is (l : List Int) (hr : ∀ x ∈ l, 0 ≤ x ∧ x ≤ 65535) (hl : l.length ≤ 9000000000000) (k : Nat) (hk : 2 * l.length < k) : posternref02_FromUnits.f k l = some (frmU l) := by
  unfold posternref02_FromUnits.f
  have := RFromUnits_l0 l hr hl l.length k 0 [] (by omega) (by omega) (by simp) hk
  simpa using this
end Go.Proofs.YtgippjhkimohlaaDoor
