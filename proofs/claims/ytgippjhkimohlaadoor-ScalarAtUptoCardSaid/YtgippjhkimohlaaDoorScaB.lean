/- Scalar: a whole sequence, decoded by Go's library, says what the document's sums say. Plain. -/
import Derived.Test.YtgippjhkimohlaaDoorScaA
import Derived.Test.YtgippjhkimohlaaDoorBaE
import Derived.Shelf.Unicode.DecodeSlow
import Derived.Lib.DecodeN
set_option linter.unusedVariables false
set_option linter.unusedSimpArgs false
namespace Go.Proofs.YtgippjhkimohlaaDoor
open Go.RowKit Go.Proofs.YtgippjhkimohlaaDoorW.PrintWords Go.Proofs.YtgippjhkimohlaaDoorW.PrintLast
theorem get_bt (s : ByteArray) (i : Nat) (h : i < s.size) : (((s.get! i).toNat : Nat) : Int) = bt s i := by
  unfold bt
  rw [dif_pos (by simpa using h)]
  simp only [Int.toNat_natCast]
  rw [Utf8W.get!_of_lt s i h]
theorem bgN_two {c : Int} (h : bgN c = 2) : 194 ≤ c ∧ c ≤ 223 := by
  unfold bgN at h
  repeat' split at h
  all_goals omega
theorem bgN_three {c : Int} (h : bgN c = 3) : 224 ≤ c ∧ c ≤ 239 := by
  unfold bgN at h
  repeat' split at h
  all_goals omega
theorem bgN_four {c : Int} (h : bgN c = 4) : 240 ≤ c ∧ c ≤ 244 := by
  unfold bgN at h
  repeat' split at h
  all_goals omega
theorem bgN_one {c : Int} (h : bgN c = 1) : c ≤ 127 := by
  unfold bgN at h
  repeat' split at h
  all_goals omega
theorem bgN_ge {c : Int} (h : 2 ≤ bgN c) : 194 ≤ c ∧ c ≤ 244 := by
  unfold bgN at h
  repeat' split at h
  all_goals omega
theorem second_is {t : ByteArray} (h : okB t 1) (h2 : 2 ≤ bgN (bt t 0)) : 128 ≤ bt t 1 ∧ bt t 1 ≤ 191 ∧ (bt t 0 = 224 → 160 ≤ bt t 1) ∧ (bt t 0 = 237 → bt t 1 ≤ 159) ∧ (bt t 0 = 240 → 144 ≤ bt t 1) ∧ (bt t 0 = 244 → bt t 1 ≤ 143) := by
  have hc := bgN_ge h2
  rcases h with h | h
  · obtain ⟨-, h1, h2⟩ := h
    generalize bt t 0 = c at *
    generalize bt t 1 = b at *
    unfold bgLo at h1
    unfold bgHi at h2
    repeat' split at h1
    all_goals repeat' split at h2
    all_goals omega
  · exact absurd rfl h.1
theorem third_is {t : ByteArray} {i : Int} (h : okB t i) (hi : 1 < i) : 128 ≤ bt t i ∧ bt t i ≤ 191 := by
  rcases h with h | h
  · omega
  · exact h.2
/-- where the first piece is whole: its bytes, and that it is a scalar value of that width -/
structure WholeIs (t : ByteArray) (n : Int) : Prop where
  size : n ≤ t.size
  kind : (n = 1 ∧ bt t 0 ≤ 127) ∨
    (n = 2 ∧ 194 ≤ bt t 0 ∧ bt t 0 ≤ 223 ∧ 128 ≤ bt t 1 ∧ bt t 1 ≤ 191) ∨
    (n = 3 ∧ 224 ≤ bt t 0 ∧ bt t 0 ≤ 239 ∧ 128 ≤ bt t 1 ∧ bt t 1 ≤ 191 ∧ (bt t 0 = 224 → 160 ≤ bt t 1) ∧ (bt t 0 = 237 → bt t 1 ≤ 159) ∧ 128 ≤ bt t 2 ∧ bt t 2 ≤ 191) ∨
    (n = 4 ∧ 240 ≤ bt t 0 ∧ bt t 0 ≤ 244 ∧ 128 ≤ bt t 1 ∧ bt t 1 ≤ 191 ∧ (bt t 0 = 240 → 144 ≤ bt t 1) ∧ (bt t 0 = 244 → bt t 1 ≤ 143) ∧ 128 ≤ bt t 2 ∧ bt t 2 ≤ 191 ∧ 128 ≤ bt t 3 ∧ bt t 3 ≤ 191)
theorem whole_is {t : ByteArray} (ht : 0 < t.size) (h : runT t = bgN (bt t 0)) : WholeIs t (runT t) := by
  have hr := runT_is t ht
  refine ⟨hr.size, ?_⟩
  have h1 := hr.one
  have hg := bgN_range (bt t 0)
  have hb := bt_range t 0
  rw [h] at hr h1 ⊢
  rcases (show bgN (bt t 0) = 1 ∨ bgN (bt t 0) = 2 ∨ bgN (bt t 0) = 3 ∨ bgN (bt t 0) = 4 by omega) with g | g | g | g
  · exact Or.inl ⟨g, bgN_one g⟩
  · have := bgN_two g
    have := second_is (hr.ok 1 (by omega) (by omega)) (by omega)
    exact Or.inr (Or.inl (by omega))
  · have := bgN_three g
    have := second_is (hr.ok 1 (by omega) (by omega)) (by omega)
    have := third_is (hr.ok 2 (by omega) (by omega)) (by omega)
    exact Or.inr (Or.inr (Or.inl ⟨g, by omega⟩))
  · have := bgN_four g
    have := second_is (hr.ok 1 (by omega) (by omega)) (by omega)
    have := third_is (hr.ok 2 (by omega) (by omega)) (by omega)
    have := third_is (hr.ok 3 (by omega) (by omega)) (by omega)
    exact Or.inr (Or.inr (Or.inr ⟨g, by omega⟩))
/-- what Go's library decodes of a whole sequence of more than one byte -/
theorem decode_whole (t : ByteArray) (ht : 0 < t.size) (h : runT t = bgN (bt t 0)) (h2 : 2 ≤ runT t) : ((Lib.decodeGo (t.extract 0 (runT t).toNat)).1 : Int) = valT t (runT t) := by
  have hw := whole_is ht h
  generalize runT t = n at *
  obtain ⟨hs, hk⟩ := hw
  have hz := size_ext t 0 n.toNat (by omega)
  obtain ⟨u, hu⟩ : ∃ u, t.extract 0 n.toNat = u := ⟨_, rfl⟩
  have hb : ∀ i : Nat, (i : Int) < n → (((u.get! i).toNat : Nat) : Int) = bt t i := fun i hi => by
    rw [get_bt u i (by rw [← hu]; omega), ← hu, bt_ext t 0 n.toNat (by omega) _ (by omega), if_pos (by omega)]
    congr 1
    omega
  rw [hu] at hz ⊢
  have e : Lib.decodeGo u = Lib.decodeN u.size (u.get! 0).toNat (u.get! 1).toNat (u.get! 2).toNat (u.get! 3).toNat := by
    unfold Lib.decodeGo
    rw [if_neg (by omega), Lib.decode_at]
    simp
  rw [e, hz]
  have b0 : (((u.get! 0).toNat : Nat) : Int) = bt t 0 := hb 0 (by omega)
  have b1 : (((u.get! 1).toNat : Nat) : Int) = bt t 1 := hb 1 (by omega)
  clear e hz
  have valE : valT t n = if n = 2 then 64 * (bt t 0 - 192) + bt t 1 - 128 else if n = 3 then 64 * (64 * (bt t 0 - 224) + bt t 1 - 128) + bt t 2 - 128 else 64 * (64 * (64 * (bt t 0 - 240) + bt t 1 - 128) + bt t 2 - 128) + bt t 3 - 128 := by
    unfold valT lead
    repeat' split
    all_goals omega
  rw [valE]
  rcases hk with hk | hk | hk | hk
  · omega
  · obtain ⟨rfl, hk⟩ := hk
    generalize (u.get! 0).toNat = c0 at *
    generalize (u.get! 1).toNat = c1 at *
    unfold Lib.decodeN
    rw [if_neg (by omega), if_pos (by omega), if_pos (by omega), if_pos rfl]
    simp only
    omega
  · obtain ⟨rfl, hk⟩ := hk
    have b2 : (((u.get! 2).toNat : Nat) : Int) = bt t 2 := hb 2 (by omega)
    generalize (u.get! 0).toNat = c0 at *
    generalize (u.get! 1).toNat = c1 at *
    generalize (u.get! 2).toNat = c2 at *
    unfold Lib.decodeN
    rw [if_neg (by omega), if_neg (by omega), if_pos (by omega), if_pos (by omega), if_neg (by omega), if_pos rfl]
    simp only
    omega
  · obtain ⟨rfl, hk⟩ := hk
    have b2 : (((u.get! 2).toNat : Nat) : Int) = bt t 2 := hb 2 (by omega)
    have b3 : (((u.get! 3).toNat : Nat) : Int) = bt t 3 := hb 3 (by omega)
    generalize (u.get! 0).toNat = c0 at *
    generalize (u.get! 1).toNat = c1 at *
    generalize (u.get! 2).toNat = c2 at *
    generalize (u.get! 3).toNat = c3 at *
    unfold Lib.decodeN
    rw [if_neg (by omega), if_neg (by omega), if_neg (by omega), if_pos (by omega), if_pos (by omega), if_neg (by omega), if_neg (by omega)]
    simp only
    omega
end Go.Proofs.YtgippjhkimohlaaDoor
