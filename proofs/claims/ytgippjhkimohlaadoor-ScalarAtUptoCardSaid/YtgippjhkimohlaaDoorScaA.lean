/- Scalar: what a text says, in plain Lean: the first piece of a text, and all of them. -/
import Derived.Test.YtgippjhkimohlaaDoorBase2
set_option linter.unusedVariables false
set_option linter.unusedSimpArgs false
namespace Go.Proofs.YtgippjhkimohlaaDoor
open Go.RowKit Go.Proofs.YtgippjhkimohlaaDoorW.PrintWords Go.Proofs.YtgippjhkimohlaaDoorW.PrintLast
/-- how many bytes a sequence with that first byte has; what may stand second -/
def bgN (c : Int) : Int := if c < 128 then 1 else if c < 194 then 0 else if c < 224 then 2 else if c < 240 then 3 else if c < 245 then 4 else 0
def bgLo (c : Int) : Int := if c < 194 then 0 else if c = 224 then 160 else if c = 240 then 144 else if c < 245 then 128 else 0
def bgHi (c : Int) : Int := if c < 194 then 0 else if c = 237 then 159 else if c = 244 then 143 else if c < 245 then 191 else 0
theorem bgN_range (c : Int) : 0 ≤ bgN c ∧ bgN c ≤ 4 := by
  unfold bgN
  repeat' split
  all_goals omega
/-- may the byte at i, behind the first, stand there? -/
def okB (t : ByteArray) (i : Int) : Prop := (i = 1 ∧ bgLo (bt t 0) ≤ bt t 1 ∧ bt t 1 ≤ bgHi (bt t 0)) ∨ (i ≠ 1 ∧ 128 ≤ bt t i ∧ bt t i ≤ 191)
instance (t : ByteArray) (i : Int) : Decidable (okB t i) := by unfold okB; infer_instance
/-- n is how many bytes of the longest beginning of a sequence stand at the front -/
structure RunIs (t : ByteArray) (n : Int) : Prop where
  one : 1 ≤ n
  ok : ∀ i, 1 ≤ i → i < n → okB t i
  size : n ≤ t.size
  most : n ≤ 1 ∨ n ≤ bgN (bt t 0)
  stop : bgN (bt t 0) ≤ n ∨ n = t.size ∨ ¬ okB t n
theorem RunIs.le {t : ByteArray} {n m : Int} (h : RunIs t n) (k : RunIs t m) : m ≤ n := by
  refine Int.not_lt.1 fun hlt => ?_
  have h1 := h.one; have h2 := k.size; have h3 := k.most
  rcases h.stop with g | g | g
  · omega
  · omega
  · exact g (k.ok n h1 hlt)
theorem RunIs.uniq {t : ByteArray} {n m : Int} (h : RunIs t n) (k : RunIs t m) : n = m := by
  have := h.le k; have := k.le h; omega
def runT (t : ByteArray) : Int :=
  if bgN (bt t 0) < 2 then 1 else if (t.size : Int) < 2 ∨ ¬ okB t 1 then 1
  else if bgN (bt t 0) < 3 then 2 else if (t.size : Int) < 3 ∨ ¬ okB t 2 then 2
  else if bgN (bt t 0) < 4 then 3 else if (t.size : Int) < 4 ∨ ¬ okB t 3 then 3 else 4
theorem runT_is (t : ByteArray) (h : 0 < t.size) : RunIs t (runT t) := by
  have hr := bgN_range (bt t 0)
  unfold runT
  by_cases c1 : bgN (bt t 0) < 2
  · rw [if_pos c1]; exact ⟨by omega, fun i _ _ => by omega, by omega, Or.inl (by omega), by omega⟩
  rw [if_neg c1]
  by_cases c2 : (t.size : Int) < 2 ∨ ¬ okB t 1
  · rw [if_pos c2]; exact ⟨by omega, fun i _ _ => by omega, by omega, Or.inl (by omega), by rcases c2 with g | g; exact Or.inr (Or.inl (by omega)); exact Or.inr (Or.inr g)⟩
  rw [if_neg c2]
  have d2 := not_or.1 c2
  have o1 := Decidable.not_not.1 d2.2
  by_cases c3 : bgN (bt t 0) < 3
  · rw [if_pos c3]; exact ⟨by omega, fun i _ _ => by obtain rfl : i = 1 := (by omega); exact o1, by omega, Or.inr (by omega), by omega⟩
  rw [if_neg c3]
  by_cases c4 : (t.size : Int) < 3 ∨ ¬ okB t 2
  · rw [if_pos c4]; exact ⟨by omega, fun i _ _ => by obtain rfl : i = 1 := (by omega); exact o1, by omega, Or.inr (by omega), by rcases c4 with g | g; exact Or.inr (Or.inl (by omega)); exact Or.inr (Or.inr g)⟩
  rw [if_neg c4]
  have d4 := not_or.1 c4
  have o2 := Decidable.not_not.1 d4.2
  have o12 : ∀ i : Int, 1 ≤ i → i < 3 → okB t i := fun i _ _ => by
    rcases (show i = 1 ∨ i = 2 by omega) with rfl | rfl
    · exact o1
    · exact o2
  by_cases c5 : bgN (bt t 0) < 4
  · rw [if_pos c5]; exact ⟨by omega, o12, by omega, Or.inr (by omega), by omega⟩
  rw [if_neg c5]
  by_cases c6 : (t.size : Int) < 4 ∨ ¬ okB t 3
  · rw [if_pos c6]; exact ⟨by omega, o12, by omega, Or.inr (by omega), by rcases c6 with g | g; exact Or.inr (Or.inl (by omega)); exact Or.inr (Or.inr g)⟩
  rw [if_neg c6]
  have d6 := not_or.1 c6
  have o3 := Decidable.not_not.1 d6.2
  exact ⟨by omega, fun i _ _ => by
    rcases (show i < 3 ∨ i = 3 by omega) with g | rfl
    · exact o12 i (by omega) g
    · exact o3, by omega, Or.inr (by omega), by omega⟩
theorem RunIs.eq {t : ByteArray} {n : Int} (h : RunIs t n) (ht : 0 < t.size) : n = runT t := h.uniq (runT_is t ht)

/-- what a first byte gives to what a sequence says -/
def lead (c : Int) : Int := if c < 128 then c else if c < 224 then c - 192 else if c < 240 then c - 224 else c - 240
/-- what a whole sequence of n bytes says -/
def valT (t : ByteArray) (n : Int) : Int :=
  if n = 1 then lead (bt t 0) else if n = 2 then 64 * lead (bt t 0) + bt t 1 - 128
  else if n = 3 then 64 * (64 * lead (bt t 0) + bt t 1 - 128) + bt t 2 - 128
  else 64 * (64 * (64 * lead (bt t 0) + bt t 1 - 128) + bt t 2 - 128) + bt t 3 - 128
/-- a piece: how many bytes, what it says, whether it is wrong -/
structure Pc where
  size : Int
  rune : Int
  bad : Bool
def fstT (t : ByteArray) : Pc := if runT t = bgN (bt t 0) then ⟨runT t, valT t (runT t), false⟩ else ⟨runT t, 65533, true⟩
theorem fstT_size (t : ByteArray) : (fstT t).size = runT t := by
  unfold fstT
  split <;> rfl
/-- could more bytes make the first piece whole? -/
def opnT (t : ByteArray) : Bool := decide (runT t < bgN (bt t 0) ∧ runT t = t.size)
/-- what is left of a text from a place on -/
def tail (s : ByteArray) (a : Int) : ByteArray := s.extract a.toNat s.size
theorem tail_size (s : ByteArray) (a : Int) (h0 : 0 ≤ a) (h : a ≤ s.size) : ((tail s a).size : Int) = s.size - a := by
  unfold tail
  rw [ByteArray.size_extract]
  omega
/-- the pieces from a place on -/
def pcsF (s : ByteArray) : Nat → Int → List (Int × Pc)
  | 0, _ => []
  | k + 1, a => if a < s.size then (a, fstT (tail s a)) :: pcsF s k (a + (fstT (tail s a)).size) else []
theorem fst_step (s : ByteArray) (a : Int) (h0 : 0 ≤ a) (h : a < s.size) : 1 ≤ (fstT (tail s a)).size ∧ a + (fstT (tail s a)).size ≤ s.size := by
  have hz := tail_size s a h0 (by omega)
  have hr := runT_is (tail s a) (by omega)
  rw [fstT_size]
  exact ⟨hr.one, by have := hr.size; omega⟩
theorem pcsF_fuel (s : ByteArray) : ∀ (k j : Nat) (a : Int), 0 ≤ a → (s.size : Int) - a ≤ k → (s.size : Int) - a ≤ j → pcsF s k a = pcsF s j a := by
  intro k
  induction k with
  | zero =>
    intro j a h0 hk hj
    cases j with
    | zero => rfl
    | succ j => simp only [pcsF]; rw [if_neg (by omega)]
  | succ k ih =>
    intro j a h0 hk hj
    cases j with
    | zero => simp only [pcsF]; rw [if_neg (by omega)]
    | succ j =>
      simp only [pcsF]
      by_cases h : a < s.size
      · have := fst_step s a h0 h
        rw [if_pos h, if_pos h, ih j _ (by omega) (by omega) (by omega)]
      · rw [if_neg h, if_neg h]
def pcs (s : ByteArray) (a : Int) : List (Int × Pc) := pcsF s s.size a
theorem pcs_go (s : ByteArray) (a : Int) (h0 : 0 ≤ a) (h : a < s.size) : pcs s a = (a, fstT (tail s a)) :: pcs s (a + (fstT (tail s a)).size) := by
  have hs := fst_step s a h0 h
  unfold pcs
  obtain ⟨k, hk⟩ : ∃ k, s.size = k + 1 := ⟨s.size - 1, by omega⟩
  conv => lhs; rw [hk]
  simp only [pcsF]
  rw [if_pos h, pcsF_fuel s k s.size _ (by omega) (by omega) (by omega)]
theorem pcs_end (s : ByteArray) (a : Int) (h : (s.size : Int) ≤ a) : pcs s a = [] := by
  unfold pcs
  cases hk : s.size with
  | zero => rfl
  | succ k => simp only [pcsF]; rw [if_neg (by omega)]
theorem pcs_len (s : ByteArray) (n : Nat) : ∀ a : Int, 0 ≤ a → (s.size : Int) - a = n → (pcs s a).length ≤ n := by
  induction n using Nat.strongRecOn with
  | ind n ih =>
    intro a h0 hn
    by_cases h : a < s.size
    · have hs := fst_step s a h0 h
      rw [pcs_go s a h0 h, List.length_cons]
      have := ih ((s.size : Int) - (a + (fstT (tail s a)).size)).toNat (by omega) (a + (fstT (tail s a)).size) (by omega) (by omega)
      omega
    · rw [pcs_end s a (by omega)]; simp
/-- what all pieces say -/
def decT (s : ByteArray) : List Int := (pcs s 0).map (·.2.rune)
/-- where the first wrong piece begins; -1: none is wrong -/
def wrgT : List (Int × Pc) → Int
  | [] => -1
  | p :: l => if p.2.bad then p.1 else wrgT l
end Go.Proofs.YtgippjhkimohlaaDoor
