/- Scalar: what a text says, in plain Lean: the first piece of a text, and all of them. Scalar: a whole sequence, decoded by Go's library, says what the document's sums say. Plain. Scalar: scalar values, written and read again. Plain. Scalar: pieces of a beginning, of what is left, of a text that grows. Plain. Scalar: what scalar values are written as is read as just these. Plain. Scalar: units of UTF-16; the first number of a list that is no scalar value. Plain. -/
import Derived.Test.YtfbgmlophkbejaaDoorBas
import Derived.Shelf.Unicode.DecodeSlow
import Derived.Lib.DecodeN
set_option linter.unusedVariables false
set_option linter.unusedSimpArgs false
namespace Go.Proofs.YtfbgmlophkbejaaDoor
open Go.RowKit Go.Proofs.YtfbgmlophkbejaaDoorW.PrintWords Go.Proofs.YtfbgmlophkbejaaDoorW.PrintLast
/-- how many bytes a sequence with that first byte has; what may stand second -/
def bgN (c : Int) : Int := if c < 128 then 1 else if c < 194 then 0 else if c < 224 then 2 else if c < 240 then 3 else if c < 245 then 4 else 0
def bgLo (c : Int) : Int := if c < 194 then 0 else if c = 224 then 160 else if c = 240 then 144 else if c < 245 then 128 else 0
def bgHi (c : Int) : Int := if c < 194 then 0 else if c = 237 then 159 else if c = 244 then 143 else if c < 245 then 191 else 0
theorem bgN_range (c : Int) : 0 ≤ bgN c ∧ bgN c ≤ 4 := by
  unfold bgN
  repeat' split
  all_goals omega
/-- may the byte at i, behind the first, stand there? -/
def okB (t : ByteArray) (i : Int) : Prop := (i = 1 ∧ bgLo (bt t 0) ≤ bt t 1 ∧ bt t 1 ≤ bgHi (bt t 0)) ∨ (i ≠ 1 ∧ 128 ≤ bt t i ∧ bt t i ≤ 191)
instance (t : ByteArray) (i : Int) : Decidable (okB t i) := by unfold okB; infer_instance
/-- n is how many bytes of the longest beginning of a sequence stand at the front -/
structure RunIs (t : ByteArray) (n : Int) : Prop where
  one : 1 ≤ n
  ok : ∀ i, 1 ≤ i → i < n → okB t i
  size : n ≤ t.size
  most : n ≤ 1 ∨ n ≤ bgN (bt t 0)
  stop : bgN (bt t 0) ≤ n ∨ n = t.size ∨ ¬ okB t n
theorem RunIs.le {t : ByteArray} {n m : Int} (h : RunIs t n) (k : RunIs t m) : m ≤ n := by
  refine Int.not_lt.1 fun hlt => ?_
  have h1 := h.one; have h2 := k.size; have h3 := k.most
  rcases h.stop with g | g | g
  · omega
  · omega
  · exact g (k.ok n h1 hlt)
theorem RunIs.uniq {t : ByteArray} {n m : Int} (h : RunIs t n) (k : RunIs t m) : n = m := by
  have := h.le k; have := k.le h; omega
def runT (t : ByteArray) : Int :=
  if bgN (bt t 0) < 2 then 1 else if (t.size : Int) < 2 ∨ ¬ okB t 1 then 1
  else if bgN (bt t 0) < 3 then 2 else if (t.size : Int) < 3 ∨ ¬ okB t 2 then 2
  else if bgN (bt t 0) < 4 then 3 else if (t.size : Int) < 4 ∨ ¬ okB t 3 then 3 else 4
theorem runT_is (t : ByteArray) (h : 0 < t.size) : RunIs t (runT t) := by
  have hr := bgN_range (bt t 0)
  unfold runT
  by_cases c1 : bgN (bt t 0) < 2
  · rw [if_pos c1]; exact ⟨by omega, fun i _ _ => by omega, by omega, Or.inl (by omega), by omega⟩
  rw [if_neg c1]
  by_cases c2 : (t.size : Int) < 2 ∨ ¬ okB t 1
  · rw [if_pos c2]; exact ⟨by omega, fun i _ _ => by omega, by omega, Or.inl (by omega), by rcases c2 with g | g; exact Or.inr (Or.inl (by omega)); exact Or.inr (Or.inr g)⟩
  rw [if_neg c2]
  have d2 := not_or.1 c2
  have o1 := Decidable.not_not.1 d2.2
  by_cases c3 : bgN (bt t 0) < 3
  · rw [if_pos c3]; exact ⟨by omega, fun i _ _ => by obtain rfl : i = 1 := (by omega); exact o1, by omega, Or.inr (by omega), by omega⟩
  rw [if_neg c3]
  by_cases c4 : (t.size : Int) < 3 ∨ ¬ okB t 2
  · rw [if_pos c4]; exact ⟨by omega, fun i _ _ => by obtain rfl : i = 1 := (by omega); exact o1, by omega, Or.inr (by omega), by rcases c4 with g | g; exact Or.inr (Or.inl (by omega)); exact Or.inr (Or.inr g)⟩
  rw [if_neg c4]
  have d4 := not_or.1 c4
  have o2 := Decidable.not_not.1 d4.2
  have o12 : ∀ i : Int, 1 ≤ i → i < 3 → okB t i := fun i _ _ => by
    rcases (show i = 1 ∨ i = 2 by omega) with rfl | rfl
    · exact o1
    · exact o2
  by_cases c5 : bgN (bt t 0) < 4
  · rw [if_pos c5]; exact ⟨by omega, o12, by omega, Or.inr (by omega), by omega⟩
  rw [if_neg c5]
  by_cases c6 : (t.size : Int) < 4 ∨ ¬ okB t 3
  · rw [if_pos c6]; exact ⟨by omega, o12, by omega, Or.inr (by omega), by rcases c6 with g | g; exact Or.inr (Or.inl (by omega)); exact Or.inr (Or.inr g)⟩
  rw [if_neg c6]
  have d6 := not_or.1 c6
  have o3 := Decidable.not_not.1 d6.2
  exact ⟨by omega, fun i _ _ => by
    rcases (show i < 3 ∨ i = 3 by omega) with g | rfl
    · exact o12 i (by omega) g
    · exact o3, by omega, Or.inr (by omega), by omega⟩
theorem RunIs.eq {t : ByteArray} {n : Int} (h : RunIs t n) (ht : 0 < t.size) : n = runT t := h.uniq (runT_is t ht)

/-- what a first byte gives to what a sequence says -/
def lead (c : Int) : Int := if c < 128 then c else if c < 224 then c - 192 else if c < 240 then c - 224 else c - 240
/-- what a whole sequence of n bytes says -/
def valT (t : ByteArray) (n : Int) : Int :=
  if n = 1 then lead (bt t 0) else if n = 2 then 64 * lead (bt t 0) + bt t 1 - 128
  else if n = 3 then 64 * (64 * lead (bt t 0) + bt t 1 - 128) + bt t 2 - 128
  else 64 * (64 * (64 * lead (bt t 0) + bt t 1 - 128) + bt t 2 - 128) + bt t 3 - 128
/-- a piece: how many bytes, what it says, whether it is wrong -/
structure Pc where
  size : Int
  rune : Int
  bad : Bool
def fstT (t : ByteArray) : Pc := if runT t = bgN (bt t 0) then ⟨runT t, valT t (runT t), false⟩ else ⟨runT t, 65533, true⟩
theorem fstT_size (t : ByteArray) : (fstT t).size = runT t := by
  unfold fstT
  split <;> rfl
/-- could more bytes make the first piece whole? -/
def opnT (t : ByteArray) : Bool := decide (runT t < bgN (bt t 0) ∧ runT t = t.size)
/-- what is left of a text from a place on -/
def tail (s : ByteArray) (a : Int) : ByteArray := s.extract a.toNat s.size
theorem tail_size (s : ByteArray) (a : Int) (h0 : 0 ≤ a) (h : a ≤ s.size) : ((tail s a).size : Int) = s.size - a := by
  unfold tail
  rw [ByteArray.size_extract]
  omega
/-- the pieces from a place on -/
def pcsF (s : ByteArray) : Nat → Int → List (Int × Pc)
  | 0, _ => []
  | k + 1, a => if a < s.size then (a, fstT (tail s a)) :: pcsF s k (a + (fstT (tail s a)).size) else []
theorem fst_step (s : ByteArray) (a : Int) (h0 : 0 ≤ a) (h : a < s.size) : 1 ≤ (fstT (tail s a)).size ∧ a + (fstT (tail s a)).size ≤ s.size := by
  have hz := tail_size s a h0 (by omega)
  have hr := runT_is (tail s a) (by omega)
  rw [fstT_size]
  exact ⟨hr.one, by have := hr.size; omega⟩
theorem pcsF_fuel (s : ByteArray) : ∀ (k j : Nat) (a : Int), 0 ≤ a → (s.size : Int) - a ≤ k → (s.size : Int) - a ≤ j → pcsF s k a = pcsF s j a := by
  intro k
  induction k with
  | zero =>
    intro j a h0 hk hj
    cases j with
    | zero => rfl
    | succ j => simp only [pcsF]; rw [if_neg (by omega)]
  | succ k ih =>
    intro j a h0 hk hj
    cases j with
    | zero => simp only [pcsF]; rw [if_neg (by omega)]
    | succ j =>
      simp only [pcsF]
      by_cases h : a < s.size
      · have := fst_step s a h0 h
        rw [if_pos h, if_pos h, ih j _ (by omega) (by omega) (by omega)]
      · rw [if_neg h, if_neg h]
def pcs (s : ByteArray) (a : Int) : List (Int × Pc) := pcsF s s.size a
theorem pcs_go (s : ByteArray) (a : Int) (h0 : 0 ≤ a) (h : a < s.size) : pcs s a = (a, fstT (tail s a)) :: pcs s (a + (fstT (tail s a)).size) := by
  have hs := fst_step s a h0 h
  unfold pcs
  obtain ⟨k, hk⟩ : ∃ k, s.size = k + 1 := ⟨s.size - 1, by omega⟩
  conv => lhs; rw [hk]
  simp only [pcsF]
  rw [if_pos h, pcsF_fuel s k s.size _ (by omega) (by omega) (by omega)]
theorem pcs_end (s : ByteArray) (a : Int) (h : (s.size : Int) ≤ a) : pcs s a = [] := by
  unfold pcs
  cases hk : s.size with
  | zero => rfl
  | succ k => simp only [pcsF]; rw [if_neg (by omega)]
theorem pcs_len (s : ByteArray) (n : Nat) : ∀ a : Int, 0 ≤ a → (s.size : Int) - a = n → (pcs s a).length ≤ n := by
  induction n using Nat.strongRecOn with
  | ind n ih =>
    intro a h0 hn
    by_cases h : a < s.size
    · have hs := fst_step s a h0 h
      rw [pcs_go s a h0 h, List.length_cons]
      have := ih ((s.size : Int) - (a + (fstT (tail s a)).size)).toNat (by omega) (a + (fstT (tail s a)).size) (by omega) (by omega)
      omega
    · rw [pcs_end s a (by omega)]; simp
/-- what all pieces say -/
def decT (s : ByteArray) : List Int := (pcs s 0).map (·.2.rune)
/-- where the first wrong piece begins; -1: none is wrong -/
def wrgT : List (Int × Pc) → Int
  | [] => -1
  | p :: l => if p.2.bad then p.1 else wrgT l
end Go.Proofs.YtfbgmlophkbejaaDoor

set_option linter.unusedVariables false
set_option linter.unusedSimpArgs false
namespace Go.Proofs.YtfbgmlophkbejaaDoor
open Go.RowKit Go.Proofs.YtfbgmlophkbejaaDoorW.PrintWords Go.Proofs.YtfbgmlophkbejaaDoorW.PrintLast
theorem get_bt (s : ByteArray) (i : Nat) (h : i < s.size) : (((s.get! i).toNat : Nat) : Int) = bt s i := by
  unfold bt
  rw [dif_pos (by simpa using h)]
  simp only [Int.toNat_natCast]
  rw [Utf8W.get!_of_lt s i h]
theorem bgN_two {c : Int} (h : bgN c = 2) : 194 ≤ c ∧ c ≤ 223 := by
  unfold bgN at h
  repeat' split at h
  all_goals omega
theorem bgN_three {c : Int} (h : bgN c = 3) : 224 ≤ c ∧ c ≤ 239 := by
  unfold bgN at h
  repeat' split at h
  all_goals omega
theorem bgN_four {c : Int} (h : bgN c = 4) : 240 ≤ c ∧ c ≤ 244 := by
  unfold bgN at h
  repeat' split at h
  all_goals omega
theorem bgN_one {c : Int} (h : bgN c = 1) : c ≤ 127 := by
  unfold bgN at h
  repeat' split at h
  all_goals omega
theorem bgN_ge {c : Int} (h : 2 ≤ bgN c) : 194 ≤ c ∧ c ≤ 244 := by
  unfold bgN at h
  repeat' split at h
  all_goals omega
theorem second_is {t : ByteArray} (h : okB t 1) (h2 : 2 ≤ bgN (bt t 0)) : 128 ≤ bt t 1 ∧ bt t 1 ≤ 191 ∧ (bt t 0 = 224 → 160 ≤ bt t 1) ∧ (bt t 0 = 237 → bt t 1 ≤ 159) ∧ (bt t 0 = 240 → 144 ≤ bt t 1) ∧ (bt t 0 = 244 → bt t 1 ≤ 143) := by
  have hc := bgN_ge h2
  rcases h with h | h
  · obtain ⟨-, h1, h2⟩ := h
    generalize bt t 0 = c at *
    generalize bt t 1 = b at *
    unfold bgLo at h1
    unfold bgHi at h2
    repeat' split at h1
    all_goals repeat' split at h2
    all_goals omega
  · exact absurd rfl h.1
theorem third_is {t : ByteArray} {i : Int} (h : okB t i) (hi : 1 < i) : 128 ≤ bt t i ∧ bt t i ≤ 191 := by
  rcases h with h | h
  · omega
  · exact h.2
/-- where the first piece is whole: its bytes, and that it is a scalar value of that width -/
structure WholeIs (t : ByteArray) (n : Int) : Prop where
  size : n ≤ t.size
  kind : (n = 1 ∧ bt t 0 ≤ 127) ∨
    (n = 2 ∧ 194 ≤ bt t 0 ∧ bt t 0 ≤ 223 ∧ 128 ≤ bt t 1 ∧ bt t 1 ≤ 191) ∨
    (n = 3 ∧ 224 ≤ bt t 0 ∧ bt t 0 ≤ 239 ∧ 128 ≤ bt t 1 ∧ bt t 1 ≤ 191 ∧ (bt t 0 = 224 → 160 ≤ bt t 1) ∧ (bt t 0 = 237 → bt t 1 ≤ 159) ∧ 128 ≤ bt t 2 ∧ bt t 2 ≤ 191) ∨
    (n = 4 ∧ 240 ≤ bt t 0 ∧ bt t 0 ≤ 244 ∧ 128 ≤ bt t 1 ∧ bt t 1 ≤ 191 ∧ (bt t 0 = 240 → 144 ≤ bt t 1) ∧ (bt t 0 = 244 → bt t 1 ≤ 143) ∧ 128 ≤ bt t 2 ∧ bt t 2 ≤ 191 ∧ 128 ≤ bt t 3 ∧ bt t 3 ≤ 191)
theorem whole_is {t : ByteArray} (ht : 0 < t.size) (h : runT t = bgN (bt t 0)) : WholeIs t (runT t) := by
  have hr := runT_is t ht
  refine ⟨hr.size, ?_⟩
  have h1 := hr.one
  have hg := bgN_range (bt t 0)
  have hb := bt_range t 0
  rw [h] at hr h1 ⊢
  rcases (show bgN (bt t 0) = 1 ∨ bgN (bt t 0) = 2 ∨ bgN (bt t 0) = 3 ∨ bgN (bt t 0) = 4 by omega) with g | g | g | g
  · exact Or.inl ⟨g, bgN_one g⟩
  · have := bgN_two g
    have := second_is (hr.ok 1 (by omega) (by omega)) (by omega)
    exact Or.inr (Or.inl (by omega))
  · have := bgN_three g
    have := second_is (hr.ok 1 (by omega) (by omega)) (by omega)
    have := third_is (hr.ok 2 (by omega) (by omega)) (by omega)
    exact Or.inr (Or.inr (Or.inl ⟨g, by omega⟩))
  · have := bgN_four g
    have := second_is (hr.ok 1 (by omega) (by omega)) (by omega)
    have := third_is (hr.ok 2 (by omega) (by omega)) (by omega)
    have := third_is (hr.ok 3 (by omega) (by omega)) (by omega)
    exact Or.inr (Or.inr (Or.inr ⟨g, by omega⟩))
/-- what Go's library decodes of a whole sequence of more than one byte -/
theorem decode_whole (t : ByteArray) (ht : 0 < t.size) (h : runT t = bgN (bt t 0)) (h2 : 2 ≤ runT t) : ((Lib.decodeGo (t.extract 0 (runT t).toNat)).1 : Int) = valT t (runT t) := by
  have hw := whole_is ht h
  generalize runT t = n at *
  obtain ⟨hs, hk⟩ := hw
  have hz := size_ext t 0 n.toNat (by omega)
  obtain ⟨u, hu⟩ : ∃ u, t.extract 0 n.toNat = u := ⟨_, rfl⟩
  have hb : ∀ i : Nat, (i : Int) < n → (((u.get! i).toNat : Nat) : Int) = bt t i := fun i hi => by
    rw [get_bt u i (by rw [← hu]; omega), ← hu, bt_ext t 0 n.toNat (by omega) _ (by omega), if_pos (by omega)]
    congr 1
    omega
  rw [hu] at hz ⊢
  have e : Lib.decodeGo u = Lib.decodeN u.size (u.get! 0).toNat (u.get! 1).toNat (u.get! 2).toNat (u.get! 3).toNat := by
    unfold Lib.decodeGo
    rw [if_neg (by omega), Lib.decode_at]
    simp
  rw [e, hz]
  have b0 : (((u.get! 0).toNat : Nat) : Int) = bt t 0 := hb 0 (by omega)
  have b1 : (((u.get! 1).toNat : Nat) : Int) = bt t 1 := hb 1 (by omega)
  clear e hz
  have valE : valT t n = if n = 2 then 64 * (bt t 0 - 192) + bt t 1 - 128 else if n = 3 then 64 * (64 * (bt t 0 - 224) + bt t 1 - 128) + bt t 2 - 128 else 64 * (64 * (64 * (bt t 0 - 240) + bt t 1 - 128) + bt t 2 - 128) + bt t 3 - 128 := by
    unfold valT lead
    repeat' split
    all_goals omega
  rw [valE]
  rcases hk with hk | hk | hk | hk
  · omega
  · obtain ⟨rfl, hk⟩ := hk
    generalize (u.get! 0).toNat = c0 at *
    generalize (u.get! 1).toNat = c1 at *
    unfold Lib.decodeN
    rw [if_neg (by omega), if_pos (by omega), if_pos (by omega), if_pos rfl]
    simp only
    omega
  · obtain ⟨rfl, hk⟩ := hk
    have b2 : (((u.get! 2).toNat : Nat) : Int) = bt t 2 := hb 2 (by omega)
    generalize (u.get! 0).toNat = c0 at *
    generalize (u.get! 1).toNat = c1 at *
    generalize (u.get! 2).toNat = c2 at *
    unfold Lib.decodeN
    rw [if_neg (by omega), if_neg (by omega), if_pos (by omega), if_pos (by omega), if_neg (by omega), if_pos rfl]
    simp only
    omega
  · obtain ⟨rfl, hk⟩ := hk
    have b2 : (((u.get! 2).toNat : Nat) : Int) = bt t 2 := hb 2 (by omega)
    have b3 : (((u.get! 3).toNat : Nat) : Int) = bt t 3 := hb 3 (by omega)
    generalize (u.get! 0).toNat = c0 at *
    generalize (u.get! 1).toNat = c1 at *
    generalize (u.get! 2).toNat = c2 at *
    generalize (u.get! 3).toNat = c3 at *
    unfold Lib.decodeN
    rw [if_neg (by omega), if_neg (by omega), if_neg (by omega), if_pos (by omega), if_pos (by omega), if_neg (by omega), if_neg (by omega)]
    simp only
    omega
end Go.Proofs.YtfbgmlophkbejaaDoor

set_option linter.unusedVariables false
set_option linter.unusedSimpArgs false
namespace Go.Proofs.YtfbgmlophkbejaaDoor
open Go.RowKit Go.Proofs.YtfbgmlophkbejaaDoorW.PrintWords Go.Proofs.YtfbgmlophkbejaaDoorW.PrintLast
/-- is a number a scalar value? in how many bytes is it written? -/
def scal (r : Int) : Bool := decide ((0 ≤ r ∧ r < 55296) ∨ (57343 < r ∧ r ≤ 1114111))
def wid (r : Int) : Int := if scal r then (if r < 128 then 1 else if r < 2048 then 2 else if r < 65536 then 3 else 4) else 0
theorem scal_iff (r : Int) : scal r = true ↔ ((0 ≤ r ∧ r < 55296) ∨ (57343 < r ∧ r ≤ 1114111)) := by unfold scal; exact decide_eq_true_iff
/-- the bytes of a scalar value -/
def encB (r : Int) : List Int :=
  if r < 128 then [r] else if r < 2048 then [192 + r / 64, 128 + r % 64] else if r < 65536 then [224 + r / 4096, 128 + r / 64 % 64, 128 + r % 64]
  else [240 + r / 262144, 128 + r / 4096 % 64, 128 + r / 64 % 64, 128 + r % 64]
def encL (l : List Int) : List Int := l.flatMap encB
theorem encB_len (r : Int) (h : scal r = true) : ((encB r).length : Int) = wid r := by
  unfold wid encB
  rw [if_pos h]
  repeat' split
  all_goals rfl
theorem encB_len4 (r : Int) : 1 ≤ (encB r).length ∧ (encB r).length ≤ 4 := by
  unfold encB
  repeat' split
  all_goals simp
theorem encB_range (r : Int) (h : scal r = true) : ∀ x ∈ encB r, 0 ≤ x ∧ x ≤ 255 := by
  have hs := (scal_iff r).1 h
  intro x hx
  unfold encB at hx
  repeat' split at hx
  all_goals
    simp only [List.mem_cons, List.not_mem_nil, or_false] at hx
    omega
theorem encL_range (l : List Int) (h : ∀ r ∈ l, scal r = true) : ∀ x ∈ encL l, 0 ≤ x ∧ x ≤ 255 := by
  intro x hx
  unfold encL at hx
  rw [List.mem_flatMap] at hx
  obtain ⟨r, hr, hx⟩ := hx
  exact encB_range r (h r hr) x hx
theorem valT_eq (t : ByteArray) (n : Int) : valT t n = if n = 1 then lead (bt t 0) else if n = 2 then 64 * lead (bt t 0) + bt t 1 - 128 else if n = 3 then 64 * (64 * lead (bt t 0) + bt t 1 - 128) + bt t 2 - 128 else 64 * (64 * (64 * lead (bt t 0) + bt t 1 - 128) + bt t 2 - 128) + bt t 3 - 128 := rfl
/-- a whole piece is a scalar value of the width that it has -/
theorem whole_scal {t : ByteArray} {n : Int} (h : WholeIs t n) (h1 : n ≠ 1 ∨ 0 ≤ bt t 0) : scal (valT t n) = true ∧ wid (valT t n) = n := by
  obtain ⟨hs, hk⟩ := h
  have hb := bt_range t 0
  have key : scal (valT t n) = true := by
    rw [scal_iff]
    unfold valT lead
    rcases hk with hk | hk | hk | hk
    · obtain ⟨rfl, hk⟩ := hk
      rw [if_pos rfl, if_pos (by omega)]; omega
    · obtain ⟨rfl, hk⟩ := hk
      rw [if_neg (by omega), if_pos rfl, if_neg (by omega), if_pos (by omega)]; omega
    · obtain ⟨rfl, hk⟩ := hk
      rw [if_neg (by omega), if_neg (by omega), if_pos rfl, if_neg (by omega), if_neg (by omega), if_pos (by omega)]; omega
    · obtain ⟨rfl, hk⟩ := hk
      rw [if_neg (by omega), if_neg (by omega), if_neg (by omega), if_neg (by omega), if_neg (by omega), if_neg (by omega)]; omega
  refine ⟨key, ?_⟩
  unfold wid
  rw [if_pos key]
  rcases hk with hk | hk | hk | hk
  · obtain ⟨rfl, hk⟩ := hk
    have hv : valT t 1 = bt t 0 := by
      unfold valT lead
      rw [if_pos rfl, if_pos (by omega)]
    rw [hv, if_pos (by omega)]
  · obtain ⟨rfl, hk⟩ := hk
    have hv : valT t 2 = 64 * (bt t 0 - 192) + bt t 1 - 128 := by
      unfold valT lead
      rw [if_neg (by omega), if_pos rfl, if_neg (by omega), if_pos (by omega)]
    rw [hv, if_neg (by omega), if_pos (by omega)]
  · obtain ⟨rfl, hk⟩ := hk
    have hv : valT t 3 = 64 * (64 * (bt t 0 - 224) + bt t 1 - 128) + bt t 2 - 128 := by
      unfold valT lead
      rw [if_neg (by omega), if_neg (by omega), if_pos rfl, if_neg (by omega), if_neg (by omega), if_pos (by omega)]
    rw [hv, if_neg (by omega), if_neg (by omega), if_pos (by omega)]
  · obtain ⟨rfl, hk⟩ := hk
    have hv : valT t 4 = 64 * (64 * (64 * (bt t 0 - 240) + bt t 1 - 128) + bt t 2 - 128) + bt t 3 - 128 := by
      unfold valT lead
      rw [if_neg (by omega), if_neg (by omega), if_neg (by omega), if_neg (by omega), if_neg (by omega), if_neg (by omega)]
    rw [hv, if_neg (by omega), if_neg (by omega), if_neg (by omega)]
/-- what a scalar value is written as is read as just that -/
theorem enc_fst (t : ByteArray) (r : Int) (hs : scal r = true) (h : ∀ i : Int, 0 ≤ i → i < (encB r).length → bt t i = rd (encB r) i) (hz : (encB r).length ≤ t.size) : fstT t = ⟨(encB r).length, r, false⟩ := by
  have hr := (scal_iff r).1 hs
  have ht : 0 < t.size := by have := encB_len4 r; omega
  have go : ∀ n : Int, ((encB r).length : Int) = n → bgN (bt t 0) = n → (∀ i, 1 ≤ i → i < n → okB t i) → valT t n = r → fstT t = ⟨(encB r).length, r, false⟩ := fun n hn hb ho hv => by
    have hp := encB_len4 r
    have e : runT t = n := (RunIs.eq ⟨by omega, ho, by omega, by omega, by omega⟩ ht).symm
    unfold fstT
    rw [e, hb, if_pos rfl, hv, hn]
  by_cases c1 : r < 128
  · have he : encB r = [r] := by unfold encB; rw [if_pos c1]
    rw [he] at h go ⊢
    have b0 : bt t 0 = r := h 0 (by omega) (by simp)
    refine go 1 (by simp) (by rw [b0]; unfold bgN; rw [if_pos c1]) (fun i _ _ => by omega) ?_
    unfold valT lead
    rw [if_pos rfl, b0, if_pos c1]
  by_cases c2 : r < 2048
  · have he : encB r = [192 + r / 64, 128 + r % 64] := by unfold encB; rw [if_neg c1, if_pos c2]
    rw [he] at h go ⊢
    have b0 : bt t 0 = 192 + r / 64 := h 0 (by omega) (by simp)
    have b1 : bt t 1 = 128 + r % 64 := h 1 (by omega) (by simp)
    refine go 2 (by simp) (by rw [b0]; unfold bgN; rw [if_neg (by omega), if_neg (by omega), if_pos (by omega)]) (fun i _ _ => ?_) ?_
    · obtain rfl : i = 1 := by omega
      refine Or.inl ⟨rfl, ?_⟩
      rw [b0, b1]
      unfold bgLo bgHi
      rw [if_neg (by omega), if_neg (by omega), if_neg (by omega), if_pos (by omega), if_neg (by omega), if_neg (by omega), if_neg (by omega), if_pos (by omega)]
      omega
    · unfold valT lead
      rw [if_neg (by omega), if_pos rfl, b0, b1, if_neg (by omega), if_pos (by omega)]
      omega
  by_cases c3 : r < 65536
  · have he : encB r = [224 + r / 4096, 128 + r / 64 % 64, 128 + r % 64] := by unfold encB; rw [if_neg c1, if_neg c2, if_pos c3]
    rw [he] at h go ⊢
    have b0 : bt t 0 = 224 + r / 4096 := h 0 (by omega) (by simp)
    have b1 : bt t 1 = 128 + r / 64 % 64 := h 1 (by omega) (by simp)
    have b2 : bt t 2 = 128 + r % 64 := h 2 (by omega) (by simp)
    refine go 3 (by simp) (by rw [b0]; unfold bgN; rw [if_neg (by omega), if_neg (by omega), if_neg (by omega), if_pos (by omega)]) (fun i _ _ => ?_) ?_
    · rcases (show i = 1 ∨ i = 2 by omega) with rfl | rfl
      · refine Or.inl ⟨rfl, ?_⟩
        rw [b0, b1]
        unfold bgLo bgHi
        repeat' split
        all_goals omega
      · exact Or.inr ⟨by omega, by omega, by omega⟩
    · unfold valT lead
      rw [if_neg (by omega), if_neg (by omega), if_pos rfl, b0, b1, b2, if_neg (by omega), if_neg (by omega), if_pos (by omega)]
      omega
  · have he : encB r = [240 + r / 262144, 128 + r / 4096 % 64, 128 + r / 64 % 64, 128 + r % 64] := by unfold encB; rw [if_neg c1, if_neg c2, if_neg c3]
    rw [he] at h go ⊢
    have b0 : bt t 0 = 240 + r / 262144 := h 0 (by omega) (by simp)
    have b1 : bt t 1 = 128 + r / 4096 % 64 := h 1 (by omega) (by simp)
    have b2 : bt t 2 = 128 + r / 64 % 64 := h 2 (by omega) (by simp)
    have b3 : bt t 3 = 128 + r % 64 := h 3 (by omega) (by simp)
    refine go 4 (by simp) (by rw [b0]; unfold bgN; rw [if_neg (by omega), if_neg (by omega), if_neg (by omega), if_neg (by omega), if_pos (by omega)]) (fun i _ _ => ?_) ?_
    · rcases (show i = 1 ∨ i = 2 ∨ i = 3 by omega) with rfl | rfl | rfl
      · refine Or.inl ⟨rfl, ?_⟩
        rw [b0, b1]
        unfold bgLo bgHi
        repeat' split
        all_goals omega
      · exact Or.inr ⟨by omega, by omega, by omega⟩
      · exact Or.inr ⟨by omega, by omega, by omega⟩
    · unfold valT lead
      rw [if_neg (by omega), if_neg (by omega), if_neg (by omega), b0, b1, b2, b3, if_neg (by omega), if_neg (by omega), if_neg (by omega)]
      omega
end Go.Proofs.YtfbgmlophkbejaaDoor

set_option linter.unusedVariables false
set_option linter.unusedSimpArgs false
namespace Go.Proofs.YtfbgmlophkbejaaDoor
open Go.RowKit Go.Proofs.YtfbgmlophkbejaaDoorW.PrintWords Go.Proofs.YtfbgmlophkbejaaDoorW.PrintLast
theorem okB_congr {t u : ByteArray} {i : Int} (h0 : bt u 0 = bt t 0) (h1 : bt u i = bt t i) (h : okB t i) : okB u i := by
  rcases h with ⟨rfl, h⟩ | ⟨hi, h⟩
  · exact Or.inl ⟨rfl, by rw [h0, h1]; exact h⟩
  · exact Or.inr ⟨hi, by rw [h1]; exact h⟩
theorem valT_congr {t u : ByteArray} {n : Int} (hn : 1 ≤ n) (h4 : n ≤ 4) (h : ∀ i : Int, 0 ≤ i → i < n → bt u i = bt t i) : valT u n = valT t n := by
  unfold valT
  rw [h 0 (by omega) (by omega)]
  by_cases c1 : n = 1
  · rw [if_pos c1, if_pos c1]
  rw [if_neg c1, if_neg c1, h 1 (by omega) (by omega)]
  by_cases c2 : n = 2
  · rw [if_pos c2, if_pos c2]
  rw [if_neg c2, if_neg c2, h 2 (by omega) (by omega)]
  by_cases c3 : n = 3
  · rw [if_pos c3, if_pos c3]
  rw [if_neg c3, if_neg c3, h 3 (by omega) (by omega)]
theorem run_le4 {t : ByteArray} (ht : 0 < t.size) : 1 ≤ runT t ∧ runT t ≤ 4 := by
  have h := runT_is t ht
  have := bgN_range (bt t 0)
  exact ⟨h.one, by have := h.most; omega⟩
theorem fst_congr {t u : ByteArray} (ht : 0 < t.size) (hr : runT u = runT t) (h : ∀ i : Int, 0 ≤ i → i < runT t → bt u i = bt t i) : fstT u = fstT t := by
  have hl := run_le4 ht
  unfold fstT
  rw [hr, h 0 (by omega) (by omega), valT_congr hl.1 hl.2 h]
theorem run_pre {t u : ByteArray} (ht : 0 < t.size) (hz : u.size ≤ t.size) (hn : runT t ≤ u.size) (h : ∀ i : Int, 0 ≤ i → i < u.size → bt u i = bt t i) : runT u = runT t := by
  have hr := runT_is t ht
  have h1 := hr.one
  have h0 := h 0 (by omega) (by omega)
  refine (RunIs.eq ⟨h1, fun i hi hl => okB_congr h0 (h i (by omega) (by omega)) (hr.ok i hi hl), hn, by rw [h0]; exact hr.most, ?_⟩ (by omega)).symm
  rw [h0]
  rcases hr.stop with g | g | g
  · exact Or.inl g
  · exact Or.inr (Or.inl (by omega))
  · by_cases e : runT t = u.size
    · exact Or.inr (Or.inl e)
    · exact Or.inr (Or.inr fun k => g (okB_congr h0.symm (h _ (by omega) (by omega)).symm k))
theorem run_ext {t u : ByteArray} (ht : 0 < t.size) (hz : t.size ≤ u.size) (ho : opnT t = false) (h : ∀ i : Int, 0 ≤ i → i < t.size → bt u i = bt t i) : runT u = runT t := by
  have hr := runT_is t ht
  have h1 := hr.one
  have h2 := hr.size
  have h0 := h 0 (by omega) (by omega)
  have ho' : ¬ (runT t < bgN (bt t 0) ∧ runT t = t.size) := by unfold opnT at ho; exact of_decide_eq_false ho
  refine (RunIs.eq ⟨h1, fun i hi hl => okB_congr h0 (h i (by omega) (by omega)) (hr.ok i hi hl), by omega, by rw [h0]; exact hr.most, ?_⟩ (by omega)).symm
  rw [h0]
  by_cases e : runT t = t.size
  · exact Or.inl (by omega)
  · rcases hr.stop with g | g | g
    · exact Or.inl g
    · exact absurd g e
    · exact Or.inr (Or.inr fun k => g (okB_congr h0.symm (h _ (by omega) (by omega)).symm k))
theorem bt_tail_ (s : ByteArray) (a i : Int) (ha : 0 ≤ a) (hi : 0 ≤ i) : bt (tail s a) i = bt s (a + i) := by
  unfold tail
  by_cases h : (s.size : Int) ≤ a + i
  · rw [bt_out s (a + i) h, bt_out]
    rw [ByteArray.size_extract]
    omega
  · rw [bt_ext s a.toNat s.size (Nat.le_refl _) i hi, if_pos (by omega)]
    congr 1
    omega
theorem bt_pre (s : ByteArray) (e i : Int) (h0 : 0 ≤ e) (h : e ≤ s.size) (hi : 0 ≤ i) (hl : i < e) : bt (s.extract 0 e.toNat) i = bt s i := by
  rw [bt_ext s 0 e.toNat (by omega) i hi, if_pos (by omega)]
  congr 1
  omega
/-- the pieces l lead from the place a to the place e -/
inductive To (s : ByteArray) : Int → List (Int × Pc) → Int → Prop
  | nil (a : Int) : To s a [] a
  | cons {a e : Int} {l : List (Int × Pc)} (h : a < s.size) (r : To s (a + (fstT (tail s a)).size) l e) : To s a ((a, fstT (tail s a)) :: l) e
theorem To.le {s : ByteArray} {a e : Int} {l : List (Int × Pc)} (h : To s a l e) (h0 : 0 ≤ a) : a ≤ e ∧ (a ≤ s.size → e ≤ s.size) := by
  induction h with
  | nil a => exact ⟨by omega, id⟩
  | cons h r ih =>
    have := fst_step s _ h0 h
    have := ih (by omega)
    omega
theorem To.pcs_eq {s : ByteArray} {a e : Int} {l : List (Int × Pc)} (h : To s a l e) (h0 : 0 ≤ a) : pcs s a = l ++ pcs s e := by
  induction h with
  | nil a => rfl
  | cons h r ih =>
    have := fst_step s _ h0 h
    rw [pcs_go s _ h0 h, ih (by omega)]
    rfl
theorem To.snoc {s : ByteArray} {a e : Int} {l : List (Int × Pc)} (h : To s a l e) (he : e < s.size) : To s a (l ++ [(e, fstT (tail s e))]) (e + (fstT (tail s e)).size) := by
  induction h with
  | nil a => exact .cons he (.nil _)
  | cons h r ih => exact .cons h (ih he)
theorem To.all (s : ByteArray) (n : Nat) : ∀ a : Int, 0 ≤ a → a ≤ s.size → (s.size : Int) - a = n → To s a (pcs s a) s.size := by
  induction n using Nat.strongRecOn with
  | ind n ih =>
    intro a h0 hle hn
    by_cases h : a < s.size
    · have hs := fst_step s a h0 h
      rw [pcs_go s a h0 h]
      exact .cons h (ih ((s.size : Int) - (a + (fstT (tail s a)).size)).toNat (by omega) _ (by omega) (by omega) (by omega))
    · obtain rfl : a = s.size := by omega
      rw [pcs_end s _ (by omega)]
      exact .nil _
/-- the pieces of a beginning -/
theorem To.pre {s : ByteArray} {a e E : Int} {l : List (Int × Pc)} (h : To s a l e) (h0 : 0 ≤ a) (he : e ≤ E) (hE : E ≤ s.size) : To (s.extract 0 E.toNat) a l e := by
  induction h with
  | nil a => exact .nil a
  | @cons a e l h r ih =>
    have hs := fst_step s a h0 h
    have hr := (r.le (by omega)).1
    have hz := size_ext s 0 E.toNat (by omega)
    have z1 := tail_size s a h0 (by omega)
    have z2 := tail_size (s.extract 0 E.toNat) a h0 (by omega)
    have hb : ∀ i : Int, 0 ≤ i → i < (tail (s.extract 0 E.toNat) a).size → bt (tail (s.extract 0 E.toNat) a) i = bt (tail s a) i := fun i hi hl => by
      rw [bt_tail_ _ _ _ h0 hi, bt_tail_ _ _ _ h0 hi, bt_pre s E _ (by omega) hE (by omega) (by omega)]
    rw [fstT_size] at hs hr
    have e1 := run_pre (t := tail s a) (u := tail (s.extract 0 E.toNat) a) (by omega) (by omega) (by omega) hb
    have e2 := fst_congr (by omega) e1 (fun i hi hl => hb i hi (by omega))
    have := To.cons (s := s.extract 0 E.toNat) (a := a) (l := l) (e := e) (by omega) (by rw [e2]; exact ih (by rw [fstT_size]; omega) he)
    rw [e2] at this
    exact this
/-- the pieces of a text that grows: those that were closed stay -/
theorem To.grow {s t : ByteArray} {a e : Int} {l : List (Int × Pc)} (h : To s a l e) (h0 : 0 ≤ a) (ho : ∀ p ∈ l, opnT (tail s p.1) = false) : To (s ++ t) a l e := by
  induction h with
  | nil a => exact .nil a
  | @cons a e l h r ih =>
    have hs := fst_step s a h0 h
    have hz : (s ++ t).size = s.size + t.size := ByteArray.size_append
    have z1 := tail_size s a h0 (by omega)
    have z2 := tail_size (s ++ t) a h0 (by omega)
    have hb : ∀ i : Int, 0 ≤ i → i < (tail s a).size → bt (tail (s ++ t) a) i = bt (tail s a) i := fun i hi hl => by
      rw [bt_tail_ _ _ _ h0 hi, bt_tail_ _ _ _ h0 hi, bt_app s t _ (by omega), if_pos (by omega)]
    have ho1 : opnT (tail s a) = false := ho (a, fstT (tail s a)) (List.mem_cons_self ..)
    have e1 := run_ext (t := tail s a) (u := tail (s ++ t) a) (by omega) (by omega) ho1 hb
    have e2 := fst_congr (by omega) e1 (fun i hi hl => hb i hi (by rw [fstT_size] at hs; omega))
    have := To.cons (s := s ++ t) (a := a) (l := l) (e := e) (by omega) (by rw [e2]; exact ih (by omega) (fun p hp => ho p (List.mem_cons_of_mem _ hp)))
    rw [e2] at this
    exact this
theorem tail_tail (s : ByteArray) (e b : Int) (he : 0 ≤ e) (hb : 0 ≤ b) (h : e ≤ s.size) : tail (tail s e) b = tail s (e + b) := by
  have z := tail_size s e he h
  by_cases hl : e + b ≤ s.size
  · refine ba_ext (by have := tail_size (tail s e) b hb (by omega); have := tail_size s (e + b) (by omega) hl; omega) fun i h0 h1 => ?_
    rw [bt_tail_ _ _ _ hb h0, bt_tail_ _ _ _ he (by omega), bt_tail_ _ _ _ (by omega) h0]
    congr 1
    omega
  · refine ba_ext ?_ fun i h0 h1 => ?_
    · unfold tail
      simp only [ByteArray.size_extract]
      unfold tail at z
      rw [ByteArray.size_extract] at z
      omega
    · rw [bt_tail_ _ _ _ hb h0, bt_tail_ _ _ _ he (by omega), bt_tail_ _ _ _ (by omega) h0]
      congr 1
      omega
/-- the pieces of what is left -/
theorem To.rest {s : ByteArray} {a e E : Int} {l : List (Int × Pc)} (h : To s a l e) (h0 : 0 ≤ E) (hE : E ≤ a) (hs : a ≤ s.size) : To (tail s E) (a - E) (l.map fun p => (p.1 - E, p.2)) (e - E) := by
  induction h with
  | nil a => exact .nil _
  | @cons a e l h r ih =>
    have hst := fst_step s a (by omega) h
    have z := tail_size s E h0 (by omega)
    have e1 : tail (tail s E) (a - E) = tail s a := by rw [tail_tail s E (a - E) h0 (by omega) (by omega)]; congr 1; omega
    have := To.cons (s := tail s E) (a := a - E) (l := l.map fun p => (p.1 - E, p.2)) (e := e - E) (by omega) (by
      rw [e1]
      have := ih (by omega) (by omega)
      rw [show a - E + (fstT (tail s a)).size = a + (fstT (tail s a)).size - E by omega]
      exact this)
    rw [e1] at this
    simpa using this
/-- pieces that lead from the front of a text to its end are its pieces -/
theorem To.whole {s : ByteArray} {l : List (Int × Pc)} (h : To s 0 l s.size) : pcs s 0 = l := by
  rw [To.pcs_eq h (Int.le_refl 0), pcs_end s _ (by omega), List.append_nil]
theorem To.mem {s : ByteArray} {a e : Int} {l : List (Int × Pc)} (h : To s a l e) (h0 : 0 ≤ a) : ∀ p ∈ l, 0 ≤ p.1 ∧ p.1 < s.size ∧ p.2 = fstT (tail s p.1) ∧ p.1 + p.2.size ≤ e := by
  induction h with
  | nil a => intro p hp; cases hp
  | @cons a e l h r ih =>
    have hst := fst_step s a h0 h
    intro p hp
    rcases List.mem_cons.1 hp with rfl | hp
    · exact ⟨h0, h, rfl, (r.le (by omega)).1⟩
    · exact ih (by omega) p hp
end Go.Proofs.YtfbgmlophkbejaaDoor

set_option linter.unusedVariables false
set_option linter.unusedSimpArgs false
namespace Go.Proofs.YtfbgmlophkbejaaDoor
open Go.RowKit Go.Proofs.YtfbgmlophkbejaaDoorW.PrintWords Go.Proofs.YtfbgmlophkbejaaDoorW.PrintLast
theorem rd_app_ge (l r : List Int) (i : Int) (h : (l.length : Int) ≤ i) : rd (l ++ r) i = rd r (i - l.length) := by
  unfold rd
  rw [List.getD_eq_getElem?_getD, List.getD_eq_getElem?_getD, List.getElem?_append_right (by omega)]
  congr 2
  omega
def encS (l : List Int) : ByteArray := strOfNums (encL l)
theorem encS_size (l : List Int) : (encS l).size = (encL l).length := strOfNums_size _
theorem bt_encS (l : List Int) (h : ∀ r ∈ l, scal r = true) (i : Int) (h0 : 0 ≤ i) : bt (encS l) i = rd (encL l) i := bt_strOfNums _ i h0 (encL_range l h)
theorem encL_app (l r : List Int) : encL (l ++ r) = encL l ++ encL r := by unfold encL; exact List.flatMap_append ..
theorem encL_one (r : Int) : encL [r] = encB r := by simp [encL]
theorem encL_cons (r : Int) (l : List Int) : encL (r :: l) = encB r ++ encL l := by simp [encL]
theorem enc_to (l : List Int) (h : ∀ r ∈ l, scal r = true) : ∀ (suf pre : List Int), l = pre ++ suf → ∃ L, To (encS l) (encL pre).length L (encS l).size ∧ L.map (·.2.rune) = suf ∧ ∀ p ∈ L, p.2.bad = false := by
  intro suf
  induction suf with
  | nil =>
    intro pre hp
    rw [List.append_nil] at hp
    subst hp
    rw [encS_size]
    exact ⟨[], .nil _, rfl, fun p hp => by cases hp⟩
  | cons r suf ih =>
    intro pre hp
    obtain ⟨L, hL, hm, hb⟩ := ih (pre ++ [r]) (by rw [hp]; simp)
    have hr : scal r = true := h r (by rw [hp]; simp)
    have he : encL l = encL pre ++ (encB r ++ encL suf) := by rw [hp, encL_app, encL_cons]
    have hz : (encS l).size = (encL pre).length + ((encB r).length + (encL suf).length) := by rw [encS_size, he, List.length_append, List.length_append]
    have hl := encB_len4 r
    have z1 := tail_size (encS l) (encL pre).length (by omega) (by omega)
    have hf := enc_fst (tail (encS l) (encL pre).length) r hr (fun i h0 h1 => by
      rw [bt_tail_ _ _ _ (by omega) h0, bt_encS l h _ (by omega), he, rd_app_ge _ _ _ (by omega), rd_append_lt _ _ _ (by omega) (by omega)]
      congr 1
      omega) (by omega)
    refine ⟨_, .cons (by omega) (l := L) ?_, ?_, ?_⟩
    · rw [hf]
      have : ((encL (pre ++ [r])).length : Int) = (encL pre).length + (encB r).length := by rw [encL_app, encL_one, List.length_append]; omega
      rw [← this]
      exact hL
    · rw [List.map_cons, hm, hf]
    · intro p hp
      rcases List.mem_cons.1 hp with rfl | hp
      · rw [hf]
      · exact hb p hp
theorem dec_enc (l : List Int) (h : ∀ r ∈ l, scal r = true) : decT (encS l) = l ∧ ∀ p ∈ pcs (encS l) 0, p.2.bad = false := by
  obtain ⟨L, hL, hm, hb⟩ := enc_to l h l [] rfl
  have e := To.whole hL
  unfold decT
  rw [e]
  exact ⟨hm, hb⟩
/-- a piece says a scalar value -/
theorem fst_scal (t : ByteArray) (ht : 0 < t.size) : scal (fstT t).rune = true ∧ ((fstT t).bad = false → wid (fstT t).rune = (fstT t).size) ∧ ((fstT t).bad = true → (fstT t).rune = 65533 ∧ (fstT t).size ≤ 3) ∧ 1 ≤ (fstT t).size ∧ (fstT t).size ≤ 4 := by
  have hl := run_le4 ht
  by_cases h : runT t = bgN (bt t 0)
  · have hw := whole_scal (whole_is ht h) (Or.inr (bt_range t 0).1)
    unfold fstT
    rw [if_pos h]
    exact ⟨hw.1, fun _ => hw.2, fun h => (by cases h), hl.1, hl.2⟩
  · have hr := runT_is t ht
    have hg := bgN_range (bt t 0)
    have := hr.most
    unfold fstT
    rw [if_neg h]
    exact ⟨(by decide : scal 65533 = true), fun h => (by cases h), fun _ => ⟨rfl, by show runT t ≤ 3; omega⟩, hl.1, hl.2⟩
theorem decT_scal (s : ByteArray) : ∀ r ∈ decT s, scal r = true := by
  intro r hr
  unfold decT at hr
  obtain ⟨p, hp, rfl⟩ := List.mem_map.1 hr
  obtain ⟨h1, h2, h3, -⟩ := (To.all s s.size 0 (by omega) (by omega) (by omega)).mem (by omega) p hp
  rw [h3]
  exact (fst_scal _ (by have := tail_size s p.1 h1 (by omega); omega)).1
theorem dec_enc_dec (s : ByteArray) : decT (encS (decT s)) = decT s := (dec_enc _ (decT_scal s)).1
/-- a text without wrong pieces is written as it is -/
theorem enc_valT (t : ByteArray) (n : Int) (h : WholeIs t n) : ∀ i : Int, 0 ≤ i → i < n → rd (encB (valT t n)) i = bt t i := by
  obtain ⟨hs, hk⟩ := h
  have hb := bt_range t 0
  intro i h0 h1
  unfold valT lead
  rcases hk with hk | hk | hk | hk
  · obtain ⟨rfl, hk⟩ := hk
    obtain rfl : i = 0 := by omega
    rw [if_pos rfl, if_pos (by omega)]
    unfold encB
    rw [if_pos (by omega)]
    rfl
  · obtain ⟨rfl, hk⟩ := hk
    rw [if_neg (by omega), if_pos rfl, if_neg (by omega), if_pos (by omega)]
    unfold encB
    rw [if_neg (by omega), if_pos (by omega)]
    rcases (show i = 0 ∨ i = 1 by omega) with rfl | rfl
    · show 192 + _ = _; omega
    · show 128 + _ = _; omega
  · obtain ⟨rfl, hk⟩ := hk
    rw [if_neg (by omega), if_neg (by omega), if_pos rfl, if_neg (by omega), if_neg (by omega), if_pos (by omega)]
    unfold encB
    rw [if_neg (by omega), if_neg (by omega), if_pos (by omega)]
    rcases (show i = 0 ∨ i = 1 ∨ i = 2 by omega) with rfl | rfl | rfl
    · show 224 + _ = _; omega
    · show 128 + _ = _; omega
    · show 128 + _ = _; omega
  · obtain ⟨rfl, hk⟩ := hk
    rw [if_neg (by omega), if_neg (by omega), if_neg (by omega), if_neg (by omega), if_neg (by omega), if_neg (by omega)]
    unfold encB
    rw [if_neg (by omega), if_neg (by omega), if_neg (by omega)]
    rcases (show i = 0 ∨ i = 1 ∨ i = 2 ∨ i = 3 by omega) with rfl | rfl | rfl | rfl
    · show 240 + _ = _; omega
    · show 128 + _ = _; omega
    · show 128 + _ = _; omega
    · show 128 + _ = _; omega
theorem enc_all (s : ByteArray) {a e : Int} {l : List (Int × Pc)} (h : To s a l e) (h0 : 0 ≤ a) (hb : ∀ p ∈ l, p.2.bad = false) : ((encL (l.map (·.2.rune))).length : Int) = e - a ∧ ∀ i : Int, 0 ≤ i → i < e - a → rd (encL (l.map (·.2.rune))) i = bt s (a + i) := by
  induction h with
  | nil a => exact ⟨by simp [encL], fun i _ _ => by omega⟩
  | @cons a e l h r ih =>
    have hst := fst_step s a h0 h
    have z := tail_size s a h0 (by omega)
    have ih := ih (by omega) (fun p hp => hb p (List.mem_cons_of_mem _ hp))
    have hbad : (fstT (tail s a)).bad = false := hb _ (List.mem_cons_self ..)
    have hq : runT (tail s a) = bgN (bt (tail s a) 0) := by
      refine Decidable.byContradiction fun hne => ?_
      unfold fstT at hbad
      rw [if_neg hne] at hbad
      cases hbad
    have hw := whole_is (by omega) hq
    have hrune : (fstT (tail s a)).rune = valT (tail s a) (runT (tail s a)) := by unfold fstT; rw [if_pos hq]
    have hsc := whole_scal hw (Or.inr (bt_range _ 0).1)
    have hen := encB_len _ hsc.1
    have hv := enc_valT _ _ hw
    rw [fstT_size] at ih hst
    rw [List.map_cons, encL_cons, hrune, List.length_append]
    refine ⟨by omega, fun i hi hl => ?_⟩
    by_cases hc : i < runT (tail s a)
    · rw [rd_append_lt _ _ _ hi (by omega), hv i hi hc, bt_tail_ _ _ _ h0 hi]
    · rw [rd_app_ge _ _ _ (by omega), ih.2 _ (by omega) (by omega)]
      congr 1
      omega
theorem clean_same (s : ByteArray) (hb : ∀ p ∈ pcs s 0, p.2.bad = false) : encS (decT s) = s := by
  have h := enc_all s (To.all s s.size 0 (by omega) (by omega) (by omega)) (by omega) hb
  have hz : ((encS (decT s)).size : Int) = s.size := by
    rw [encS_size]
    have := h.1
    unfold decT
    omega
  refine ba_ext (by omega) fun i h0 h1 => ?_
  rw [bt_encS _ (decT_scal s) i h0]
  have := h.2 i h0 (by omega)
  rw [show (0 : Int) + i = i by omega] at this
  exact this
end Go.Proofs.YtfbgmlophkbejaaDoor

set_option linter.unusedVariables false
set_option linter.unusedSimpArgs false
namespace Go.Proofs.YtfbgmlophkbejaaDoor
open Go.RowKit Go.Proofs.YtfbgmlophkbejaaDoorW.PrintWords Go.Proofs.YtfbgmlophkbejaaDoorW.PrintLast
theorem scal_split (l : List Int) : (∀ r ∈ l, scal r = true) ∨ ∃ k : Nat, k < l.length ∧ (∀ r ∈ l.take k, scal r = true) ∧ scal (rd l k) = false := by
  induction l with
  | nil => exact Or.inl (fun r h => by cases h)
  | cons x l ih =>
    cases hx : scal x with
    | false => exact Or.inr ⟨0, by simp, fun r h => (by cases h), by simpa [rd] using hx⟩
    | true =>
      rcases ih with h | ⟨k, hk, h1, h2⟩
      · exact Or.inl fun r hr => by
          rcases List.mem_cons.1 hr with rfl | hr
          · exact hx
          · exact h r hr
      · refine Or.inr ⟨k + 1, by simpa using hk, fun r hr => ?_, ?_⟩
        · rw [List.take_succ_cons] at hr
          rcases List.mem_cons.1 hr with rfl | hr
          · exact hx
          · exact h1 r hr
        · have e : rd (x :: l) ((k + 1 : Nat) : Int) = rd l k := by
            unfold rd
            simp only [Int.toNat_natCast, List.getD_cons_succ]
          rw [e]
          exact h2
/-- the units of a scalar value -/
def untB (r : Int) : List Int := if r < 65536 then [r] else [55296 + (r - 65536) / 1024, 56320 + (r - 65536) % 1024]
def untL (l : List Int) : List Int := l.flatMap untB
theorem untL_nil : untL [] = [] := rfl
theorem untL_cons (r : Int) (l : List Int) : untL (r :: l) = untB r ++ untL l := by simp [untL]
theorem untL_app (l r : List Int) : untL (l ++ r) = untL l ++ untL r := by unfold untL; exact List.flatMap_append ..
theorem untL_one (r : Int) : untL [r] = untB r := by simp [untL]
theorem untB_len (r : Int) : 1 ≤ (untB r).length ∧ (untB r).length ≤ 2 := by
  unfold untB
  split <;> simp
theorem untL_len (l : List Int) : (untL l).length ≤ 2 * l.length := by
  induction l with
  | nil => simp [untL]
  | cons r l ih => rw [untL_cons, List.length_append, List.length_cons]; have := untB_len r; omega
theorem untB_range (r : Int) (h : scal r = true) : ∀ x ∈ untB r, 0 ≤ x ∧ x ≤ 65535 := by
  have hs := (scal_iff r).1 h
  intro x hx
  unfold untB at hx
  split at hx
  all_goals
    simp only [List.mem_cons, List.not_mem_nil, or_false] at hx
    omega
theorem untL_range (l : List Int) (h : ∀ r ∈ l, scal r = true) : ∀ x ∈ untL l, 0 ≤ x ∧ x ≤ 65535 := by
  intro x hx
  unfold untL at hx
  rw [List.mem_flatMap] at hx
  obtain ⟨r, hr, hx⟩ := hx
  exact untB_range r (h r hr) x hx
/-- what units say -/
def frmU : List Int → List Int
  | [] => []
  | [u] => [if u < 55296 ∨ 57343 < u then u else 65533]
  | u :: v :: l => if u < 55296 ∨ 57343 < u then u :: frmU (v :: l) else if u < 56320 ∧ 56320 ≤ v ∧ v ≤ 57343 then (65536 + 1024 * (u - 55296) + v - 56320) :: frmU l else 65533 :: frmU (v :: l)
theorem frmU_plain (u : Int) (l : List Int) (h : u < 55296 ∨ 57343 < u) : frmU (u :: l) = u :: frmU l := by
  cases l with
  | nil => simp only [frmU]; rw [if_pos h]
  | cons v l => simp only [frmU]; rw [if_pos h]
theorem frmU_pair (u v : Int) (l : List Int) (h : 55296 ≤ u ∧ u < 56320) (hv : 56320 ≤ v ∧ v ≤ 57343) : frmU (u :: v :: l) = (65536 + 1024 * (u - 55296) + v - 56320) :: frmU l := by
  simp only [frmU]; rw [if_neg (by omega), if_pos (by omega)]
theorem frmU_lone (u : Int) (l : List Int) (h : 55296 ≤ u ∧ u ≤ 57343) (hv : 56320 ≤ u ∨ l = [] ∨ ∃ v r, l = v :: r ∧ ¬ (56320 ≤ v ∧ v ≤ 57343)) : frmU (u :: l) = 65533 :: frmU l := by
  cases l with
  | nil => simp only [frmU]; rw [if_neg (by omega)]
  | cons v l =>
    simp only [frmU]
    rw [if_neg (by omega), if_neg]
    rcases hv with hv | hv | ⟨v', r, hv, h2⟩
    · omega
    · cases hv
    · obtain ⟨rfl, rfl⟩ := List.cons.inj hv
      omega
theorem drop_rd (l : List Int) (k : Nat) (h : k < l.length) : l.drop k = rd l k :: l.drop (k + 1) := by
  rw [List.drop_eq_getElem_cons h]
  simp [rd, List.getD_eq_getElem?_getD, List.getElem?_eq_getElem h]
theorem drop_rd' (l : List Int) (k : Nat) (h : k + 1 < l.length) : l.drop (k + 1) = rd l ((k : Int) + 1) :: l.drop (k + 2) := by
  have := drop_rd l (k + 1) h
  rw [this]
  rfl
theorem frm_plain (l : List Int) (k : Nat) (h : k < l.length) (hu : rd l k < 55296 ∨ 57343 < rd l k) : frmU (l.drop k) = rd l k :: frmU (l.drop (k + 1)) := by
  rw [drop_rd l k h]; exact frmU_plain _ _ hu
theorem frm_pair (l : List Int) (k : Nat) (h : k + 1 < l.length) (hu : 55296 ≤ rd l k ∧ rd l k < 56320) (hv : 56320 ≤ rd l ((k : Int) + 1) ∧ rd l ((k : Int) + 1) ≤ 57343) : frmU (l.drop k) = (65536 + 1024 * (rd l k - 55296) + rd l ((k : Int) + 1) - 56320) :: frmU (l.drop (k + 2)) := by
  rw [drop_rd l k (by omega), drop_rd' l k h]; exact frmU_pair _ _ _ hu hv
theorem frm_lone (l : List Int) (k : Nat) (h : k < l.length) (hu : 55296 ≤ rd l k ∧ rd l k ≤ 57343) (hv : 56320 ≤ rd l k ∨ l.length ≤ k + 1 ∨ (k + 1 < l.length ∧ ¬ (56320 ≤ rd l ((k : Int) + 1) ∧ rd l ((k : Int) + 1) ≤ 57343))) : frmU (l.drop k) = 65533 :: frmU (l.drop (k + 1)) := by
  rw [drop_rd l k h]
  refine frmU_lone _ _ hu ?_
  rcases hv with hv | hv | ⟨h1, hv⟩
  · exact Or.inl hv
  · exact Or.inr (Or.inl (List.drop_eq_nil_of_le hv))
  · exact Or.inr (Or.inr ⟨_, _, drop_rd' l k h1, hv⟩)
theorem frmU_len : ∀ (n : Nat) (l : List Int), l.length ≤ n → (frmU l).length ≤ l.length := by
  intro n
  induction n with
  | zero => intro l h; obtain rfl := List.length_eq_zero_iff.1 (Nat.le_zero.1 h); simp [frmU]
  | succ n ih =>
    intro l h
    match l with
    | [] => simp [frmU]
    | [u] => simp [frmU]
    | u :: v :: l =>
      simp only [List.length_cons] at h
      have h1 := ih (v :: l) (by simp; omega)
      have h2 := ih l (by omega)
      simp only [List.length_cons] at h1
      simp only [frmU]
      repeat' split
      all_goals
        simp only [List.length_cons]
        omega
theorem frmU_scal : ∀ (n : Nat) (l : List Int), l.length ≤ n → (∀ x ∈ l, 0 ≤ x ∧ x ≤ 65535) → ∀ r ∈ frmU l, scal r = true := by
  intro n
  induction n with
  | zero => intro l h hr; obtain rfl := List.length_eq_zero_iff.1 (Nat.le_zero.1 h); simp [frmU]
  | succ n ih =>
    intro l h hr
    match l with
    | [] => simp [frmU]
    | [u] =>
      have := hr u (by simp)
      intro r hm
      simp only [frmU, List.mem_singleton] at hm
      subst hm
      rw [scal_iff]
      split <;> omega
    | u :: v :: l =>
      simp only [List.length_cons] at h
      have hu := hr u (by simp)
      have hv := hr v (by simp)
      have h1 := ih (v :: l) (by simp; omega) (fun x hx => hr x (List.mem_cons_of_mem _ hx))
      have h2 := ih l (by omega) (fun x hx => hr x (List.mem_cons_of_mem _ (List.mem_cons_of_mem _ hx)))
      intro r hm
      simp only [frmU] at hm
      repeat' split at hm
      all_goals
        rcases List.mem_cons.1 hm with rfl | hm
        · rw [scal_iff]; omega
        · first | exact h1 r hm | exact h2 r hm
/-- what scalar values are in units says just these, whatever follows that is no second half -/
theorem frmU_unt (l : List Int) (h : ∀ r ∈ l, scal r = true) (t : List Int) : frmU (untL l ++ t) = l ++ frmU t := by
  induction l with
  | nil => rfl
  | cons r l ih =>
    have hs := (scal_iff r).1 (h r (List.mem_cons_self ..))
    have ih := ih (fun x hx => h x (List.mem_cons_of_mem _ hx))
    rw [untL_cons, List.append_assoc, List.cons_append, ← ih]
    unfold untB
    split
    · exact frmU_plain _ _ (by omega)
    · have e := frmU_pair (55296 + (r - 65536) / 1024) (56320 + (r - 65536) % 1024) (untL l ++ t) (by omega) (by omega)
      rw [show 65536 + 1024 * (55296 + (r - 65536) / 1024 - 55296) + (56320 + (r - 65536) % 1024) - 56320 = r by omega] at e
      exact e
theorem frm_unt (l : List Int) (h : ∀ r ∈ l, scal r = true) : frmU (untL l) = l := by
  have := frmU_unt l h []
  rw [List.append_nil] at this
  rw [this]
  simp [frmU]
end Go.Proofs.YtfbgmlophkbejaaDoor
