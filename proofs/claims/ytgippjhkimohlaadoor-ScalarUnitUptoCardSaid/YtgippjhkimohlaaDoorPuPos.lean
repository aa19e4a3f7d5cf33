/- Scalar: positions, units, how many; what the printed functions on them come to. Plain. -/
import Derived.Test.YtgippjhkimohlaaDoorPuEnds
import Derived.Test.YtgippjhkimohlaaDoorPuF
import Derived.Test.YtgippjhkimohlaaDoorQScax25
import Derived.Test.YtgippjhkimohlaaDoorQScax26
import Derived.Test.YtgippjhkimohlaaDoorQScax33
import Derived.Test.YtgippjhkimohlaaDoorQScax31
import Derived.Test.YtgippjhkimohlaaDoorQScax32
set_option linter.unusedVariables false
set_option linter.unusedSimpArgs false
namespace Go.Proofs.YtgippjhkimohlaaDoor
open Go.RowKit Go.Proofs.YtgippjhkimohlaaDoorW.PrintWords Go.Proofs.YtgippjhkimohlaaDoorQ.Sca
/-- in how many units a code point is written -/
def un (r : Int) : Int := if r < 65536 then 1 else 2
theorem un_range (r : Int) : 1 ≤ un r ∧ un r ≤ 2 := by unfold un; split <;> omega
theorem units_is (r : Int) : scalar_units.f r = some (un r) := by
  unfold scalar_units.f un
  by_cases h : r < 65536
  · rw [if_neg (by omega), if_pos h]
  · rw [if_pos (by omega), if_neg h]
theorem runits_is (r : Int) : posternref02_units.f r = some (un r) := by
  unfold posternref02_units.f un
  by_cases h : r < 65536
  · rw [if_neg (by omega), if_pos h]
  · rw [if_pos (by omega), if_neg h]
/-- column, point and unit of a place, in a line that begins at f -/
def posF (at_ f : Int) : List (Int × Pc) → Int → Int → Int → Int × Int × Int
  | [], c, p, u => (c, p, u)
  | q :: l, c, p, u => if at_ ≤ q.1 then (c, p, u) else posF at_ f l (if f ≤ q.1 then c + 1 else c) (p + 1) (u + un q.2.rune)
theorem Position_l1 (at_ f ln : Int) (l : List (Int × Pc)) (hl : l.length ≤ 1000000000) : ∀ (n k i : Nat) (c p u : Int), l.length - i = n → i ≤ l.length → 0 ≤ c → c ≤ i → 0 ≤ p → p ≤ i → 0 ≤ u → u ≤ 2 * i → n < k →
    scalar_Position.l1 k at_ f (l.map toS32) (l.length : Int) (i : Int) ln c p u = some (ln, (posF at_ f (l.drop i) c p u).1, (posF at_ f (l.drop i) c p u).2.1, (posF at_ f (l.drop i) c p u).2.2, 0) := by
  intro n
  induction n with
  | zero =>
    intro k i c p u h1 h2 hc0 hc hp0 hp hu0 hu hk
    obtain ⟨k, rfl⟩ : ∃ m, k = m + 1 := ⟨k - 1, by omega⟩
    rw [List.drop_of_length_le (by omega)]
    simp only [scalar_Position.l1, posF]
    rw [if_neg (by omega)]
  | succ n ih =>
    intro k i c p u h1 h2 hc0 hc hp0 hp hu0 hu hk
    obtain ⟨k, rfl⟩ : ∃ m, k = m + 1 := ⟨k - 1, by omega⟩
    rw [drop_pc l i (by omega)]
    generalize hg : l.getD i pc0 = q at *
    have hun := un_range q.2.rune
    simp only [scalar_Position.l1, rdS_map l i (by omega), hg, toS32, units_is, Option.bind_some]
    rw [if_pos (by omega), if_pos (by omega), if_pos (by rw [List.length_map]; omega), show wrap64 (c + 1) = c + 1 by unfold wrap64; omega, show wrap64 (p + 1) = p + 1 by unfold wrap64; omega, show wrap64 (u + un q.2.rune) = u + un q.2.rune by unfold wrap64; omega, show wrap64 ((i : Int) + 1) = ((i + 1 : Nat) : Int) by unfold wrap64; omega]
    simp only [posF]
    by_cases h3 : at_ ≤ q.1
    · rw [if_pos (show q.1 ≥ at_ from h3), if_pos h3]
    · rw [if_neg (show ¬ q.1 ≥ at_ from h3), if_neg h3]
      by_cases h4 : f ≤ q.1
      · rw [if_pos (show q.1 ≥ f from h4), if_pos h4]
        exact ih k (i + 1) _ _ _ (by omega) (by omega) (by omega) (by omega) (by omega) (by omega) (by omega) (by omega) (by omega)
      · rw [if_neg (show ¬ q.1 ≥ f from h4), if_neg h4]
        exact ih k (i + 1) _ _ _ (by omega) (by omega) (by omega) (by omega) (by omega) (by omega) (by omega) (by omega) (by omega)
theorem RPosition_l0 (at_ f ln : Int) (l : List (Int × Pc)) (hl : l.length ≤ 1000000000) : ∀ (n k i : Nat) (c p u : Int), l.length - i = n → i ≤ l.length → 0 ≤ c → c ≤ i → 0 ≤ p → p ≤ i → 0 ≤ u → u ≤ 2 * i → n < k →
    posternref02_PositionOf.l0 k at_ f (l.map toS33) (l.length : Int) (i : Int) ln c p u = some (ln, (posF at_ f (l.drop i) c p u).1, (posF at_ f (l.drop i) c p u).2.1, (posF at_ f (l.drop i) c p u).2.2, 0) := by
  intro n
  induction n with
  | zero =>
    intro k i c p u h1 h2 hc0 hc hp0 hp hu0 hu hk
    obtain ⟨k, rfl⟩ : ∃ m, k = m + 1 := ⟨k - 1, by omega⟩
    rw [List.drop_of_length_le (by omega)]
    simp only [posternref02_PositionOf.l0, posF]
    rw [if_neg (by omega)]
  | succ n ih =>
    intro k i c p u h1 h2 hc0 hc hp0 hp hu0 hu hk
    obtain ⟨k, rfl⟩ : ∃ m, k = m + 1 := ⟨k - 1, by omega⟩
    rw [drop_pc l i (by omega)]
    generalize hg : l.getD i pc0 = q at *
    have hun := un_range q.2.rune
    simp only [posternref02_PositionOf.l0, rdR_map l i (by omega), hg, toS33, runits_is, Option.bind_some]
    rw [if_pos (by omega), if_pos (by omega), if_pos (by rw [List.length_map]; omega), show wrap64 (c + 1) = c + 1 by unfold wrap64; omega, show wrap64 (p + 1) = p + 1 by unfold wrap64; omega, show wrap64 (u + un q.2.rune) = u + un q.2.rune by unfold wrap64; omega, show wrap64 ((i : Int) + 1) = ((i + 1 : Nat) : Int) by unfold wrap64; omega]
    simp only [posF]
    by_cases h3 : at_ ≤ q.1
    · rw [if_pos (show q.1 ≥ at_ from h3), if_pos h3]
    · rw [if_neg (show ¬ q.1 ≥ at_ from h3), if_neg h3]
      by_cases h4 : f ≤ q.1
      · rw [if_pos (show q.1 ≥ f from h4), if_pos h4]
        exact ih k (i + 1) _ _ _ (by omega) (by omega) (by omega) (by omega) (by omega) (by omega) (by omega) (by omega) (by omega)
      · rw [if_neg (show ¬ q.1 ≥ f from h4), if_neg h4]
        exact ih k (i + 1) _ _ _ (by omega) (by omega) (by omega) (by omega) (by omega) (by omega) (by omega) (by omega) (by omega)
theorem foldE_range (at_ : Int) (h0 : 0 ≤ at_) : ∀ (l : List (Int × Int)) (c f : Int), c ≤ (foldE at_ l (c, f)).1 ∧ (foldE at_ l (c, f)).1 ≤ c + l.length := by
  intro l
  induction l with
  | nil => intro c f; show c ≤ c ∧ c ≤ c + _; simp
  | cons p l ih =>
    intro c f
    rw [foldE_cons, List.length_cons]
    split
    · have := ih (c + 1) p.2; simp only at this ⊢; omega
    · have := ih c f; omega
theorem Position_l0 (s : ByteArray) (at_ : Int) (l : List (Int × Int)) (hl : l.length ≤ 1000000000) (c p u : Int) : ∀ (n k j : Nat) (f ln : Int), l.length - j = n → j ≤ l.length → 0 ≤ ln → ln ≤ j →
    scalar_Position.l0 (k + n) s at_ f (l.map (·.2)) (l.length : Int) (j : Int) ln c p u = scalar_Position.l0 k s at_ (foldE at_ (l.drop j) (ln, f)).2 (l.map (·.2)) (l.length : Int) (l.length : Int) (foldE at_ (l.drop j) (ln, f)).1 c p u := by
  intro n
  induction n with
  | zero =>
    intro k j f ln h1 h2 hn0 hn
    obtain rfl : j = l.length := by omega
    rw [List.drop_length]
    rfl
  | succ n ih =>
    intro k j f ln h1 h2 hn0 hn
    rw [drop_pr l j (by omega), foldE_cons, show k + (n + 1) = k + n + 1 by omega]
    conv => lhs; rw [scalar_Position.l0]
    simp only [rd_snd l j (by omega)]
    generalize l.getD j (0, 0) = q at *
    rw [if_pos (by omega), if_pos (by omega), if_pos (by rw [List.length_map]; omega), show wrap64 (ln + 1) = ln + 1 by unfold wrap64; omega, show wrap64 ((j : Int) + 1) = ((j + 1 : Nat) : Int) by unfold wrap64; omega]
    split
    · exact ih k (j + 1) _ _ (by omega) (by omega) (by omega) (by omega)
    · exact ih k (j + 1) _ _ (by omega) (by omega) (by omega) (by omega)
/-- where a byte stands: line, column, point, unit; the error's number -/
def posA (s : ByteArray) (at_ : Int) : Int × Int × Int × Int × Int :=
  if at_ < 0 ∨ (s.size : Int) < at_ then (0, 0, 0, 0, 21) else
    ((foldE at_ (eps s) (0, 0)).1, (posF at_ (foldE at_ (eps s) (0, 0)).2 (pcs s 0) 0 0 0).1, (posF at_ (foldE at_ (eps s) (0, 0)).2 (pcs s 0) 0 0 0).2.1, (posF at_ (foldE at_ (eps s) (0, 0)).2 (pcs s 0) 0 0 0).2.2, 0)
theorem Position_is (s : ByteArray) (at_ : Int) (hs : s.size ≤ 100000000) (k : Nat) (hk : 4 * s.size + 10 < k) : scalar_Position.f k s at_ = some (posA s at_) := by
  have F := fit s (by omega)
  have hFl := F.len
  obtain ⟨k, rfl⟩ : ∃ m, k = m + 1 := ⟨k - 1, by omega⟩
  have hj : ∀ b, b = decide (at_ < 0 ∨ (s.size : Int) < at_) → scalar_Position.j0 (k + 1) s at_ b = some (posA s at_) := fun b hb => by
    subst hb
    unfold posA
    by_cases h : at_ < 0 ∨ (s.size : Int) < at_
    · rw [decide_eq_true h, if_pos h]
      simp only [scalar_Position.j0, if_true]
    · rw [decide_eq_false h, if_neg h]
      simp only [scalar_Position.j0, Bool.false_eq_true, if_false]
      have hle := epsF_len s s.size 0
      rw [ends_is s (by omega) k (by omega)]
      simp only [Option.bind_some, List.length_map]
      obtain ⟨k', rfl⟩ : ∃ m, k = m + 1 + (eps s).length := ⟨k - 1 - (eps s).length, by unfold eps; omega⟩
      have hlp := Position_l0 s at_ (eps s) (by unfold eps; omega) 0 0 0 (eps s).length (k' + 1) 0 0 0 (by omega) (by omega) (by omega) (by omega)
      rw [List.drop_zero] at hlp
      refine Eq.trans hlp ?_
      rw [scalar_Position.l0, if_neg (by omega)]
      unfold scalar_Pieces.f
      rw [if_pos (by omega)]
      simp only [Option.bind_some, List.length_map]
      have := Position_l1 at_ (foldE at_ (eps s) (0, 0)).2 (foldE at_ (eps s) (0, 0)).1 (pcs s 0) (by omega) (pcs s 0).length k' 0 0 0 0 (by omega) (by omega) (by omega) (by omega) (by omega) (by omega) (by omega) (by omega) (by unfold eps at hk; omega)
      rw [List.drop_zero] at this
      exact this
  unfold scalar_Position.f
  by_cases h : at_ < 0
  · rw [if_pos h]
    exact hj true (decide_eq_true (Or.inl h)).symm
  · rw [if_neg h]
    refine hj _ ?_
    exact decide_eq_decide.2 (by omega)
theorem RPosition_is (s : ByteArray) (at_ : Int) (hs : s.size ≤ 100000000) (k : Nat) (hk : 4 * s.size + 10 < k) : posternref02_PositionOf.f k s at_ = some (posA s at_) := by
  have F := fit s (by omega)
  have hFl := F.len
  obtain ⟨k, rfl⟩ : ∃ m, k = m + 1 := ⟨k - 1, by omega⟩
  have hj : ∀ b, b = decide (at_ < 0 ∨ (s.size : Int) < at_) → posternref02_PositionOf.j0 (k + 1) s at_ b = some (posA s at_) := fun b hb => by
    subst hb
    unfold posA
    by_cases h : at_ < 0 ∨ (s.size : Int) < at_
    · rw [decide_eq_true h, if_pos h]
      simp only [posternref02_PositionOf.j0, if_true]
    · rw [decide_eq_false h, if_neg h]
      simp only [posternref02_PositionOf.j0, Bool.false_eq_true, if_false]
      rw [ended_is s (by omega) at_ (by omega) (by omega) k (by omega)]
      unfold posternref02_Pieces.f
      rw [if_pos (by omega)]
      simp only [Option.bind_some, List.length_map]
      have := RPosition_l0 at_ (foldE at_ (eps s) (0, 0)).2 (foldE at_ (eps s) (0, 0)).1 (pcs s 0) (by omega) (pcs s 0).length k 0 0 0 0 (by omega) (by omega) (by omega) (by omega) (by omega) (by omega) (by omega) (by omega) (by omega)
      rw [List.drop_zero] at this
      exact this
  unfold posternref02_PositionOf.f
  by_cases h : at_ < 0
  · rw [if_pos h]
    exact hj true (decide_eq_true (Or.inl h)).symm
  · rw [if_neg h]
    refine hj _ ?_
    exact decide_eq_decide.2 (by omega)
/-! ### units -/
/-- the place of the piece that has a unit, of those from unit n on -/
def untF (x z : Int) : List (Int × Pc) → Int → Int × Int
  | [], n => if x = n then (z, 0) else (0, 21)
  | q :: l, n => if n ≤ x ∧ x < n + un q.2.rune then (q.1, 0) else untF x z l (n + un q.2.rune)
theorem Unit_l0 (s : ByteArray) (x : Int) (l : List (Int × Pc)) (hl : l.length ≤ 1000000000) : ∀ (n k i : Nat) (u : Int), l.length - i = n → i ≤ l.length → 0 ≤ u → u ≤ 2 * i → n < k →
    scalar_Unit.l0 k s x u (l.map toS32) (l.length : Int) (i : Int) = some (untF x s.size (l.drop i) u) := by
  intro n
  induction n with
  | zero =>
    intro k i u h1 h2 hu0 hu hk
    obtain ⟨k, rfl⟩ : ∃ m, k = m + 1 := ⟨k - 1, by omega⟩
    rw [List.drop_of_length_le (by omega)]
    simp only [scalar_Unit.l0, untF]
    rw [if_neg (by omega)]
    split <;> rfl
  | succ n ih =>
    intro k i u h1 h2 hu0 hu hk
    obtain ⟨k, rfl⟩ : ∃ m, k = m + 1 := ⟨k - 1, by omega⟩
    rw [drop_pc l i (by omega)]
    generalize hg : l.getD i pc0 = q at *
    have hun := un_range q.2.rune
    simp only [scalar_Unit.l0, rdS_map l i (by omega), hg, toS32, units_is, Option.bind_some]
    rw [if_pos (by omega), if_pos (by omega), if_pos (by rw [List.length_map]; omega), show wrap64 (u + un q.2.rune) = u + un q.2.rune by unfold wrap64; omega, show wrap64 ((i : Int) + 1) = ((i + 1 : Nat) : Int) by unfold wrap64; omega]
    simp only [untF]
    have ih := ih k (i + 1) (u + un q.2.rune) (by omega) (by omega) (by omega) (by omega) (by omega)
    by_cases h3 : x ≥ u
    · rw [if_pos h3]
      by_cases h4 : x < u + un q.2.rune
      · rw [if_pos h4, if_pos ⟨h3, h4⟩]
      · rw [if_neg h4, if_neg (by omega)]
        exact ih
    · rw [if_neg h3, if_neg (by omega)]
      exact ih
theorem RUnit_l0 (s : ByteArray) (x : Int) (l : List (Int × Pc)) (hl : l.length ≤ 1000000000) : ∀ (n k i : Nat) (u : Int), l.length - i = n → i ≤ l.length → 0 ≤ u → u ≤ 2 * i → u ≤ x → n < k →
    posternref02_Unit.l0 k s x u (l.map toS33) (l.length : Int) (i : Int) = some (untF x s.size (l.drop i) u) := by
  intro n
  induction n with
  | zero =>
    intro k i u h1 h2 hu0 hu hx hk
    obtain ⟨k, rfl⟩ : ∃ m, k = m + 1 := ⟨k - 1, by omega⟩
    rw [List.drop_of_length_le (by omega)]
    simp only [posternref02_Unit.l0, untF]
    rw [if_neg (by omega)]
    by_cases h : x > u
    · rw [if_pos h, if_neg (by omega)]
    · rw [if_neg h, if_pos (by omega)]
  | succ n ih =>
    intro k i u h1 h2 hu0 hu hx hk
    obtain ⟨k, rfl⟩ : ∃ m, k = m + 1 := ⟨k - 1, by omega⟩
    rw [drop_pc l i (by omega)]
    generalize hg : l.getD i pc0 = q at *
    have hun := un_range q.2.rune
    simp only [posternref02_Unit.l0, rdR_map l i (by omega), hg, toS33, runits_is, Option.bind_some]
    rw [if_pos (by omega), if_pos (by omega), if_pos (by rw [List.length_map]; omega), show wrap64 (u + un q.2.rune) = u + un q.2.rune by unfold wrap64; omega, show wrap64 ((i : Int) + 1) = ((i + 1 : Nat) : Int) by unfold wrap64; omega]
    simp only [untF]
    by_cases h4 : x < u + un q.2.rune
    · rw [if_pos h4, if_pos ⟨hx, h4⟩]
    · rw [if_neg h4, if_neg (by omega)]
      exact ih k (i + 1) (u + un q.2.rune) (by omega) (by omega) (by omega) (by omega) (by omega) (by omega)
theorem untF_neg {x z : Int} (hx : x < 0) : ∀ (l : List (Int × Pc)) (n : Int), 0 ≤ n → untF x z l n = (0, 21) := by
  intro l
  induction l with
  | nil => intro n hn; simp only [untF]; rw [if_neg (by omega)]
  | cons q l ih =>
    intro n hn
    have hun := un_range q.2.rune
    simp only [untF]
    rw [if_neg (by omega)]
    exact ih _ (by omega)
theorem Unit_is (s : ByteArray) (x : Int) (hs : s.size ≤ 100000000) (k : Nat) (hk : s.size < k) : scalar_Unit.f k s x = some (untF x s.size (pcs s 0) 0) := by
  have F := fit s (by omega)
  have hFl := F.len
  unfold scalar_Unit.f scalar_Pieces.f
  rw [if_pos (by omega)]
  simp only [Option.bind_some, List.length_map]
  have := Unit_l0 s x (pcs s 0) (by omega) (pcs s 0).length k 0 0 (by omega) (by omega) (by omega) (by omega) (by omega)
  rw [List.drop_zero] at this
  exact this
theorem RUnit_is (s : ByteArray) (x : Int) (hs : s.size ≤ 100000000) (k : Nat) (hk : s.size < k) : posternref02_Unit.f k s x = some (untF x s.size (pcs s 0) 0) := by
  have F := fit s (by omega)
  have hFl := F.len
  unfold posternref02_Unit.f posternref02_Pieces.f
  by_cases h : x < 0
  · rw [if_pos h, untF_neg h _ _ (by omega)]
  · rw [if_neg h, if_pos (by omega)]
    simp only [Option.bind_some, List.length_map]
    have := RUnit_l0 s x (pcs s 0) (by omega) (pcs s 0).length k 0 0 (by omega) (by omega) (by omega) (by omega) (by omega) (by omega)
    rw [List.drop_zero] at this
    exact this
/-! ### how many -/
def unS (l : List (Int × Pc)) : Int := (l.map fun q => un q.2.rune).sum
theorem unS_cons (q : Int × Pc) (l : List (Int × Pc)) : unS (q :: l) = un q.2.rune + unS l := by simp [unS]
theorem unS_app (a b : List (Int × Pc)) : unS (a ++ b) = unS a + unS b := by simp [unS]
theorem unS_range (l : List (Int × Pc)) : 0 ≤ unS l ∧ unS l ≤ 2 * l.length := by
  induction l with
  | nil => simp [unS]
  | cons q l ih => rw [unS_cons, List.length_cons]; have := un_range q.2.rune; omega
theorem Count_l0 (l : List (Int × Pc)) (hl : l.length ≤ 1000000000) : ∀ (n k i : Nat) (p u : Int), l.length - i = n → i ≤ l.length → p = i → 0 ≤ u → u ≤ 2 * i → n < k →
    scalar_Count.l0 k p u (l.map toS32) (l.length : Int) (i : Int) = some ((l.length : Int), u + unS (l.drop i)) := by
  intro n
  induction n with
  | zero =>
    intro k i p u h1 h2 hp hu0 hu hk
    obtain ⟨k, rfl⟩ : ∃ m, k = m + 1 := ⟨k - 1, by omega⟩
    obtain rfl : i = l.length := by omega
    rw [List.drop_length]
    simp only [scalar_Count.l0]
    rw [if_neg (by omega), hp]
    simp [unS]
  | succ n ih =>
    intro k i p u h1 h2 hp hu0 hu hk
    obtain ⟨k, rfl⟩ : ∃ m, k = m + 1 := ⟨k - 1, by omega⟩
    rw [drop_pc l i (by omega), unS_cons]
    generalize hg : l.getD i pc0 = q at *
    have hun := un_range q.2.rune
    simp only [scalar_Count.l0, rdS_map l i (by omega), hg, toS32, units_is, Option.bind_some]
    rw [if_pos (by omega), if_pos (by omega), if_pos (by rw [List.length_map]; omega), show wrap64 (p + 1) = p + 1 by unfold wrap64; omega, show wrap64 (u + un q.2.rune) = u + un q.2.rune by unfold wrap64; omega, show wrap64 ((i : Int) + 1) = ((i + 1 : Nat) : Int) by unfold wrap64; omega]
    rw [ih k (i + 1) (p + 1) (u + un q.2.rune) (by omega) (by omega) (by omega) (by omega) (by omega) (by omega)]
    congr 2
    omega
theorem Count_is (s : ByteArray) (hs : s.size ≤ 100000000) (k : Nat) (hk : s.size < k) : scalar_Count.f k s = some (((pcs s 0).length : Int), unS (pcs s 0)) := by
  have F := fit s (by omega)
  have hFl := F.len
  unfold scalar_Count.f scalar_Pieces.f
  rw [if_pos (by omega)]
  simp only [Option.bind_some, List.length_map]
  have := Count_l0 (pcs s 0) (by omega) (pcs s 0).length k 0 0 0 (by omega) (by omega) (by omega) (by omega) (by omega) (by omega)
  rw [List.drop_zero, Int.zero_add] at this
  exact this
/-- ahead of a place that comes behind all of these -/
theorem posF_all (at_ f : Int) : ∀ (l r : List (Int × Pc)) (c p u : Int), (∀ q ∈ l, q.1 < at_) → ∃ c', posF at_ f (l ++ r) c p u = posF at_ f r c' (p + l.length) (u + unS l) ∧ c ≤ c' ∧ c' ≤ c + l.length := by
  intro l
  induction l with
  | nil => intro r c p u h; exact ⟨c, by simp [unS], by simp⟩
  | cons q l ih =>
    intro r c p u h
    have hq := h q (List.mem_cons_self ..)
    obtain ⟨c', h1, h2, h3⟩ := ih r (if f ≤ q.1 then c + 1 else c) (p + 1) (u + un q.2.rune) (fun x hx => h x (List.mem_cons_of_mem _ hx))
    refine ⟨c', ?_, ?_, ?_⟩
    · rw [List.cons_append]
      simp only [posF]
      rw [if_neg (by omega), h1, unS_cons, List.length_cons]
      congr 1
      · omega
      · omega
    · split at h2 <;> omega
    · rw [List.length_cons]; split at h3 <;> omega
theorem posF_end {at_ f c p u : Int} {l : List (Int × Pc)} (h : ∀ q ∈ l, at_ ≤ q.1) : posF at_ f l c p u = (c, p, u) := by
  cases l with
  | nil => rfl
  | cons q l => simp only [posF]; rw [if_pos (h q (List.mem_cons_self ..))]
theorem pos_lt (s : ByteArray) : ∀ q ∈ pcs s 0, q.1 < s.size := fun q hq => ((To.all s s.size 0 (by omega) (by omega) (by omega)).mem (by omega) q hq).2.1
theorem posA_end (s : ByteArray) : ∃ ln c, posA s s.size = (ln, c, ((pcs s 0).length : Int), unS (pcs s 0), 0) := by
  unfold posA
  rw [if_neg (by omega)]
  obtain ⟨c', h, _, _⟩ := posF_all (s.size : Int) (foldE (s.size : Int) (eps s) (0, 0)).2 (pcs s 0) [] 0 0 0 (pos_lt s)
  rw [List.append_nil] at h
  rw [h]
  exact ⟨(foldE (s.size : Int) (eps s) (0, 0)).1, c', by simp [posF]⟩
end Go.Proofs.YtgippjhkimohlaaDoor
