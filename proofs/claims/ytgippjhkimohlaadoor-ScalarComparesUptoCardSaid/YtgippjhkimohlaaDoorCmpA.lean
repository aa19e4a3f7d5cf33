/- Scalar: the order on what texts say; what Escape says. Plain. -/
import Derived.Test.YtgippjhkimohlaaDoorQScbx0
import Derived.Test.YtgippjhkimohlaaDoorBldK
import Derived.Test.YtgippjhkimohlaaDoorWLast
import Derived.Test.YtgippjhkimohlaaDoorWMore
set_option linter.unusedVariables false
set_option linter.unusedSimpArgs false
namespace Go.Proofs.YtgippjhkimohlaaDoor
open Go.RowKit Go.Proofs.YtgippjhkimohlaaDoorW.PrintWords Go.Proofs.YtgippjhkimohlaaDoorW.PrintMore Go.Proofs.YtgippjhkimohlaaDoorQ.Scb
theorem scal_is {r : Int} {b : Bool} (h : b = true ↔ ((0 ≤ r ∧ r < 55296) ∨ (57343 < r ∧ r ≤ 1114111))) : scal r = b := by
  cases b with
  | true => exact (scal_iff r).2 (h.1 rfl)
  | false =>
    cases hs : scal r with
    | false => rfl
    | true => exact absurd (h.2 ((scal_iff r).1 hs)) (by simp)
theorem Scalar_is (r : Int) (k : Nat) (hk : 0 < k) : scalar_Scalar.f k r = some (scal r) := by
  obtain ⟨k, rfl⟩ : ∃ m, k = m + 1 := ⟨k - 1, by omega⟩
  unfold scalar_Scalar.f utf8_ValidRune.f
  by_cases h0 : 0 ≤ r
  · rw [if_pos h0]
    by_cases h1 : r < 55296
    · rw [scal_is (b := true) (by simp; omega)]
      simp [utf8_ValidRune.j0, h1]
    · by_cases h2 : 57343 < r
      · by_cases h3 : r ≤ 1114111
        · rw [scal_is (b := true) (by simp; omega)]
          simp [utf8_ValidRune.j0, h1, h2, h3]
        · rw [scal_is (b := false) (by simp; omega)]
          simp [utf8_ValidRune.j0, h1, h2, h3]
      · rw [scal_is (b := false) (by simp; omega)]
        simp [utf8_ValidRune.j0, h1, h2]
  · rw [if_neg h0, scal_is (b := false) (by simp; omega)]
    have h2 : ¬ 57343 < r := by omega
    simp [utf8_ValidRune.j0, h2]
/-- m is the place of the first number that is no scalar value, or the list's length -/
structure StopAt (l : List Int) (m : Nat) : Prop where
  le : m ≤ l.length
  ok : ∀ r ∈ l.take m, scal r = true
  stop : m < l.length → scal (rd l m) = false
theorem StopAt.at_ {l : List Int} {m : Nat} (h : StopAt l m) (i : Nat) (hi : i < m) : scal (rd l i) = true := by
  have := h.le
  refine h.ok _ ?_
  have e : rd l i = (l.take m)[i]'(by rw [List.length_take]; omega) := by simp [rd, List.getD_eq_getElem?_getD, List.getElem?_eq_getElem (show i < l.length by omega)]
  rw [e]
  exact List.getElem_mem _
theorem StopAt.full {l : List Int} (h : ∀ r ∈ l, scal r = true) : StopAt l l.length := ⟨Nat.le_refl _, fun r hr => h r (by rw [List.take_length] at hr; exact hr), fun h => by omega⟩
theorem u16_in (x : Int) (h : 0 ≤ x ∧ x ≤ 65535) : IntKind.u16.wrap x = x := by
  simp [IntKind.wrap, IntKind.bits, IntKind.signed]
  omega
theorem and1023 (x : Int) (h0 : 0 ≤ x) (h1 : x < 2147483648) : Go.bits .and .i32 x 1023 = x % 1024 := bits_mask .i32 31 (by decide) wraps_i32 10 (by decide) x h0 h1
theorem untL_take_len (l : List Int) (i : Nat) : (untL (l.take i)).length ≤ 2 * i := by
  have := untL_len (l.take i)
  have := List.length_take_le i l
  omega
/-- what Units tells, by the place of the first number that is no scalar value -/
def untA (l : List Int) (m : Nat) : List Int × Int × Int := if m = l.length then (untL l, 0, 0) else ([], (m : Int), 20)
theorem Units_l0 (l : List Int) (m : Nat) (hm : StopAt l m) (hl : l.length ≤ 9000000000000) : ∀ (n k i : Nat), m - i = n → i ≤ m → n + 2 < k → scalar_Units.l0 k (untL (l.take i)) l (l.length : Int) (i : Int) = some (untA l m) := by
  intro n
  have hle := hm.le
  induction n with
  | zero =>
    intro k i h1 h2 hk
    obtain ⟨k, rfl⟩ : ∃ m, k = m + 1 := ⟨k - 1, by omega⟩
    obtain rfl : i = m := by omega
    simp only [scalar_Units.l0]
    unfold untA
    by_cases he : i = l.length
    · rw [if_neg (by omega), if_pos he, he, List.take_length]
    · have hs := hm.stop (by omega)
      rw [if_pos (by omega), if_pos (by omega), if_pos (by omega), Scalar_is _ k (by omega), hs, if_neg he]
      rfl
  | succ n ih =>
    intro k i h1 h2 hk
    obtain ⟨k, rfl⟩ : ∃ m, k = m + 1 := ⟨k - 1, by omega⟩
    have hs := hm.at_ i (by omega)
    have ht := take_rd l i (by omega)
    have hlen := untL_take_len l i
    have ih := ih k (i + 1) (by omega) (by omega) (by omega)
    rw [ht, untL_app, untL_one] at ih
    simp only [scalar_Units.l0]
    rw [if_pos (by omega), if_pos (by omega), if_pos (by omega), Scalar_is _ k (by omega), hs]
    have hr := (scal_iff _).1 hs
    generalize rd l (i : Int) = r at *
    simp only [Option.bind_some, if_true]
    rw [show wrap64 ((i : Int) + 1) = ((i + 1 : Nat) : Int) by unfold wrap64; omega]
    unfold untB at ih
    by_cases hp : r < 65536
    · rw [if_pos hp] at ih ⊢
      rw [if_pos (by omega), u16_in r (by omega)]
      exact ih
    · rw [if_neg hp] at ih ⊢
      rw [show wrap32 (r - 65536) = r - 65536 by unfold wrap32; omega, and1023 _ (by omega) (by omega), show wrap32 (55296 + (r - 65536) / 1024) = 55296 + (r - 65536) / 1024 by unfold wrap32; omega, show wrap32 (56320 + (r - 65536) % 1024) = 56320 + (r - 65536) % 1024 by unfold wrap32; omega, u16_in _ (by omega), u16_in _ (by omega), if_pos (by simp only [List.length_cons, List.length_nil]; omega)]
      exact ih
theorem Units_is (l : List Int) (m : Nat) (hm : StopAt l m) (hl : l.length ≤ 9000000000000) (k : Nat) (hk : l.length + 2 < k) : scalar_Units.f k l = some (untA l m) := by
  unfold scalar_Units.f
  exact Units_l0 l m hm hl m k 0 (by omega) (by omega) (by have := hm.le; omega)
theorem Units_all (l : List Int) (h : ∀ r ∈ l, scal r = true) (hl : l.length ≤ 9000000000000) : scalar_Units.f 9000000000003 l = some (untL l, 0, 0) := by
  rw [Units_is l l.length (StopAt.full h) hl _ (by omega)]
  unfold untA
  rw [if_pos rfl]
/-- which of two lists of numbers is less -/
def cmpL : List Int → List Int → Int
  | [], [] => 0
  | [], _ :: _ => -1
  | _ :: _, [] => 1
  | x :: l, y :: m => if x < y then -1 else if x > y then 1 else cmpL l m
theorem cmp16_is (a b : Int) : cmp_Compare_uint16.f a b = some (if a < b then -1 else if a > b then 1 else 0) := by
  unfold cmp_Compare_uint16.f cmp_isNaN_uint16.f
  simp
  repeat' split
  all_goals rfl
theorem cmpI_is (a b : Int) : cmp_Compare_int.f a b = some (if a < b then -1 else if a > b then 1 else 0) := by
  unfold cmp_Compare_int.f cmp_isNaN_int.f
  simp
  repeat' split
  all_goals rfl
theorem cmpL_end {l m : List Int} (h : l = [] ∨ m = []) : cmpL l m = if (l.length : Int) < m.length then -1 else if (l.length : Int) > m.length then 1 else 0 := by
  rcases h with rfl | rfl
  · cases m with
    | nil => rfl
    | cons y m => simp [cmpL]
  · cases l with
    | nil => rfl
    | cons x l =>
      simp only [cmpL, List.length_cons, List.length_nil]
      rw [if_neg (by omega), if_pos (by omega)]
theorem cmpL_drop (X Y : List Int) (k : Nat) (hx : k < X.length) (hy : k < Y.length) : cmpL (X.drop k) (Y.drop k) = if rd X k < rd Y k then -1 else if rd X k > rd Y k then 1 else cmpL (X.drop (k + 1)) (Y.drop (k + 1)) := by
  rw [drop_rd X k hx, drop_rd Y k hy]
  rfl
attribute [local go_sem] min_two
theorem cmpL_anti : ∀ a b : List Int, cmpL b a = -cmpL a b
  | [], [] => rfl
  | [], _ :: _ => rfl
  | _ :: _, [] => rfl
  | x :: a, y :: b => by
    rw [cmpL, cmpL, cmpL_anti a b]
    by_cases h1 : x < y
    · rw [if_neg (by omega), if_pos h1, if_pos h1]; rfl
    · by_cases h2 : x > y
      · rw [if_pos h2, if_neg h1, if_pos h2]
      · rw [if_neg h2, if_neg h1, if_neg h1, if_neg h2]
theorem cmpL_zero : ∀ a b : List Int, cmpL a b = 0 ↔ a = b
  | [], [] => by simp [cmpL]
  | [], _ :: _ => by simp [cmpL]
  | _ :: _, [] => by simp [cmpL]
  | x :: a, y :: b => by
    have ih := cmpL_zero a b
    rw [cmpL, List.cons.injEq]
    by_cases h1 : x < y
    · rw [if_pos h1]; exact ⟨fun e => by omega, fun e => by omega⟩
    · rw [if_neg h1]
      by_cases h2 : x > y
      · rw [if_pos h2]; exact ⟨fun e => by omega, fun e => by omega⟩
      · rw [if_neg h2, ih]
        exact ⟨fun e => ⟨by omega, e⟩, fun e => e.2⟩
theorem cmpL_rng : ∀ a b : List Int, cmpL a b = -1 ∨ cmpL a b = 0 ∨ cmpL a b = 1
  | [], [] => by simp [cmpL]
  | [], _ :: _ => by simp [cmpL]
  | _ :: _, [] => by simp [cmpL]
  | x :: a, y :: b => by
    have ih := cmpL_rng a b
    rw [cmpL]
    split
    · exact Or.inl rfl
    · split
      · exact Or.inr (Or.inr rfl)
      · exact ih
theorem cmpL_trans : ∀ a b c : List Int, cmpL a b = cmpL b c → cmpL a c = cmpL a b
  | [], [], [], _ => rfl
  | [], [], _ :: _, h => by simp [cmpL] at h
  | [], _ :: _, [], h => by simp [cmpL] at h
  | [], _ :: _, _ :: _, _ => rfl
  | _ :: _, [], [], h => by simp [cmpL] at h
  | _ :: _, [], _ :: _, h => by simp [cmpL] at h
  | x :: a, y :: b, [], h => by
    rw [h]
    rfl
  | x :: a, y :: b, z :: c, h => by
    have ih := cmpL_trans a b c
    have r1 := cmpL_rng a b
    have r2 := cmpL_rng b c
    rw [cmpL, cmpL] at h
    rw [cmpL, cmpL]
    by_cases h1 : x < y
    · rw [if_pos h1] at h ⊢
      by_cases h2 : y < z
      · rw [if_pos (by omega)]
      · rw [if_neg h2] at h
        by_cases h3 : y > z
        · rw [if_pos h3] at h; omega
        · rw [if_pos (by omega)]
    · rw [if_neg h1] at h ⊢
      by_cases h4 : x > y
      · rw [if_pos h4] at h ⊢
        by_cases h2 : y < z
        · rw [if_pos h2] at h; omega
        · rw [if_neg (by omega), if_pos (by omega)]
      · rw [if_neg h4] at h ⊢
        by_cases h2 : y < z
        · rw [if_pos h2] at h
          rw [if_pos (by omega)]; omega
        · rw [if_neg h2] at h
          rw [if_neg (by omega)]
          by_cases h3 : y > z
          · rw [if_pos h3] at h
            rw [if_pos (by omega)]; omega
          · rw [if_neg h3] at h
            rw [if_neg (by omega)]
            exact ih h
/-- lists of scalar values with the same units are the same -/
theorem untL_inj : ∀ l m : List Int, (∀ r ∈ l, scal r = true) → (∀ r ∈ m, scal r = true) → untL l = untL m → l = m
  | [], [], _, _, _ => rfl
  | [], r :: m, _, _, h => by
    have := untB_len r
    have e := congrArg List.length h
    rw [untL_cons, List.length_append, untL_nil, List.length_nil] at e
    omega
  | r :: l, [], _, _, h => by
    have := untB_len r
    have e := congrArg List.length h
    rw [untL_cons, List.length_append, untL_nil, List.length_nil] at e
    omega
  | r :: l, q :: m, hl, hm, h => by
    have h1 := (scal_iff r).1 (hl r (List.mem_cons_self ..))
    have h2 := (scal_iff q).1 (hm q (List.mem_cons_self ..))
    have ih := untL_inj l m (fun x hx => hl x (List.mem_cons_of_mem _ hx)) (fun x hx => hm x (List.mem_cons_of_mem _ hx))
    rw [untL_cons, untL_cons] at h
    unfold untB at h
    by_cases c1 : r < 65536
    · rw [if_pos c1] at h
      by_cases c2 : q < 65536
      · rw [if_pos c2] at h
        simp only [List.cons_append, List.nil_append, List.cons.injEq] at h
        rw [h.1, ih h.2]
      · rw [if_neg c2] at h
        simp only [List.cons_append, List.nil_append, List.cons.injEq] at h
        omega
    · rw [if_neg c1] at h
      by_cases c2 : q < 65536
      · rw [if_pos c2] at h
        simp only [List.cons_append, List.nil_append, List.cons.injEq] at h
        omega
      · rw [if_neg c2] at h
        simp only [List.cons_append, List.nil_append, List.cons.injEq] at h
        rw [show r = q by omega, ih h.2.2]
def hexT : ByteArray := ⟨#[48, 49, 50, 51, 52, 53, 54, 55, 56, 57, 97, 98, 99, 100, 101, 102]⟩
/-- a unit in ASCII -/
def escU (u : Int) : List Int := [92, 117, bt hexT (u / 4096), bt hexT (u / 256 % 16), bt hexT (u / 16 % 16), bt hexT (u % 16)]
/-- a code point in ASCII -/
def escB (r : Int) : List Int := if 32 ≤ r ∧ r ≤ 126 ∧ r ≠ 92 then [r] else (untB r).flatMap escU
def escL (l : List Int) : List Int := l.flatMap escB
theorem escL_snoc (l : List Int) (r : Int) : escL (l ++ [r]) = escL l ++ escB r := by unfold escL; rw [List.flatMap_append]; simp
theorem escB_len (r : Int) : (escB r).length ≤ 12 := by
  unfold escB untB
  split
  · simp
  · split <;> simp [escU]
theorem escL_len : ∀ l : List Int, (escL l).length ≤ 12 * l.length
  | [] => by simp [escL]
  | r :: l => by
    have h1 := escL_len l
    have h2 := escB_len r
    unfold escL at h1 ⊢
    rw [List.flatMap_cons, List.length_append, List.length_cons]
    omega
theorem hex_rng (i : Int) : 0 ≤ bt hexT i ∧ bt hexT i ≤ 255 := bt_range _ _
theorem escL_rng (l : List Int) : ∀ x ∈ escL l, 0 ≤ x ∧ x ≤ 255 := by
  intro x hx
  unfold escL at hx
  obtain ⟨r, -, hr⟩ := List.mem_flatMap.1 hx
  unfold escB at hr
  split at hr
  · rename_i h
    rw [List.mem_singleton.1 hr]
    omega
  · obtain ⟨u, -, hu⟩ := List.mem_flatMap.1 hr
    unfold escU at hu
    have h1 := hex_rng (u / 4096)
    have h2 := hex_rng (u / 256 % 16)
    have h3 := hex_rng (u / 16 % 16)
    have h4 := hex_rng (u % 16)
    simp only [List.mem_cons, List.not_mem_nil, or_false] at hu
    omega
end Go.Proofs.YtgippjhkimohlaaDoor
