/- Plain laws on sets of bytes as four words of 64 bits: nothing of the program. -/
import Derived.Test.YtjiapggmiddpdaaOctA
set_option linter.unusedVariables false
set_option linter.unusedSimpArgs false
namespace Go.Proofs.Ytjiapggmiddpdaa
open Go.RowKit Go.Proofs.YtjiapggmiddpdaaW.PrintWords Go.Proofs.YtjiapggmiddpdaaW.PrintLast
def U64 (x : Int) : Prop := 0 ≤ x ∧ x < 18446744073709551616
def Wf4 (x0 x1 x2 x3 : Int) : Prop := U64 x0 ∧ U64 x1 ∧ U64 x2 ∧ U64 x3
def inW (x : Int) (j : Nat) : Bool := x.toNat.testBit j
theorem and1_bit (x : Int) (j : Nat) (h : U64 x) : (bits BinOp.and IntKind.u64 (x / 2 ^ j) 1 == 1) = inW x j := by
  obtain ⟨n, rfl⟩ := Int.eq_ofNat_of_zero_le h.1
  have hn : n < 18446744073709551616 := by have := h.2; omega
  have hd : n / 2 ^ j ≤ n := Nat.div_le_self _ _
  have e : ((n : Int) / 2 ^ j) = ((n / 2 ^ j : Nat) : Int) := by
    rw [Int.natCast_ediv, Int.natCast_pow]; rfl
  rw [e, show (1 : Int) = ((1 : Nat) : Int) from rfl, bits_and_u64_nat _ _ (by omega) (by omega), Nat.and_one_is_mod]
  unfold inW
  rw [Int.toNat_natCast, Nat.testBit_eq_decide_div_mod_eq]
  rcases Nat.mod_two_eq_zero_or_one (n / 2 ^ j) with g | g <;> rw [g] <;> rfl
theorem inSet_word {x0 x1 x2 x3 : Int} (h : Wf4 x0 x1 x2 x3) (b : Int) (h0 : 0 ≤ b) (h1 : b < 256) : inSet [x0, x1, x2, x3] b = inW (rd [x0, x1, x2, x3] (b / 64)) (b % 64).toNat := by
  unfold inSet
  refine and1_bit _ _ ?_
  have : b / 64 = 0 ∨ b / 64 = 1 ∨ b / 64 = 2 ∨ b / 64 = 3 := by omega
  rcases this with e | e | e | e <;> rw [e]
  · exact h.1
  · exact h.2.1
  · exact h.2.2.1
  · exact h.2.2.2
theorem inW_ext {x y : Int} (hx : U64 x) (hy : U64 y) (h : ∀ j, j < 64 → inW x j = inW y j) : x = y := by
  have : x.toNat = y.toNat := by
    refine Nat.eq_of_testBit_eq fun j => ?_
    rcases Nat.lt_or_ge j 64 with hj | hj
    · exact h j hj
    · have p : (18446744073709551616 : Nat) ≤ 2 ^ j := by
        have : (2 : Nat) ^ 64 ≤ 2 ^ j := Nat.pow_le_pow_right (by omega) hj
        exact this
      rw [Nat.testBit_lt_two_pow (by have := hx.2; omega), Nat.testBit_lt_two_pow (by have := hy.2; omega)]
  have h1 := hx.1
  have h2 := hy.1
  omega
theorem rd4 (x0 x1 x2 x3 : Int) : rd [x0, x1, x2, x3] 0 = x0 ∧ rd [x0, x1, x2, x3] 1 = x1 ∧ rd [x0, x1, x2, x3] 2 = x2 ∧ rd [x0, x1, x2, x3] 3 = x3 := ⟨rfl, rfl, rfl, rfl⟩
theorem inSet_ext {x0 x1 x2 x3 y0 y1 y2 y3 : Int} (hx : Wf4 x0 x1 x2 x3) (hy : Wf4 y0 y1 y2 y3) (h : ∀ b, 0 ≤ b → b < 256 → inSet [x0, x1, x2, x3] b = inSet [y0, y1, y2, y3] b) : x0 = y0 ∧ x1 = y1 ∧ x2 = y2 ∧ x3 = y3 := by
  have key : ∀ (i : Int) (j : Nat), 0 ≤ i → i < 4 → j < 64 → inW (rd [x0, x1, x2, x3] i) j = inW (rd [y0, y1, y2, y3] i) j := fun i j h0 h1 hj => by
    have := h (64 * i + j) (by omega) (by omega)
    rw [inSet_word hx _ (by omega) (by omega), inSet_word hy _ (by omega) (by omega)] at this
    rw [show (64 * i + (j : Int)) / 64 = i by omega, show ((64 * i + (j : Int)) % 64).toNat = j by omega] at this
    exact this
  exact ⟨inW_ext hx.1 hy.1 fun j hj => key 0 j (by omega) (by omega) hj, inW_ext hx.2.1 hy.2.1 fun j hj => key 1 j (by omega) (by omega) hj,
    inW_ext hx.2.2.1 hy.2.2.1 fun j hj => key 2 j (by omega) (by omega) hj, inW_ext hx.2.2.2 hy.2.2.2 fun j hj => key 3 j (by omega) (by omega) hj⟩
/-! and, or, and-not of words -/
theorem nat_lt {x : Int} (h : U64 x) : x.toNat < 18446744073709551616 := by have := h.2; have := h.1; omega
theorem and_u64 {x y : Int} (hx : U64 x) (hy : U64 y) : bits .and .u64 x y = ((x.toNat &&& y.toNat : Nat) : Int) := u64_and x y hx.1 hx.2 hy.1 hy.2
theorem or_u64 {x y : Int} (hx : U64 x) (hy : U64 y) : bits .or .u64 x y = ((x.toNat ||| y.toNat : Nat) : Int) := u64_or x y hx.1 hx.2 hy.1 hy.2
theorem andNot_u64 {x y : Int} (hx : U64 x) (hy : U64 y) : bits .andNot .u64 x y = ((x.toNat &&& (18446744073709551615 - y.toNat) : Nat) : Int) := u64_andNot x y hx.1 hx.2 hy.1 hy.2
theorem U64.and {x y : Int} (hx : U64 x) (hy : U64 y) : U64 (bits .and .u64 x y) := by
  rw [and_u64 hx hy]
  have := Nat.and_le_left (n := x.toNat) (m := y.toNat)
  exact ⟨by omega, by have := nat_lt hx; omega⟩
theorem U64.or {x y : Int} (hx : U64 x) (hy : U64 y) : U64 (bits .or .u64 x y) := by
  rw [or_u64 hx hy]
  have : x.toNat ||| y.toNat < 2 ^ 64 := Nat.or_lt_two_pow (nat_lt hx) (nat_lt hy)
  exact ⟨by omega, by omega⟩
theorem U64.andNot {x y : Int} (hx : U64 x) (hy : U64 y) : U64 (bits .andNot .u64 x y) := by
  rw [andNot_u64 hx hy]
  have := Nat.and_le_left (n := x.toNat) (m := 18446744073709551615 - y.toNat)
  exact ⟨by omega, by have := nat_lt hx; omega⟩
theorem inW_and {x y : Int} (hx : U64 x) (hy : U64 y) (j : Nat) : inW (bits .and .u64 x y) j = (inW x j && inW y j) := by
  unfold inW; rw [and_u64 hx hy, Int.toNat_natCast, Nat.testBit_and]
theorem inW_or {x y : Int} (hx : U64 x) (hy : U64 y) (j : Nat) : inW (bits .or .u64 x y) j = (inW x j || inW y j) := by
  unfold inW; rw [or_u64 hx hy, Int.toNat_natCast, Nat.testBit_or]
theorem inW_andNot {x y : Int} (hx : U64 x) (hy : U64 y) (j : Nat) (hj : j < 64) : inW (bits .andNot .u64 x y) j = (inW x j && !inW y j) := by
  unfold inW; rw [andNot_u64 hx hy, Int.toNat_natCast, Nat.testBit_and]
  have := Nat.testBit_two_pow_sub_succ (n := 64) (x := y.toNat) (nat_lt hy) j
  rw [show (2 : Nat) ^ 64 - (y.toNat + 1) = 18446744073709551615 - y.toNat by have := nat_lt hy; omega] at this
  rw [this, decide_eq_true hj, Bool.true_and]
theorem inSet_op {x0 x1 x2 x3 y0 y1 y2 y3 : Int} {f : Int → Int → Int} {g : Bool → Bool → Bool} (hu : ∀ {x y}, U64 x → U64 y → U64 (f x y)) (hf : ∀ {x y}, U64 x → U64 y → ∀ j, j < 64 → inW (f x y) j = g (inW x j) (inW y j))
    (hx : Wf4 x0 x1 x2 x3) (hy : Wf4 y0 y1 y2 y3) (b : Int) (h0 : 0 ≤ b) (h1 : b < 256) :
    inSet [f x0 y0, f x1 y1, f x2 y2, f x3 y3] b = g (inSet [x0, x1, x2, x3] b) (inSet [y0, y1, y2, y3] b) := by
  have hz : Wf4 (f x0 y0) (f x1 y1) (f x2 y2) (f x3 y3) := ⟨hu hx.1 hy.1, hu hx.2.1 hy.2.1, hu hx.2.2.1 hy.2.2.1, hu hx.2.2.2 hy.2.2.2⟩
  rw [inSet_word hz b h0 h1, inSet_word hx b h0 h1, inSet_word hy b h0 h1]
  have : b / 64 = 0 ∨ b / 64 = 1 ∨ b / 64 = 2 ∨ b / 64 = 3 := by omega
  rcases this with e | e | e | e <;> rw [e]
  · exact hf hx.1 hy.1 _ (by omega)
  · exact hf hx.2.1 hy.2.1 _ (by omega)
  · exact hf hx.2.2.1 hy.2.2.1 _ (by omega)
  · exact hf hx.2.2.2 hy.2.2.2 _ (by omega)
theorem inSet_zero (b : Int) (h0 : 0 ≤ b) (h1 : b < 256) : inSet [0, 0, 0, 0] b = false := by
  have z : U64 0 := ⟨by omega, by omega⟩
  rw [inSet_word ⟨z, z, z, z⟩ b h0 h1]
  have : b / 64 = 0 ∨ b / 64 = 1 ∨ b / 64 = 2 ∨ b / 64 = 3 := by omega
  rcases this with e | e | e | e <;> rw [e] <;> exact Nat.zero_testBit _
/-! a bit more -/
theorem pow_U64 (j : Nat) (hj : j < 64) : U64 (2 ^ j) := by
  have h : (2 : Int) ^ j = ((2 ^ j : Nat) : Int) := by rw [Int.natCast_pow]; rfl
  have h2 : (2 : Nat) ^ j < 2 ^ 64 := Nat.pow_lt_pow_right (by omega) hj
  rw [h]
  generalize (2 : Nat) ^ j = m at h2
  exact ⟨by omega, by omega⟩
theorem inW_pow (j i : Nat) : inW (2 ^ j) i = decide (j = i) := by
  have h : (2 : Int) ^ j = ((2 ^ j : Nat) : Int) := by rw [Int.natCast_pow]; rfl
  unfold inW
  rw [h, Int.toNat_natCast, Nat.testBit_two_pow]
/-- the set with byte c more -/
def put4 (l : List Int) (c : Int) : List Int := l.set (c / 64).toNat (bits .or .u64 (rd l (c / 64)) (2 ^ (c % 64).toNat))
theorem put4_eq (x0 x1 x2 x3 c : Int) (h0 : 0 ≤ c) (h1 : c < 256) : ∃ y0 y1 y2 y3, put4 [x0, x1, x2, x3] c = [y0, y1, y2, y3] := by
  unfold put4
  have : c / 64 = 0 ∨ c / 64 = 1 ∨ c / 64 = 2 ∨ c / 64 = 3 := by omega
  rcases this with e | e | e | e <;> rw [e] <;> exact ⟨_, _, _, _, rfl⟩
theorem put4_spec {x0 x1 x2 x3 y0 y1 y2 y3 c : Int} (hx : Wf4 x0 x1 x2 x3) (h0 : 0 ≤ c) (h1 : c < 256) (hy : put4 [x0, x1, x2, x3] c = [y0, y1, y2, y3]) :
    Wf4 y0 y1 y2 y3 ∧ ∀ b, 0 ≤ b → b < 256 → inSet [y0, y1, y2, y3] b = (inSet [x0, x1, x2, x3] b || decide (b = c)) := by
  have hp : U64 (2 ^ (c % 64).toNat) := pow_U64 _ (by omega)
  have hc : c / 64 = 0 ∨ c / 64 = 1 ∨ c / 64 = 2 ∨ c / 64 = 3 := by omega
  have hw : Wf4 y0 y1 y2 y3 := by
    unfold put4 at hy
    rcases hc with e | e | e | e <;> rw [e] at hy <;> simp [rd] at hy <;> obtain ⟨rfl, rfl, rfl, rfl⟩ := hy
    · exact ⟨hx.1.or hp, hx.2.1, hx.2.2.1, hx.2.2.2⟩
    · exact ⟨hx.1, hx.2.1.or hp, hx.2.2.1, hx.2.2.2⟩
    · exact ⟨hx.1, hx.2.1, hx.2.2.1.or hp, hx.2.2.2⟩
    · exact ⟨hx.1, hx.2.1, hx.2.2.1, hx.2.2.2.or hp⟩
  refine ⟨hw, fun b hb0 hb1 => ?_⟩
  rw [inSet_word hw b hb0 hb1, inSet_word hx b hb0 hb1, ← hy]
  unfold put4
  rw [rd_set _ (c / 64) (b / 64) _ (by omega) (by simp; omega) (by omega)]
  by_cases e : b / 64 = c / 64
  · rw [if_pos e]
    have hu : U64 (rd [x0, x1, x2, x3] (c / 64)) := by
      rcases hc with e | e | e | e <;> rw [e]
      · exact hx.1
      · exact hx.2.1
      · exact hx.2.2.1
      · exact hx.2.2.2
    rw [inW_or hu hp, inW_pow, e]
    congr 1
    exact decide_eq_decide.2 ⟨fun h => by omega, fun h => by rw [h]⟩
  · rw [if_neg e, decide_eq_false (fun h => e (by rw [h])), Bool.or_false]
end Go.Proofs.Ytjiapggmiddpdaa
