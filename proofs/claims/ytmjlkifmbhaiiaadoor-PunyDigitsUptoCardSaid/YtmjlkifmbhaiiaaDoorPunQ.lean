/- PunyDigits: what is left when the program is gone; the walk. -/
import Derived.Test.YtmjlkifmbhaiiaaDoorPunE
import Derived.Test.YtmjlkifmbhaiiaaDoorQPnx5
import Derived.Test.YtmjlkifmbhaiiaaDoorQPnx4
import Derived.Test.YtmjlkifmbhaiiaaDoorQPnx3
import Derived.Test.YtmjlkifmbhaiiaaDoorQPnx0
set_option linter.unusedVariables false
set_option linter.unusedSimpArgs false
namespace Go.Proofs.YtmjlkifmbhaiiaaDoor.V
open Go.RowKit Go.Proofs.YtmjlkifmbhaiiaaDoorW.PrintWords Go.Proofs.YtmjlkifmbhaiiaaDoorW.PrintLast Go.Proofs.YtmjlkifmbhaiiaaDoorQ.Pn
set_option maxRecDepth 100000 in
theorem awake_is : posternlaw14_awake.f 5000000010 = some true := by decide +kernel
theorem Digit_is (k : Nat) (hk : 2 ≤ k) (c : Int) (h0 : 0 ≤ c) (h1 : c ≤ 255) : puny_Digit.f k c = some (dgu c) := by
  obtain ⟨k, rfl⟩ : ∃ m, k = m + 2 := ⟨k - 2, by omega⟩
  unfold puny_Digit.f dgu
  by_cases a1 : 97 ≤ c
  · rw [if_pos a1]
    rw [puny_Digit.j0]
    by_cases a2 : c ≤ 122
    · rw [if_pos (decide_eq_true a2), if_pos ⟨a1, a2⟩]
      congr 1; omega
    · rw [if_neg (by simpa using a2), if_pos (by omega), if_neg (by omega), if_neg (by omega), if_neg (by omega)]
      rw [puny_Digit.j1]
      rw [if_neg (by simp; omega), if_pos (by omega), if_neg (by omega)]
  · rw [if_neg a1, puny_Digit.j0]
    simp only [Bool.false_eq_true, if_false]
    rw [if_neg (show ¬ (97 ≤ c ∧ c ≤ 122) by omega)]
    by_cases b1 : 65 ≤ c
    · rw [if_pos b1, puny_Digit.j1]
      by_cases b2 : c ≤ 90
      · rw [if_pos (decide_eq_true b2), if_pos (show 65 ≤ c ∧ c ≤ 90 from ⟨b1, b2⟩)]
        congr 1; omega
      · rw [if_neg (by simpa using b2), if_neg (show ¬ (65 ≤ c ∧ c ≤ 90) by omega), if_pos (show c ≥ 48 by omega), if_neg (show ¬ c ≤ 57 by omega), if_neg (show ¬ (48 ≤ c ∧ c ≤ 57) by omega)]
    · rw [if_neg b1, puny_Digit.j1]
      simp only [Bool.false_eq_true, if_false]
      rw [if_neg (show ¬ (65 ≤ c ∧ c ≤ 90) by omega)]
      by_cases c1 : 48 ≤ c
      · by_cases c2 : c ≤ 57
        · rw [if_pos c1, if_pos c2, if_pos (show 48 ≤ c ∧ c ≤ 57 from ⟨c1, c2⟩)]
          congr 1; omega
        · rw [if_pos c1, if_neg c2, if_neg (show ¬ (48 ≤ c ∧ c ≤ 57) by omega)]
      · rw [if_neg c1, if_neg (show ¬ (48 ≤ c ∧ c ≤ 57) by omega)]
theorem adp_l0 {p : Bt} (h : p.Ok) (n : Nat) : ∀ (k : Nat) (x1 x10 : Int), 0 ≤ x1 → x1.toNat ≤ n → n < k → x1 ≤ 4294967296 → 0 ≤ x10 → x10 + 36 * x1 ≤ 1099511627776 →
    puny_boot_adapted.l0 k x1 (p.base - p.least) x10 p.base p.least p.most p.skew p.damp p.bias p.first p.btw =
      some ((adpG p.base (p.base - p.least) ((p.base - p.least) * p.most / 2) x1 x10).2 + (p.base - p.least + 1) * (adpG p.base (p.base - p.least) ((p.base - p.least) * p.most / 2) x1 x10).1 / ((adpG p.base (p.base - p.least) ((p.base - p.least) * p.most / 2) x1 x10).1 + p.skew)) := by
  have b0 := h.base0
  have b1 := h.base1
  have l0 := h.least0
  have l1 := h.least1
  have m0 := h.most0
  have m1 := h.most1
  have s0 := h.skew0
  have s1 := h.skew1
  have hP0 : 0 ≤ (p.base - p.least) * p.most := Int.mul_nonneg (by omega) (by omega)
  have hP1 : (p.base - p.least) * p.most ≤ 36 * 36 := Int.mul_le_mul (by omega) (by omega) (by omega) (by omega)
  generalize hL : (p.base - p.least) * p.most = L at *
  induction n with
  | zero =>
    intro k x1 x10 hx hn hk hx1 h10 hs
    obtain rfl : x1 = 0 := by omega
    obtain ⟨k, rfl⟩ : ∃ m, k = m + 1 := ⟨k - 1, by omega⟩
    rw [adpG, dif_neg (by omega)]
    rw [puny_boot_adapted.l0]
    rw [hL, w64 L (by omega) (by omega), tdiv_pos L 2 hP0, w64 (L / 2) (by omega) (by omega), if_neg (by omega), w64 (0 + p.skew) (by omega) (by omega), if_neg (by omega), w64 (p.base - p.least + 1) (by omega) (by omega), Int.mul_zero, w64 0 (by omega) (by omega), tdiv_pos 0 _ (by omega), Int.zero_ediv, w64 0 (by omega) (by omega), w64 _ (by omega) (by omega)]
  | succ n ih =>
    intro k x1 x10 hx hn hk hx1 h10 hs
    obtain ⟨k, rfl⟩ : ∃ m, k = m + 1 := ⟨k - 1, by omega⟩
    rw [puny_boot_adapted.l0]
    rw [hL, w64 L (by omega) (by omega), tdiv_pos L 2 hP0, w64 (L / 2) (by omega) (by omega), w64 (x1 + p.skew) (by omega) (by omega), w64 (p.base - p.least + 1) (by omega) (by omega)]
    by_cases hc : x1 > L / 2
    · have hd : x1 / (p.base - p.least) < x1 := Int.ediv_lt_self_of_pos_of_ne_one (by omega) (by omega)
      have hd0 : 0 ≤ x1 / (p.base - p.least) := Int.ediv_nonneg hx (by omega)
      rw [if_pos hc, if_neg (by omega), tdiv_pos x1 _ hx, w64 (x1 / (p.base - p.least)) (by omega) (by omega), w64 (x10 + p.base) (by omega) (by omega)]
      rw [ih k _ _ hd0 (by omega) (by omega) (by omega) (by omega) (by omega)]
      conv => rhs; rw [adpG, dif_pos (by omega)]
    · have hm0 : 0 ≤ (p.base - p.least + 1) * x1 := Int.mul_nonneg (by omega) hx
      have hm1 : (p.base - p.least + 1) * x1 ≤ 37 * 4294967296 := Int.mul_le_mul (by omega) hx1 hx (by omega)
      rw [adpG, dif_neg (by omega)]
      simp only
      generalize (p.base - p.least + 1) * x1 = M at *
      have hq0 : 0 ≤ M / (x1 + p.skew) := Int.ediv_nonneg hm0 (by omega)
      have hq1 : M / (x1 + p.skew) ≤ M := Int.ediv_le_self _ hm0
      rw [if_neg hc, if_neg (by omega), w64 M (by omega) (by omega), tdiv_pos M _ hm0, w64 (M / (x1 + p.skew)) (by omega) (by omega), w64 _ (by omega) (by omega)]
theorem adapted_is {p : Bt} (h : p.Ok) (k : Nat) (hk : 5000000000 ≤ k) (delta pts : Int) (first : Bool) (h0 : 0 ≤ delta) (h1 : delta ≤ 2147483647) (hp : 1 ≤ pts) :
    puny_boot_adapted.f k p.base p.least p.most p.skew p.damp p.bias p.first p.btw delta pts first = some (adp p delta pts first) := by
  obtain ⟨k, rfl⟩ : ∃ m, k = m + 1 := ⟨k - 1, by omega⟩
  have d0 := h.damp0
  have b0 := h.base0
  have b1 := h.base1
  have l0 := h.least0
  have l1 := h.least1
  have m1 := h.most1
  obtain ⟨r0, r1, r2, r3⟩ := adpD_range h delta pts first h0 h1 hp
  have hj : puny_boot_adapted.j0 (k + 1) (if first = true then delta / p.damp else delta / 2) pts p.base p.least p.most p.skew p.damp p.bias p.first p.btw = some (adp p delta pts first) := by
    unfold adpD at r2 r3
    rw [puny_boot_adapted.j0]
    unfold adp adpD
    generalize (if first = true then delta / p.damp else delta / 2) = x at *
    have q0 : 0 ≤ x / pts := Int.ediv_nonneg r0 (by omega)
    have q1 : x / pts ≤ x := Int.ediv_le_self _ r0
    rw [if_neg (by omega), tdiv_pos x _ r0, w64 (x / pts) (by omega) (by omega), w64 (x + x / pts) (by omega) (by omega), w64 (p.base - p.least) (by omega) (by omega)]
    exact adp_l0 h _ k _ _ (by omega) (Nat.le_refl _) (by omega) (by omega) (by omega) (by omega)
  unfold puny_boot_adapted.f
  cases first with
  | true =>
    simp only [if_true] at hj r0 r1
    rw [if_pos rfl, if_neg (by omega), tdiv_pos _ _ h0, w64 _ (by omega) (by omega)]
    exact hj
  | false =>
    simp only [Bool.false_eq_true, if_false] at hj r0 r1
    rw [if_neg (by simp), tdiv_pos _ _ h0, w64 _ (by omega) (by omega)]
    exact hj
theorem dig_j1 (k : Nat) (c : Int) (b : Bool) : posternref14_Digit.j1 k c b = puny_Digit.j1 k c b := by
  cases k with
  | zero => rw [posternref14_Digit.j1, puny_Digit.j1]
  | succ k => rw [posternref14_Digit.j1, puny_Digit.j1]
theorem dig_j0 (k : Nat) (c : Int) (b : Bool) : posternref14_Digit.j0 k c b = puny_Digit.j0 k c b := by
  cases k with
  | zero => rw [posternref14_Digit.j0, puny_Digit.j0]
  | succ k => rw [posternref14_Digit.j0, puny_Digit.j0, dig_j1, dig_j1]
theorem RDigit_is (k : Nat) (hk : 2 ≤ k) (c : Int) (h0 : 0 ≤ c) (h1 : c ≤ 255) : posternref14_Digit.f k c = some (dgu c) := by
  rw [← Digit_is k hk c h0 h1]
  unfold posternref14_Digit.f puny_Digit.f
  rw [dig_j0, dig_j0]
theorem radp_l0 (n : Nat) : ∀ (k : Nat) (x1 x10 : Int), 0 ≤ x1 → x1.toNat ≤ n → n < k → x1 ≤ 4294967296 → 0 ≤ x10 → x10 + 36 * x1 ≤ 1099511627776 →
    posternref14_Adapt.l0 k x1 x10 = some ((adpG 36 35 455 x1 x10).2 + 36 * (adpG 36 35 455 x1 x10).1 / ((adpG 36 35 455 x1 x10).1 + 38)) := by
  induction n with
  | zero =>
    intro k x1 x10 hx hn hk hx1 h10 hs
    obtain rfl : x1 = 0 := by omega
    obtain ⟨k, rfl⟩ : ∃ m, k = m + 1 := ⟨k - 1, by omega⟩
    rw [adpG, dif_neg (by omega), posternref14_Adapt.l0, if_neg (by omega), w64 (0 + 38) (by omega) (by omega), if_neg (by omega), Int.mul_zero, w64 0 (by omega) (by omega), tdiv_pos 0 _ (by omega), Int.zero_ediv, w64 0 (by omega) (by omega), w64 _ (by omega) (by omega)]
  | succ n ih =>
    intro k x1 x10 hx hn hk hx1 h10 hs
    obtain ⟨k, rfl⟩ : ∃ m, k = m + 1 := ⟨k - 1, by omega⟩
    rw [posternref14_Adapt.l0, w64 (x1 + 38) (by omega) (by omega)]
    by_cases hc : x1 > 455
    · rw [if_pos hc, tdiv_pos x1 _ hx, w64 (x1 / 35) (by omega) (by omega), w64 (x10 + 36) (by omega) (by omega)]
      rw [ih k _ _ (by omega) (by omega) (by omega) (by omega) (by omega) (by omega)]
      conv => rhs; rw [adpG, dif_pos (by omega)]
    · rw [adpG, dif_neg (by omega)]
      simp only
      have hq0 : 0 ≤ 36 * x1 / (x1 + 38) := Int.ediv_nonneg (by omega) (by omega)
      have hq1 : 36 * x1 / (x1 + 38) ≤ 36 * x1 := Int.ediv_le_self _ (by omega)
      rw [if_neg hc, if_neg (by omega), w64 (36 * x1) (by omega) (by omega), tdiv_pos _ _ (by omega), w64 (36 * x1 / (x1 + 38)) (by omega) (by omega), w64 _ (by omega) (by omega)]
theorem RAdapt_is (k : Nat) (hk : 5000000000 ≤ k) (delta pts : Int) (first : Bool) (h0 : 0 ≤ delta) (h1 : delta ≤ 2147483647) (hp : 1 ≤ pts) : posternref14_Adapt.f k delta pts first = some (adp usual delta pts first) := by
  obtain ⟨k, rfl⟩ : ∃ m, k = m + 1 := ⟨k - 1, by omega⟩
  obtain ⟨r0, r1, r2, r3⟩ := adpD_range usual_ok delta pts first h0 h1 hp
  have hj : posternref14_Adapt.j0 (k + 1) (if first = true then delta / 700 else delta / 2) pts = some (adp usual delta pts first) := by
    have e1 : adp usual delta pts first = (adpG 36 35 455 (adpD usual delta pts first) 0).2 + 36 * (adpG 36 35 455 (adpD usual delta pts first) 0).1 / ((adpG 36 35 455 (adpD usual delta pts first) 0).1 + 38) := rfl
    rw [e1, ← radp_l0 _ k (adpD usual delta pts first) 0 r2 (Nat.le_refl _) (by omega) r3 (by omega) (by omega)]
    have e2 : adpD usual delta pts first = (if first = true then delta / 700 else delta / 2) + (if first = true then delta / 700 else delta / 2) / pts := rfl
    rw [e2] at r3 ⊢
    have e3 : (if first = true then delta / usual.damp else delta / 2) = (if first = true then delta / 700 else delta / 2) := rfl
    rw [e3] at r0 r1
    rw [posternref14_Adapt.j0]
    generalize (if first = true then delta / 700 else delta / 2) = x at *
    have q0 : 0 ≤ x / pts := Int.ediv_nonneg r0 (by omega)
    have q1 : x / pts ≤ x := Int.ediv_le_self _ r0
    rw [if_neg (by omega), tdiv_pos x _ r0, w64 (x / pts) (by omega) (by omega), w64 (x + x / pts) (by omega) (by omega)]
  unfold posternref14_Adapt.f
  cases first with
  | true =>
    simp only [if_true] at hj
    rw [if_pos rfl, tdiv_pos _ _ h0, w64 _ (by omega) (by omega)]
    exact hj
  | false =>
    simp only [Bool.false_eq_true, if_false] at hj
    rw [if_neg (by simp), tdiv_pos _ _ h0, w64 _ (by omega) (by omega)]
    exact hj
theorem letter_is (d : Int) (h0 : 0 ≤ d) (h1 : d ≤ 35) : puny_letter.f d = some (ltr d) ∧ posternref14_Letter.f d = some (ltr d) := by
  unfold puny_letter.f posternref14_Letter.f ltr
  by_cases h : d < 26
  · rw [if_pos h, w64 _ (by omega) (by omega)]
    constructor <;> congr 1 <;> omega
  · rw [if_neg h, w64 (48 + d) (by omega) (by omega), w64 _ (by omega) (by omega)]
    constructor <;> congr 1 <;> omega
theorem Adapt_is (K : Nat) (hK : 5000000001 ≤ K) (a b : Int) (f : Bool) : puny_Adapt.f K a b f = some (if a < 0 ∨ a > 2147483647 ∨ b < 1 ∨ b > 2147483647 then (0, 1) else (adp usual a b f, 0)) := by
  obtain ⟨K, rfl⟩ : ∃ m, K = m + 1 := ⟨K - 1, by omega⟩
  unfold puny_Adapt.f
  have hT : puny_Adapt.j0 (K + 1) a b f true = some (0, 1) := by rw [puny_Adapt.j0, if_pos rfl]
  by_cases h1 : a < 0
  · rw [if_pos h1, hT, if_pos (Or.inl h1)]
  rw [if_neg h1]
  by_cases h2 : a > 2147483647
  · rw [if_pos h2, hT, if_pos (Or.inr (Or.inl h2))]
  rw [if_neg h2]
  by_cases h3 : b < 1
  · rw [if_pos h3, hT, if_pos (Or.inr (Or.inr (Or.inl h3)))]
  rw [if_neg h3]
  by_cases h4 : b > 2147483647
  · rw [decide_eq_true h4, hT, if_pos (Or.inr (Or.inr (Or.inr h4)))]
  rw [decide_eq_false h4, puny_Adapt.j0, if_neg (by simp), if_neg (by omega)]
  have h := adapted_is usual_ok K (by omega) a b f (by omega) (by omega) (by omega)
  unfold puny_Usual.f
  simp only [Option.bind_some]
  have e : puny_boot_adapted.f K 36 1 26 38 700 72 128 45 a b f = some (adp usual a b f) := h
  rw [e]
  rfl
theorem digits_f (K m : Nat) (hK : K = m + 3) (hm : 5000000002 ≤ m) (haw : posternlaw14_awake.f K = some true) (c d a b : Int) (f : Bool) (hc0 : 0 ≤ c) (hc1 : c ≤ 255) : posternlaw14_PunyDigits.f K c d a b f = some true := by
  unfold posternlaw14_PunyDigits.f
  rw [haw, Digit_is K (by omega) c hc0 hc1, RDigit_is K (by omega) c hc0 hc1]
  simp only [Option.bind_some, if_true, bne_self_eq_false]
  have h2 : posternlaw14_PunyDigits.j2 (m + 1) a b f = some true := by
    rw [posternlaw14_PunyDigits.j2, Adapt_is m (by omega) a b f]
    simp only [Option.bind_some]
    by_cases h1 : a < 0
    · rw [if_pos h1, if_pos (Or.inl h1)]; rfl
    rw [if_neg h1]
    by_cases h2 : a > 2147483647
    · rw [if_pos h2, if_pos (Or.inr (Or.inl h2))]; rfl
    rw [if_neg h2]
    by_cases h3 : b < 1
    · rw [if_pos h3, if_pos (Or.inr (Or.inr (Or.inl h3)))]; rfl
    rw [if_neg h3]
    by_cases h4 : b > 2147483647
    · rw [if_pos h4, if_pos (Or.inr (Or.inr (Or.inr h4)))]; rfl
    rw [if_neg h4, RAdapt_is m (by omega) a b f (by omega) (by omega) (by omega), if_neg (by omega)]
    simp
  have h1 : ∀ x7 x8 : Int, (x7, x8) = (if d < 0 ∨ 36 ≤ d then (0, 1) else (ltr d, 0)) → posternlaw14_PunyDigits.j1 (m + 2) d x7 x8 (decide (d < 0 ∨ d > 35)) a b f = some true := by
    intro x7 x8 hx
    rw [posternlaw14_PunyDigits.j1, h2]
    by_cases h : d < 0 ∨ d > 35
    · rw [if_pos (by omega)] at hx
      cases hx
      rw [decide_eq_true h, if_pos rfl, if_pos rfl, if_pos rfl]
    · rw [if_neg (by omega)] at hx
      cases hx
      rw [decide_eq_false h, if_neg (by simp), (letter_is d (by omega) (by omega)).2]
      simp
  have hL : puny_Letter.f d = some (if d < 0 ∨ 36 ≤ d then (0, 1) else (ltr d, 0)) := by
    unfold puny_Letter.f puny_Usual.f
    by_cases g1 : d < 0
    · rw [if_pos g1, if_pos (Or.inl g1)]
    rw [if_neg g1]
    simp only [Option.bind_some]
    by_cases g2 : 36 ≤ d
    · rw [if_pos g2, if_pos (Or.inr g2)]
    · rw [if_neg (show ¬ d ≥ 36 from g2), (letter_is d (by omega) (by omega)).1, if_neg (by omega)]
      rfl
  rw [hK, posternlaw14_PunyDigits.j0, if_neg (by simp), hL]
  simp only [Option.bind_some]
  by_cases g1 : d < 0
  · rw [if_pos g1]
    have := h1 _ _ rfl
    rw [decide_eq_true (Or.inl g1)] at this
    exact this
  · rw [if_neg g1]
    have := h1 _ _ rfl
    rw [show decide (d < 0 ∨ d > 35) = decide (d > 35) by simp [g1]] at this
    exact this
theorem punyDigits_any (c d a b : Int) (f : Bool) (w : World) (hc0 : 0 ≤ c) (hc1 : c ≤ 255) (T : Tabs w) : Calls Tryd.prog 8 #[.int .u8 c, .int .i64 d, .agg #[.int .i64 a, .int .i64 b, .bool f]] w fun e w' => e = .returned (.bool true) ∧ Below w.heap.size w w' :=
  posternlaw14_PunyDigits.calls 5000000010 c d a b f true w (digits_f 5000000010 5000000007 rfl (by omega) awake_is c d a b f hc0 hc1) T
end Go.Proofs.YtmjlkifmbhaiiaaDoor.V
