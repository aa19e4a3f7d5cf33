/- Puny: small functions of the document. Puny: the document's Decode is mine. Puny: both encoders are mine. Puny: both encoders are mine: one way over the code points. Puny: both encoders are mine: all rounds. Puny: both encoders are mine; PunyDecodes and PunyEncodes without the program. Puny: what is encoded is decoded again. Plain. Puny: great letters are read as small ones. Plain. -/
import Derived.Test.YtmjlkifmbhaiiaaDoorPunE
import Derived.Test.YtmjlkifmbhaiiaaDoorQPtx4
import Derived.Test.YtmjlkifmbhaiiaaDoorQPtx6
import Derived.Test.YtmjlkifmbhaiiaaDoorQPtx0
import Derived.Test.YtmjlkifmbhaiiaaDoorPunJ
import Derived.Test.YtmjlkifmbhaiiaaDoorQPtx5
import Derived.Test.YtmjlkifmbhaiiaaDoorQPtx3
import Derived.Test.YtmjlkifmbhaiiaaDoorQPtx7
import Derived.Test.YtmjlkifmbhaiiaaDoorQPtx2
import Derived.Test.YtmjlkifmbhaiiaaDoorQPtx1
set_option linter.unusedVariables false
set_option linter.unusedSimpArgs false
namespace Go.Proofs.YtmjlkifmbhaiiaaDoor.V
open Go.RowKit Go.Proofs.YtmjlkifmbhaiiaaDoorW.PrintWords Go.Proofs.YtmjlkifmbhaiiaaDoorW.PrintLast Go.Proofs.YtmjlkifmbhaiiaaDoorQ.Pt
theorem adp_l0 {p : Bt} (h : p.Ok) (n : Nat) : ∀ (k : Nat) (x1 x10 : Int), 0 ≤ x1 → x1.toNat ≤ n → n < k → x1 ≤ 4294967296 → 0 ≤ x10 → x10 + 36 * x1 ≤ 1099511627776 →
    puny_boot_adapted.l0 k x1 (p.base - p.least) x10 p.base p.least p.most p.skew p.damp p.bias p.first p.btw =
      some ((adpG p.base (p.base - p.least) ((p.base - p.least) * p.most / 2) x1 x10).2 + (p.base - p.least + 1) * (adpG p.base (p.base - p.least) ((p.base - p.least) * p.most / 2) x1 x10).1 / ((adpG p.base (p.base - p.least) ((p.base - p.least) * p.most / 2) x1 x10).1 + p.skew)) := by
  have b0 := h.base0
  have b1 := h.base1
  have l0 := h.least0
  have l1 := h.least1
  have m0 := h.most0
  have m1 := h.most1
  have s0 := h.skew0
  have s1 := h.skew1
  have hP0 : 0 ≤ (p.base - p.least) * p.most := Int.mul_nonneg (by omega) (by omega)
  have hP1 : (p.base - p.least) * p.most ≤ 36 * 36 := Int.mul_le_mul (by omega) (by omega) (by omega) (by omega)
  generalize hL : (p.base - p.least) * p.most = L at *
  induction n with
  | zero =>
    intro k x1 x10 hx hn hk hx1 h10 hs
    obtain rfl : x1 = 0 := by omega
    obtain ⟨k, rfl⟩ : ∃ m, k = m + 1 := ⟨k - 1, by omega⟩
    rw [adpG, dif_neg (by omega)]
    rw [puny_boot_adapted.l0]
    rw [hL, w64 L (by omega) (by omega), tdiv_pos L 2 hP0, w64 (L / 2) (by omega) (by omega), if_neg (by omega), w64 (0 + p.skew) (by omega) (by omega), if_neg (by omega), w64 (p.base - p.least + 1) (by omega) (by omega), Int.mul_zero, w64 0 (by omega) (by omega), tdiv_pos 0 _ (by omega), Int.zero_ediv, w64 0 (by omega) (by omega), w64 _ (by omega) (by omega)]
  | succ n ih =>
    intro k x1 x10 hx hn hk hx1 h10 hs
    obtain ⟨k, rfl⟩ : ∃ m, k = m + 1 := ⟨k - 1, by omega⟩
    rw [puny_boot_adapted.l0]
    rw [hL, w64 L (by omega) (by omega), tdiv_pos L 2 hP0, w64 (L / 2) (by omega) (by omega), w64 (x1 + p.skew) (by omega) (by omega), w64 (p.base - p.least + 1) (by omega) (by omega)]
    by_cases hc : x1 > L / 2
    · have hd : x1 / (p.base - p.least) < x1 := Int.ediv_lt_self_of_pos_of_ne_one (by omega) (by omega)
      have hd0 : 0 ≤ x1 / (p.base - p.least) := Int.ediv_nonneg hx (by omega)
      rw [if_pos hc, if_neg (by omega), tdiv_pos x1 _ hx, w64 (x1 / (p.base - p.least)) (by omega) (by omega), w64 (x10 + p.base) (by omega) (by omega)]
      rw [ih k _ _ hd0 (by omega) (by omega) (by omega) (by omega) (by omega)]
      conv => rhs; rw [adpG, dif_pos (by omega)]
    · have hm0 : 0 ≤ (p.base - p.least + 1) * x1 := Int.mul_nonneg (by omega) hx
      have hm1 : (p.base - p.least + 1) * x1 ≤ 37 * 4294967296 := Int.mul_le_mul (by omega) hx1 hx (by omega)
      rw [adpG, dif_neg (by omega)]
      simp only
      generalize (p.base - p.least + 1) * x1 = M at *
      have hq0 : 0 ≤ M / (x1 + p.skew) := Int.ediv_nonneg hm0 (by omega)
      have hq1 : M / (x1 + p.skew) ≤ M := Int.ediv_le_self _ hm0
      rw [if_neg hc, if_neg (by omega), w64 M (by omega) (by omega), tdiv_pos M _ hm0, w64 (M / (x1 + p.skew)) (by omega) (by omega), w64 _ (by omega) (by omega)]
theorem adapted_is {p : Bt} (h : p.Ok) (k : Nat) (hk : 5000000000 ≤ k) (delta pts : Int) (first : Bool) (h0 : 0 ≤ delta) (h1 : delta ≤ 2147483647) (hp : 1 ≤ pts) :
    puny_boot_adapted.f k p.base p.least p.most p.skew p.damp p.bias p.first p.btw delta pts first = some (adp p delta pts first) := by
  obtain ⟨k, rfl⟩ : ∃ m, k = m + 1 := ⟨k - 1, by omega⟩
  have d0 := h.damp0
  have b0 := h.base0
  have b1 := h.base1
  have l0 := h.least0
  have l1 := h.least1
  have m1 := h.most1
  obtain ⟨r0, r1, r2, r3⟩ := adpD_range h delta pts first h0 h1 hp
  have hj : puny_boot_adapted.j0 (k + 1) (if first = true then delta / p.damp else delta / 2) pts p.base p.least p.most p.skew p.damp p.bias p.first p.btw = some (adp p delta pts first) := by
    unfold adpD at r2 r3
    rw [puny_boot_adapted.j0]
    unfold adp adpD
    generalize (if first = true then delta / p.damp else delta / 2) = x at *
    have q0 : 0 ≤ x / pts := Int.ediv_nonneg r0 (by omega)
    have q1 : x / pts ≤ x := Int.ediv_le_self _ r0
    rw [if_neg (by omega), tdiv_pos x _ r0, w64 (x / pts) (by omega) (by omega), w64 (x + x / pts) (by omega) (by omega), w64 (p.base - p.least) (by omega) (by omega)]
    exact adp_l0 h _ k _ _ (by omega) (Nat.le_refl _) (by omega) (by omega) (by omega) (by omega)
  unfold puny_boot_adapted.f
  cases first with
  | true =>
    simp only [if_true] at hj r0 r1
    rw [if_pos rfl, if_neg (by omega), tdiv_pos _ _ h0, w64 _ (by omega) (by omega)]
    exact hj
  | false =>
    simp only [Bool.false_eq_true, if_false] at hj r0 r1
    rw [if_neg (by simp), tdiv_pos _ _ h0, w64 _ (by omega) (by omega)]
    exact hj
theorem RDigit_is (k : Nat) (hk : 2 ≤ k) (c : Int) (h0 : 0 ≤ c) (h1 : c ≤ 255) : posternref14_Digit.f k c = some (dgu c) := by
  obtain ⟨k, rfl⟩ : ∃ m, k = m + 2 := ⟨k - 2, by omega⟩
  unfold posternref14_Digit.f dgu
  by_cases a1 : 97 ≤ c
  · rw [if_pos a1]
    rw [posternref14_Digit.j0]
    by_cases a2 : c ≤ 122
    · rw [if_pos (decide_eq_true a2), if_pos ⟨a1, a2⟩]
      congr 1; omega
    · rw [if_neg (by simpa using a2), if_pos (by omega), if_neg (by omega), if_neg (by omega), if_neg (by omega)]
      rw [posternref14_Digit.j1]
      rw [if_neg (by simp; omega), if_pos (by omega), if_neg (by omega)]
  · rw [if_neg a1, posternref14_Digit.j0]
    simp only [Bool.false_eq_true, if_false]
    rw [if_neg (show ¬ (97 ≤ c ∧ c ≤ 122) by omega)]
    by_cases b1 : 65 ≤ c
    · rw [if_pos b1, posternref14_Digit.j1]
      by_cases b2 : c ≤ 90
      · rw [if_pos (decide_eq_true b2), if_pos (show 65 ≤ c ∧ c ≤ 90 from ⟨b1, b2⟩)]
        congr 1; omega
      · rw [if_neg (by simpa using b2), if_neg (show ¬ (65 ≤ c ∧ c ≤ 90) by omega), if_pos (show c ≥ 48 by omega), if_neg (show ¬ c ≤ 57 by omega), if_neg (show ¬ (48 ≤ c ∧ c ≤ 57) by omega)]
    · rw [if_neg b1, posternref14_Digit.j1]
      simp only [Bool.false_eq_true, if_false]
      rw [if_neg (show ¬ (65 ≤ c ∧ c ≤ 90) by omega)]
      by_cases c1 : 48 ≤ c
      · by_cases c2 : c ≤ 57
        · rw [if_pos c1, if_pos c2, if_pos (show 48 ≤ c ∧ c ≤ 57 from ⟨c1, c2⟩)]
          congr 1; omega
        · rw [if_pos c1, if_neg c2, if_neg (show ¬ (48 ≤ c ∧ c ≤ 57) by omega)]
      · rw [if_neg c1, if_neg (show ¬ (48 ≤ c ∧ c ≤ 57) by omega)]
theorem radp_l0 (n : Nat) : ∀ (k : Nat) (x1 x10 : Int), 0 ≤ x1 → x1.toNat ≤ n → n < k → x1 ≤ 4294967296 → 0 ≤ x10 → x10 + 36 * x1 ≤ 1099511627776 →
    posternref14_Adapt.l0 k x1 x10 = some ((adpG 36 35 455 x1 x10).2 + 36 * (adpG 36 35 455 x1 x10).1 / ((adpG 36 35 455 x1 x10).1 + 38)) := by
  induction n with
  | zero =>
    intro k x1 x10 hx hn hk hx1 h10 hs
    obtain rfl : x1 = 0 := by omega
    obtain ⟨k, rfl⟩ : ∃ m, k = m + 1 := ⟨k - 1, by omega⟩
    rw [adpG, dif_neg (by omega), posternref14_Adapt.l0, if_neg (by omega), w64 (0 + 38) (by omega) (by omega), if_neg (by omega), Int.mul_zero, w64 0 (by omega) (by omega), tdiv_pos 0 _ (by omega), Int.zero_ediv, w64 0 (by omega) (by omega), w64 _ (by omega) (by omega)]
  | succ n ih =>
    intro k x1 x10 hx hn hk hx1 h10 hs
    obtain ⟨k, rfl⟩ : ∃ m, k = m + 1 := ⟨k - 1, by omega⟩
    rw [posternref14_Adapt.l0, w64 (x1 + 38) (by omega) (by omega)]
    by_cases hc : x1 > 455
    · rw [if_pos hc, tdiv_pos x1 _ hx, w64 (x1 / 35) (by omega) (by omega), w64 (x10 + 36) (by omega) (by omega)]
      rw [ih k _ _ (by omega) (by omega) (by omega) (by omega) (by omega) (by omega)]
      conv => rhs; rw [adpG, dif_pos (by omega)]
    · rw [adpG, dif_neg (by omega)]
      simp only
      have hq0 : 0 ≤ 36 * x1 / (x1 + 38) := Int.ediv_nonneg (by omega) (by omega)
      have hq1 : 36 * x1 / (x1 + 38) ≤ 36 * x1 := Int.ediv_le_self _ (by omega)
      rw [if_neg hc, if_neg (by omega), w64 (36 * x1) (by omega) (by omega), tdiv_pos _ _ (by omega), w64 (36 * x1 / (x1 + 38)) (by omega) (by omega), w64 _ (by omega) (by omega)]
theorem RAdapt_is (k : Nat) (hk : 5000000000 ≤ k) (delta pts : Int) (first : Bool) (h0 : 0 ≤ delta) (h1 : delta ≤ 2147483647) (hp : 1 ≤ pts) : posternref14_Adapt.f k delta pts first = some (adp usual delta pts first) := by
  obtain ⟨k, rfl⟩ : ∃ m, k = m + 1 := ⟨k - 1, by omega⟩
  obtain ⟨r0, r1, r2, r3⟩ := adpD_range usual_ok delta pts first h0 h1 hp
  have hj : posternref14_Adapt.j0 (k + 1) (if first = true then delta / 700 else delta / 2) pts = some (adp usual delta pts first) := by
    have e1 : adp usual delta pts first = (adpG 36 35 455 (adpD usual delta pts first) 0).2 + 36 * (adpG 36 35 455 (adpD usual delta pts first) 0).1 / ((adpG 36 35 455 (adpD usual delta pts first) 0).1 + 38) := rfl
    rw [e1, ← radp_l0 _ k (adpD usual delta pts first) 0 r2 (Nat.le_refl _) (by omega) r3 (by omega) (by omega)]
    have e2 : adpD usual delta pts first = (if first = true then delta / 700 else delta / 2) + (if first = true then delta / 700 else delta / 2) / pts := rfl
    rw [e2] at r3 ⊢
    have e3 : (if first = true then delta / usual.damp else delta / 2) = (if first = true then delta / 700 else delta / 2) := rfl
    rw [e3] at r0 r1
    rw [posternref14_Adapt.j0]
    generalize (if first = true then delta / 700 else delta / 2) = x at *
    have q0 : 0 ≤ x / pts := Int.ediv_nonneg r0 (by omega)
    have q1 : x / pts ≤ x := Int.ediv_le_self _ r0
    rw [if_neg (by omega), tdiv_pos x _ r0, w64 (x / pts) (by omega) (by omega), w64 (x + x / pts) (by omega) (by omega)]
  unfold posternref14_Adapt.f
  cases first with
  | true =>
    simp only [if_true] at hj
    rw [if_pos rfl, tdiv_pos _ _ h0, w64 _ (by omega) (by omega)]
    exact hj
  | false =>
    simp only [Bool.false_eq_true, if_false] at hj
    rw [if_neg (by simp), tdiv_pos _ _ h0, w64 _ (by omega) (by omega)]
    exact hj
theorem letter_is (d : Int) (h0 : 0 ≤ d) (h1 : d ≤ 35) : puny_letter.f d = some (ltr d) ∧ posternref14_Letter.f d = some (ltr d) := by
  unfold puny_letter.f posternref14_Letter.f ltr
  by_cases h : d < 26
  · rw [if_pos h, w64 _ (by omega) (by omega)]
    constructor <;> congr 1 <;> omega
  · rw [if_neg h, w64 (48 + d) (by omega) (by omega), w64 _ (by omega) (by omega)]
    constructor <;> congr 1 <;> omega
end Go.Proofs.YtmjlkifmbhaiiaaDoor.V

set_option linter.unusedVariables false
set_option linter.unusedSimpArgs false
namespace Go.Proofs.YtmjlkifmbhaiiaaDoor.V
open Go.RowKit Go.Proofs.YtmjlkifmbhaiiaaDoorW.PrintWords Go.Proofs.YtmjlkifmbhaiiaaDoorW.PrintLast Go.Proofs.YtmjlkifmbhaiiaaDoorQ.Pt
theorem rscl_is (r : Int) : posternref14_scalar.f r = some (scl r) := by
  unfold posternref14_scalar.f scl
  by_cases h : r ≥ 0
  · rw [if_pos h]
    by_cases h1 : r < 55296
    · rw [if_pos h1, decide_eq_true (Or.inl ⟨h, h1⟩)]
    · rw [if_neg h1]
      by_cases h2 : r > 57343
      · rw [if_pos h2]; congr 1; exact decide_eq_decide.2 ⟨fun h => Or.inr ⟨h2, h⟩, fun h => by omega⟩
      · rw [if_neg h2, decide_eq_false (by omega)]
  · rw [if_neg h]
    by_cases h2 : r > 57343
    · omega
    · rw [if_neg h2, decide_eq_false (by omega)]
theorem rthr_is (k b : Int) (hk : -4611686018427387904 ≤ k ∧ k ≤ 4611686018427387903) (hb : -4611686018427387903 ≤ b ∧ b ≤ 4611686018427387904) : posternref14_threshold.f k b = some (thr usual k b) := by
  unfold posternref14_threshold.f
  rw [w64 (k - b) (by omega) (by omega)]
  have e : thr usual k b = if k - b < 1 then 1 else if k - b > 26 then 26 else k - b := rfl
  rw [e]
  by_cases h1 : k - b < 1
  · rw [if_pos h1, if_pos h1]
  · rw [if_neg h1, if_neg h1]
    by_cases h2 : k - b > 26
    · rw [if_pos h2, if_pos h2]
    · rw [if_neg h2, if_neg h2]
theorem drop_cons {s : ByteArray} {a : Int} {c : Int} {l : List Int} (h : c :: l = (bytesOf s).drop a.toNat) (h0 : 0 ≤ a) : a < s.size ∧ bt s a = c ∧ l = (bytesOf s).drop (a + 1).toNat := by
  have hl : a.toNat < (bytesOf s).length := by
    rcases Nat.lt_or_ge a.toNat (bytesOf s).length with g | g
    · exact g
    · rw [List.drop_of_length_le g] at h; cases h
  rw [bytesOf_length] at hl
  have hlt : a < s.size := by omega
  rw [drop_bt s a h0 hlt] at h
  injection h with h1 h2
  exact ⟨hlt, h1.symm, h2⟩
/-- a number read, the document's way -/
theorem r3 (s : ByteArray) (hs : s.size ≤ 16777216) (l : List Int) (hl : l.length ≤ 16777216) (n b old : Int) (hn0 : 0 ≤ n) (hn1 : n ≤ 1114111) (hb0 : -1073741824 ≤ b) (hb1 : b ≤ 1099511627776) (ho : 0 ≤ old) : ∀ (L : List Int) (a i w kk : Int) (k : Nat), L = (bytesOf s).drop a.toNat → 0 ≤ a → a ≤ s.size → old ≤ i → i ≤ 2147483647 → 1 ≤ w → w ≤ 2147483647 → 0 ≤ kk → kk ≤ 36 * (a + 1) → L.length + 6000000000 ≤ k →
    ((num usual b L a i w kk).1 ≠ 0 → posternref14_Decode.l3 k s a l n i b old w kk = some ([], (num usual b L a i w kk).2.1, (num usual b L a i w kk).1)) ∧
    ((num usual b L a i w kk).1 = 0 → ∃ k' : Nat, k ≤ k' + L.length + 1 ∧ posternref14_Decode.l3 k s a l n i b old w kk =
      if 1114111 < n + (num usual b L a i w kk).2.2.1 / (l.length + 1) then some ([], (num usual b L a i w kk).2.1 - 1, 142)
      else if scl (n + (num usual b L a i w kk).2.2.1 / (l.length + 1)) = false then some ([], (num usual b L a i w kk).2.1 - 1, 143)
      else posternref14_Decode.l4 k' s ((num usual b L a i w kk).2.1 - 1) (l ++ [0]) (n + (num usual b L a i w kk).2.2.1 / (l.length + 1)) ((num usual b L a i w kk).2.2.1 % (l.length + 1)) (adp usual ((num usual b L a i w kk).2.2.1 - old) (l.length + 1) (old == 0)) l.length) := by
  intro L
  induction L with
  | nil =>
    intro a i w kk k hL h0 h1 hi hi1 hw hw1 hk hk1 hf
    have hd := congrArg List.length hL
    rw [List.length_drop, bytesOf_length] at hd
    simp only [List.length_nil] at hd
    obtain ⟨k, rfl⟩ : ∃ m, k = m + 1 := ⟨k - 1, by omega⟩
    refine ⟨fun _ => ?_, fun h => by rw [num] at h; cases h⟩
    show posternref14_Decode.l3 (k + 1) s a l n i b old w kk = some ([], a, 140)
    rw [posternref14_Decode.l3, if_pos (show a = (s.size : Int) by omega)]
  | cons c L ih =>
    intro a i w kk k hL h0 h1 hi hi1 hw hw1 hk hk1 hf
    obtain ⟨hlt, hc, hL2⟩ := drop_cons hL h0
    obtain ⟨k, rfl⟩ : ∃ m, k = m + 1 := ⟨k - 1, by omega⟩
    simp only [List.length_cons] at hf
    have hbr := bt_range s a
    have hdg := dgu_range (bt s a)
    have hgap := thr_gap usual_ok kk b
    have hdt : dgt usual c = dgu c := by
      have e : dgt usual c = if dgu c < 36 then dgu c else -1 := rfl
      rw [e, if_pos (by rw [← hc]; omega)]
    rw [posternref14_Decode.l3, if_neg (show ¬ a = (s.size : Int) by omega), if_pos h0, if_pos hlt, RDigit_is k (by omega) (bt s a) hbr.1 hbr.2]
    simp only [Option.bind_some]
    rw [num, hdt, ← hc]
    generalize dgu (bt s a) = d at *
    by_cases hd : d < 0
    · rw [if_pos hd, if_pos hd]
      exact ⟨fun _ => rfl, fun h => by cases h⟩
    rw [if_neg hd, if_neg hd]
    have hM0 : 0 ≤ d * w := Int.mul_nonneg (by omega) (by omega)
    have hM1 : d * w ≤ 35 * 2147483647 := Int.mul_le_mul (by omega) hw1 (by omega) (by omega)
    rw [w64 (d * w) (by omega) (by omega), w64 (i + d * w) (by omega) (by omega)]
    generalize d * w = M at *
    by_cases hov : 2147483647 < i + M
    · rw [if_pos hov, if_pos hov]
      exact ⟨fun _ => rfl, fun h => by cases h⟩
    rw [if_neg hov, if_neg (show ¬ i + M > 2147483647 from hov), rthr_is kk b (by omega) (by omega)]
    simp only [Option.bind_some]
    have htu : thr usual kk b = thr usual kk b := rfl
    have hub : usual.base = 36 := rfl
    rw [hub] at hgap ⊢
    generalize thr usual kk b = t at *
    by_cases hdl : d < t
    · rw [if_pos hdl, if_pos hdl]
      refine ⟨fun h => absurd rfl h, fun _ => ⟨k, by simp, ?_⟩⟩
      have hq0 : 0 ≤ (i + M) / ((l.length : Int) + 1) := Int.ediv_nonneg (by omega) (by omega)
      have hq1 : (i + M) / ((l.length : Int) + 1) ≤ i + M := Int.ediv_le_self _ (by omega)
      rw [w64 (i + M - old) (by omega) (by omega), w64 ((l.length : Int) + 1) (by omega) (by omega), RAdapt_is k (by omega) (i + M - old) ((l.length : Int) + 1) (old == 0) (by omega) (by omega) (by omega)]
      simp only [Option.bind_some]
      rw [if_neg (by omega), tdiv_pos _ _ (by omega), w64 ((i + M) / ((l.length : Int) + 1)) (by omega) (by omega), w64 (n + (i + M) / ((l.length : Int) + 1)) (by omega) (by omega), Int.tmod_eq_emod_of_nonneg (by omega)]
      show _ = if 1114111 < n + (i + M) / ((l.length : Int) + 1) then some ([], a + 1 - 1, 142) else if scl (n + (i + M) / ((l.length : Int) + 1)) = false then some ([], a + 1 - 1, 143) else posternref14_Decode.l4 k s (a + 1 - 1) (l ++ [0]) (n + (i + M) / ((l.length : Int) + 1)) ((i + M) % ((l.length : Int) + 1)) (adp usual (i + M - old) ((l.length : Int) + 1) (old == 0)) l.length
      rw [show a + 1 - 1 = a by omega]
      by_cases hbig : 1114111 < n + (i + M) / ((l.length : Int) + 1)
      · rw [if_pos hbig, if_pos hbig]
      rw [if_neg hbig, if_neg hbig, show wrap32 (n + (i + M) / ((l.length : Int) + 1)) = n + (i + M) / ((l.length : Int) + 1) by unfold wrap32; omega, rscl_is]
      simp only [Option.bind_some]
      by_cases hsc : scl (n + (i + M) / ((l.length : Int) + 1)) = false
      · rw [if_pos hsc, hsc, if_neg (by simp)]
      · rw [if_neg hsc, if_pos (by simpa using hsc), if_pos (by omega)]
        show posternref14_Decode.l4 k s a (l ++ [0]) _ _ _ (wrap64 (((l ++ [0]).length : Int) - 1)) = _
        have hlen : wrap64 (((l ++ [0]).length : Int) - 1) = (l.length : Int) := by
          rw [List.length_append, List.length_singleton, w64 _ (by omega) (by omega)]
          omega
        rw [hlen]
    rw [if_neg hdl, if_neg hdl]
    have hw2 : 1 ≤ w * (36 - t) := by
      have := Int.mul_le_mul (a := 1) (c := w) (b := 1) (d := 36 - t) hw (by omega) (by omega) (by omega)
      omega
    have hw3 : w * (36 - t) ≤ 2147483647 * 36 := Int.mul_le_mul hw1 (by omega) (by omega) (by omega)
    rw [w64 (36 - t) (by omega) (by omega), w64 (w * (36 - t)) (by omega) (by omega)]
    by_cases hov2 : 2147483647 < w * (36 - t)
    · rw [if_pos hov2, if_pos hov2]
      exact ⟨fun _ => rfl, fun h => by cases h⟩
    rw [if_neg hov2, if_neg (show ¬ w * (36 - t) > 2147483647 from hov2), w64 (a + 1) (by omega) (by omega), w64 (kk + 36) (by omega) (by omega)]
    obtain ⟨g1, g2⟩ := ih (a + 1) (i + M) (w * (36 - t)) (kk + 36) k hL2 (by omega) (by omega) (by omega) (by omega) hw2 (by omega) (by omega) (by omega) (by omega)
    refine ⟨g1, fun h => ?_⟩
    obtain ⟨k', q1, q2⟩ := g2 h
    exact ⟨k', by simp only [List.length_cons]; omega, q2⟩
theorem set_end (a b : List Int) (y z : Int) : (a ++ [y] ++ b).set a.length z = a ++ [z] ++ b := by simp
theorem rd_mid (a b : List Int) (x : Int) : rd (a ++ [x] ++ b) (a.length : Int) = x := by simp [rd]
/-- room made by steps to the right, and the number put in -/
theorem r4 (s : ByteArray) (hs : s.size ≤ 16777216) (l : List Int) (hl : l.length ≤ 16777216) (a n b i : Int) (ha : 0 ≤ a) (ha1 : a ≤ 16777216) (hn0 : 0 ≤ n) (hn1 : n ≤ 1114111) (hi0 : 0 ≤ i) : ∀ (d j : Nat) (z : Int) (k : Nat), (j : Int) = i + d → j ≤ l.length → d + 1 ≤ k →
    posternref14_Decode.l4 k s a (l.take j ++ z :: l.drop j) n i b j = posternref14_Decode.l2 (k - (d + 1)) s (a + 1) (l.take i.toNat ++ n :: l.drop i.toNat) n (i + 1) b := by
  intro d
  induction d with
  | zero =>
    intro j z k hj hjl hk
    obtain ⟨k, rfl⟩ : ∃ m, k = m + 1 := ⟨k - 1, by omega⟩
    have hij : i.toNat = j := by omega
    rw [posternref14_Decode.l4, if_neg (by omega), if_pos hi0, if_pos (by simp only [List.length_append, List.length_take, List.length_cons, List.length_drop]; omega), w64 (a + 1) (by omega) (by omega), w64 (i + 1) (by omega) (by omega), show wrap32 n = n by unfold wrap32; omega, hij]
    have e : (l.take j ++ z :: l.drop j).set j n = l.take j ++ n :: l.drop j := by
      have := set_end (l.take j) (l.drop j) z n
      rw [List.length_take, Nat.min_eq_left hjl] at this
      simpa using this
    rw [e]
    rfl
  | succ d ih =>
    intro j z k hj hjl hk
    obtain ⟨k, rfl⟩ : ∃ m, k = m + 1 := ⟨k - 1, by omega⟩
    obtain ⟨j, rfl⟩ : ∃ m, j = m + 1 := ⟨j - 1, by omega⟩
    have hlen : (l.take (j + 1) ++ z :: l.drop (j + 1)).length = l.length + 1 := by simp only [List.length_append, List.length_take, List.length_cons, List.length_drop]; omega
    rw [posternref14_Decode.l4, if_pos (by omega), w64 (((j + 1 : Nat) : Int) - 1) (by omega) (by omega), if_pos (by omega), if_pos (by rw [hlen]; omega), if_pos (by omega), if_pos (by rw [hlen]; omega)]
    have hjn : (((j + 1 : Nat) : Int)).toNat = j + 1 := by omega
    have hj1 : ((j + 1 : Nat) : Int) - 1 = (j : Int) := by omega
    rw [hjn, hj1]
    have hA : (l.take j).length = j := by rw [List.length_take, Nat.min_eq_left (by omega)]
    have h2 : l.take (j + 1) = l.take j ++ [l[j]'(by omega)] := by rw [List.take_succ_eq_append_getElem (by omega)]
    have h3 : l.drop j = l[j]'(by omega) :: l.drop (j + 1) := List.drop_eq_getElem_cons (by omega)
    have hg : rd (l.take (j + 1) ++ z :: l.drop (j + 1)) (j : Int) = l[j]'(by omega) := by
      rw [h2]
      have := rd_mid (l.take j) (z :: l.drop (j + 1)) (l[j]'(by omega))
      rw [hA] at this
      exact this
    have e : (l.take (j + 1) ++ z :: l.drop (j + 1)).set (j + 1) (l[j]'(by omega)) = l.take j ++ l[j]'(by omega) :: l.drop j := by
      have h1 := set_end (l.take (j + 1)) (l.drop (j + 1)) z (l[j]'(by omega))
      rw [List.length_take, Nat.min_eq_left hjl] at h1
      rw [List.append_assoc, List.append_assoc] at h1
      refine h1.trans ?_
      rw [h2, h3, List.append_assoc]
      rfl
    rw [hg, e, ih j (l[j]'(by omega)) k (by omega) (by omega) (by omega)]
    congr 1
    omega
theorem fuel_ar0 (B M k k' D E S : Nat) (hk : B + M + E ≤ k + 1) (q1 : k ≤ k' + S + 1) (hS : S ≤ 16777216) (h1 : D ≤ 16777217) (h2 : 33554440 ≤ M) : B + E + D ≤ k' := by omega
theorem fuel_ar (A m k k' L I : Nat) (hk : (A + m) * 33554440 + 6010000000 ≤ k + 1) (q1 : k ≤ k' + (A + m) + 1) (hm : 1 ≤ m) (hL : L ≤ 16777216) (hA : A + m ≤ 16777216) : A * 33554440 + 6010000000 ≤ k' - (L - I + 1) := by
  have h1 : L - I + 1 ≤ 16777217 := by omega
  have h2 : 33554440 ≤ m * 33554440 := by omega
  rw [Nat.add_mul] at hk
  refine Nat.le_sub_of_add_le ?_
  exact fuel_ar0 _ _ k k' _ _ (A + m) hk q1 hA h1 h2
/-- all numbers, the document's way -/
theorem r2 (s : ByteArray) (hs : s.size ≤ 16777216) : ∀ (f : Nat) (a : Int) (l : List Int) (n i b : Int) (k : Nat), 0 ≤ a → a ≤ s.size → ((bytesOf s).drop a.toNat).length < f → (l.length : Int) ≤ a → 0 ≤ n → n ≤ 1114111 → 0 ≤ i → i ≤ l.length → 0 ≤ b → b ≤ 1099511627776 → ((bytesOf s).drop a.toNat).length * 33554440 + 6010000000 ≤ k →
    posternref14_Decode.l2 k s a l n i b = some (decG usual f ((bytesOf s).drop a.toNat) a l n i b) := by
  intro f
  induction f with
  | zero => intro a l n i b k _ _ h; omega
  | succ f ih =>
    intro a l n i b k h0 h1 hf hl hn0 hn1 hi0 hi1 hb0 hb1 hk
    have hlen : ((bytesOf s).drop a.toNat).length = s.size - a.toNat := by rw [List.length_drop, bytesOf_length]
    obtain ⟨k, rfl⟩ : ∃ m, k = m + 1 := ⟨k - 1, by omega⟩
    rw [posternref14_Decode.l2, decG]
    by_cases he : a = s.size
    · rw [if_neg (by omega), if_pos (List.length_eq_zero_iff.1 (by omega))]
    rw [if_pos (show a < s.size by omega), if_neg (fun h => by rw [h] at hlen; simp only [List.length_nil] at hlen; omega)]
    obtain ⟨g1, g2⟩ := r3 s hs l (by omega) n b i hn0 hn1 (by omega) hb1 hi0 _ a i 1 36 k rfl h0 h1 (Int.le_refl _) (by omega) (by omega) (by omega) (by omega) (by omega) (by omega)
    show _ = some (if (num usual b ((bytesOf s).drop a.toNat) a i 1 36).1 ≠ 0 then _ else _)
    show _ = some (let r := num usual b ((bytesOf s).drop a.toNat) a i 1 36; _)
    have hok := num_ok usual_ok b ((bytesOf s).drop a.toNat) a i 1 36 hi0 (by omega) (by omega)
    have hub : usual.base = 36 := rfl
    rw [hub]
    generalize num usual b ((bytesOf s).drop a.toNat) a i 1 36 = r at *
    by_cases hr : r.1 ≠ 0
    · rw [g1 hr, if_pos hr]
    have hr0 : r.1 = 0 := Decidable.not_not.1 hr
    obtain ⟨k', q1, q2⟩ := g2 hr0
    obtain ⟨m, m1, m2, m3, m4, m5, m6⟩ := hok hr0
    rw [q2, if_neg hr]
    by_cases hbig : 1114111 < n + r.2.2.1 / ((l.length : Int) + 1)
    · rw [if_pos hbig, if_pos hbig]
    rw [if_neg hbig, if_neg hbig]
    by_cases hsc : scl (n + r.2.2.1 / ((l.length : Int) + 1)) = false
    · rw [if_pos hsc, if_pos hsc]
    rw [if_neg hsc, if_neg hsc]
    have hq0 : 0 ≤ r.2.2.1 / ((l.length : Int) + 1) := Int.ediv_nonneg (by omega) (by omega)
    have hm0 : 0 ≤ r.2.2.1 % ((l.length : Int) + 1) := Int.emod_nonneg _ (by omega)
    have hm1 : r.2.2.1 % ((l.length : Int) + 1) < (l.length : Int) + 1 := Int.emod_lt_of_pos _ (by omega)
    have hN0 : 0 ≤ n + r.2.2.1 / ((l.length : Int) + 1) := by omega
    have had := adp_range usual_ok (r.2.2.1 - i) ((l.length : Int) + 1) (i == 0) (by omega) (by omega) (by omega)
    generalize adp usual (r.2.2.1 - i) ((l.length : Int) + 1) (i == 0) = B at *
    generalize r.2.2.1 % ((l.length : Int) + 1) = I at *
    generalize n + r.2.2.1 / ((l.length : Int) + 1) = N at *
    have hst := r4 s hs l (by omega) (r.2.1 - 1) N B I (by omega) (by omega) (by omega) (by omega) hm0 (l.length - I.toNat) l.length 0 k' (by omega) (Nat.le_refl _) (by omega)
    rw [List.take_length, List.drop_length] at hst
    rw [hst, show r.2.1 - 1 + 1 = r.2.1 by omega, m4]
    have hd : ((bytesOf s).drop a.toNat).drop m = (bytesOf s).drop r.2.1.toNat := by
      rw [List.drop_drop, m3, show (a + (m : Int)).toNat = a.toNat + m by omega]
    have hlen2 : ((bytesOf s).drop r.2.1.toNat).length = s.size - r.2.1.toNat := by rw [List.length_drop, bytesOf_length]
    have hlen3 : (l.take I.toNat ++ N :: l.drop I.toNat).length = l.length + 1 := by simp only [List.length_append, List.length_take, List.length_cons, List.length_drop]; omega
    rw [hd]
    have hfu : ((bytesOf s).drop r.2.1.toNat).length * 33554440 + 6010000000 ≤ k' - (l.length - I.toNat + 1) := by
      rw [hlen2]
      rw [hlen] at hk q1 m2
      have e1 : s.size - a.toNat = (s.size - r.2.1.toNat) + m := by
        clear hst hsc g1 g2 q2 hr hr0 hok ih hd hlen2 hlen3 hk q1 hbig hq0 hm0 hm1 hN0 had
        omega
      rw [e1] at hk q1
      exact fuel_ar _ m k k' _ _ hk q1 m1 (by omega) (by omega)
    clear hst hsc g1 g2 q2 hr hr0 hok hd hq0 hub
    exact ih r.2.1 _ N (I + 1) B _ (by omega) (by omega) (by omega) (by rw [hlen3]; omega) (by omega) (by omega) (by omega) (by rw [hlen3]; omega) had.1 had.2 (by omega)
/-- the last hyphen, the document's way -/
theorem r0 (s : ByteArray) (hs : s.size ≤ 16777216) : ∀ (m : Nat) (i d : Int) (k : Nat), 0 ≤ i → (s.size : Int) = i + m → m + 1 ≤ k → posternref14_Decode.l0 k s d i = posternref14_Decode.l1 (k - (m + 1)) s (lastP 45 ((bytesOf s).drop i.toNat) i d) [] 0 := by
  intro m
  induction m with
  | zero =>
    intro i d k h0 h1 hk
    obtain ⟨k, rfl⟩ : ∃ m, k = m + 1 := ⟨k - 1, by omega⟩
    rw [posternref14_Decode.l0, if_neg (by omega), List.drop_of_length_le (by rw [bytesOf_length]; omega)]
    rfl
  | succ m ih =>
    intro i d k h0 h1 hk
    obtain ⟨k, rfl⟩ : ∃ m, k = m + 1 := ⟨k - 1, by omega⟩
    rw [posternref14_Decode.l0, if_pos (by omega), if_pos h0, w64 (i + 1) (by omega) (by omega), drop_bt s i h0 (by omega), lastP]
    have e : k + 1 - (m + 1 + 1) = k - (m + 1) := by omega
    rw [e]
    by_cases h : bt s i = 45
    · rw [if_pos h, if_pos h, ih (i + 1) i k (by omega) (by omega) (by omega)]
    · rw [if_neg h, if_neg h, ih (i + 1) d k (by omega) (by omega) (by omega)]
/-- the basic ones, the document's way -/
theorem r1 (s : ByteArray) (hs : s.size ≤ 16777216) (d : Nat) (hd : d ≤ s.size) : ∀ (m j : Nat) (k : Nat), d = j + m → m + 1 ≤ k →
    posternref14_Decode.l1 k s d (((bytesOf s).take d).take j) j = if 0 ≤ fstB (fun b => !bas usual b) (((bytesOf s).take d).drop j) j then some ([], fstB (fun b => !bas usual b) (((bytesOf s).take d).drop j) j, 141) else (if (d : Int) > 0 then posternref14_Decode.j2 (k - (m + 1)) s ((d : Int) + 1) ((bytesOf s).take d) else posternref14_Decode.j2 (k - (m + 1)) s d ((bytesOf s).take d)) := by
  intro m
  have hl : ((bytesOf s).take d).length = d := by rw [List.length_take, bytesOf_length]; omega
  induction m with
  | zero =>
    intro j k h hk
    obtain ⟨k, rfl⟩ : ∃ m, k = m + 1 := ⟨k - 1, by omega⟩
    have hj : j = d := by omega
    rw [hj, posternref14_Decode.l1, if_neg (by omega), List.drop_of_length_le (by omega), List.take_of_length_le (show ((bytesOf s).take d).length ≤ d by omega), w64 ((d : Int) + 1) (by omega) (by omega)]
    rfl
  | succ m ih =>
    intro j k h hk
    obtain ⟨k, rfl⟩ : ∃ m, k = m + 1 := ⟨k - 1, by omega⟩
    have hb := bt_range s (j : Int)
    have hx : rd ((bytesOf s).take d) (j : Nat) = bt s j := by
      have h1 : (bytesOf s).drop ((j : Int)).toNat = bt s j :: (bytesOf s).drop ((j : Int) + 1).toNat := drop_bt s j (by omega) (by omega)
      rw [Int.toNat_natCast] at h1
      have h2 := congrArg (fun l => l[0]?) h1
      simp only [List.getElem?_drop, List.getElem?_cons_zero, Nat.add_zero] at h2
      simp [rd, List.getD_eq_getElem?_getD, List.getElem?_take, h2, show j < d by omega]
    rw [posternref14_Decode.l1, if_pos (by omega), if_pos (by omega), if_pos (by omega)]
    have hbas : (!bas usual (bt s j)) = decide (bt s j > 127) := by
      unfold bas
      have e : usual.first = 128 := rfl
      rw [e]
      by_cases hc : bt s j > 127
      · rw [decide_eq_false (by omega), decide_eq_true hc]; rfl
      · rw [decide_eq_true (by omega), decide_eq_false hc]; rfl
    have hF := fstB_drop (f := fun b => !bas usual b) (l := (bytesOf s).take d) (k := j) (by omega) (j : Int)
    rw [hx, hbas] at hF
    by_cases hc : bt s j > 127
    · rw [if_pos (by simpa using hc)] at hF
      rw [if_pos hc, hF, if_pos (by omega)]
    rw [if_neg (by simpa using hc)] at hF
    rw [if_neg hc, hF, if_pos (by rw [List.length_take]; omega), w64 ((j : Int) + 1) (by omega) (by omega), show wrap32 (bt s j) = bt s j by unfold wrap32; omega]
    have ht : ((bytesOf s).take d).take j ++ [bt s j] = ((bytesOf s).take d).take (j + 1) := by
      rw [List.take_succ_eq_append_getElem (by omega)]
      congr 2
      rw [← hx]
      simp [rd, List.getD_eq_getElem?_getD, List.getElem?_eq_getElem (show j < ((bytesOf s).take d).length by omega)]
    have hi := ih (j + 1) k (by omega) (by omega)
    rw [show (((j + 1 : Nat) : Int)) = (j : Int) + 1 by omega] at hi
    rw [ht, hi, show k + 1 - (m + 1 + 1) = k - (m + 1) by omega]
/-- the document's Decode -/
theorem RDecode_is (s : ByteArray) (hs : s.size ≤ 16777216) (k : Nat) (hk : 563000000000000 ≤ k) : posternref14_Decode.f k s = some (dec usual (bytesOf s)) := by
  unfold posternref14_Decode.f
  rw [r0 s hs s.size 0 0 k (by omega) (by omega) (by omega)]
  rw [show ((0 : Int)).toNat = 0 from rfl, List.drop_zero]
  have hsp := lastP_spec 45 (bytesOf s) 0 0
  unfold dec
  rw [show usual.btw = 45 from rfl, show usual.first = 128 from rfl, show usual.bias = 72 from rfl]
  have hd : ∃ d : Nat, lastP 45 (bytesOf s) 0 0 = (d : Int) ∧ (d = 0 ∨ d < s.size) := by
    rcases hsp with ⟨h, -⟩ | ⟨j, h1, -, -, h4⟩
    · exact ⟨0, h, Or.inl rfl⟩
    · rw [bytesOf_length] at h1
      exact ⟨j, by omega, Or.inr h1⟩
  obtain ⟨d, hd, hd2⟩ := hd
  rw [hd]
  have hl : (bytesOf s).length = s.size := bytesOf_length s
  have h1 := r1 s hs d (by omega) d 0 (k - (s.size + 1)) (by omega) (by omega)
  rw [List.take_zero, List.drop_zero] at h1
  have h1' : posternref14_Decode.l1 (k - (s.size + 1)) s d [] 0 = _ := h1
  rw [h1', show ((0 : Nat) : Int) = 0 from rfl, Int.toNat_natCast]
  by_cases h0 : d = 0
  · subst h0
    rw [List.take_zero, if_neg (show ¬ (0 : Int) ≤ fstB (fun b => !bas usual b) [] 0 by simp [fstB]), if_neg (by omega), if_neg (by omega)]
    obtain ⟨q, hq⟩ : ∃ q, k - (s.size + 1) - (0 + 1) = q + 1 := ⟨k - (s.size + 1) - (0 + 1) - 1, by omega⟩
    rw [hq, posternref14_Decode.j2]
    have := r2 s hs ((bytesOf s).length + 1) 0 [] 128 0 72 q (by omega) (by omega) (by simp) (by simp) (by omega) (by omega) (by omega) (by simp) (by omega) (by omega) (by simp only [List.length_drop]; omega)
    exact this
  · rw [if_pos (show (0 : Int) < d by omega), if_pos (show (d : Int) > 0 by omega)]
    by_cases hf : 0 ≤ fstB (fun b => !bas usual b) ((bytesOf s).take d) 0
    · rw [if_pos hf, if_pos hf]
    rw [if_neg hf, if_neg hf]
    obtain ⟨q, hq⟩ : ∃ q, k - (s.size + 1) - (d + 1) = q + 1 := ⟨k - (s.size + 1) - (d + 1) - 1, by omega⟩
    rw [hq, posternref14_Decode.j2]
    have := r2 s hs ((bytesOf s).length + 1) ((d : Int) + 1) ((bytesOf s).take d) 128 0 72 q (by omega) (by omega) (by rw [List.length_drop]; omega) (by rw [List.length_take]; omega) (by omega) (by omega) (by omega) (by omega) (by omega) (by omega) (by rw [List.length_drop]; omega)
    exact this
end Go.Proofs.YtmjlkifmbhaiiaaDoor.V

set_option linter.unusedVariables false
set_option linter.unusedSimpArgs false
namespace Go.Proofs.YtmjlkifmbhaiiaaDoor.V
open Go.RowKit Go.Proofs.YtmjlkifmbhaiiaaDoorW.PrintWords Go.Proofs.YtmjlkifmbhaiiaaDoorW.PrintLast Go.Proofs.YtmjlkifmbhaiiaaDoorQ.Pt
theorem thr_us (k b : Int) : 1 ≤ thr usual k b ∧ thr usual k b ≤ 26 := thr_range usual_ok k b
theorem mn_is (a b : Int) : mn a b = if b < a then b else a := rfl
theorem cons_rd {l L : List Int} {c i : Int} (h : c :: L = l.drop i.toNat) (h0 : 0 ≤ i) : i < l.length ∧ rd l i = c ∧ L = l.drop (i + 1).toNat := by
  have hl : i.toNat < l.length := by
    rcases Nat.lt_or_ge i.toNat l.length with g | g
    · exact g
    · rw [List.drop_of_length_le g] at h; cases h
  rw [List.drop_eq_getElem_cons hl] at h
  injection h with h1 h2
  refine ⟨by omega, ?_, by rw [h2]; congr 1; omega⟩
  have e : ∀ j : Nat, (hj : j < l.length) → rd l (j : Int) = l[j] := fun j hj => by simp [rd, List.getD_eq_getElem?_getD, List.getElem?_eq_getElem hj]
  have e2 := e i.toNat hl
  rw [show ((i.toNat : Nat) : Int) = i by omega] at e2
  rw [e2, h1]
theorem nil_rd {l : List Int} {i : Int} (h : [] = l.drop i.toNat) (h0 : 0 ≤ i) : l.length ≤ i := by
  have := congrArg List.length h
  rw [List.length_drop] at this
  simp only [List.length_nil] at this
  omega
/-- a delta has few digits -/
theorem pow_step (q t : Int) (m : Nat) (ht1 : 1 ≤ t) (ht : t ≤ 26) (hq0 : 0 ≤ q) (hqt : ¬ q < t) (hq : q < 10 ^ (m + 1)) : 0 ≤ (q - t) / (36 - t) ∧ (q - t) / (36 - t) < 10 ^ m ∧ (q - t) / (36 - t) ≤ q ∧ 0 ≤ (q - t) % (36 - t) ∧ (q - t) % (36 - t) < 36 - t := by
  refine ⟨Int.ediv_nonneg (by omega) (by omega), ?_, ?_, Int.emod_nonneg _ (by omega), Int.emod_lt_of_pos _ (by omega)⟩
  · refine Int.ediv_lt_of_lt_mul (by omega) ?_
    rw [Int.pow_succ] at hq
    have hp : (0 : Int) ≤ 10 ^ m := Int.pow_nonneg (by omega)
    have := Int.mul_le_mul_of_nonneg_left (show (10 : Int) ≤ 36 - t by omega) hp
    omega
  · have := Int.ediv_le_self (36 - t) (show 0 ≤ q - t by omega)
    omega
theorem wrt_f (b : Int) : ∀ (m f : Nat) (q k : Int), 0 ≤ q → q < 10 ^ m → m + 1 ≤ f → wrt usual b f q k = wrt usual b (m + 1) q k ∧ (wrt usual b (m + 1) q k).length ≤ m + 1 ∧ ∀ x ∈ wrt usual b (m + 1) q k, 0 ≤ x ∧ x ≤ 127 := by
  intro m
  induction m with
  | zero =>
    intro f q k h0 h1 hf
    obtain ⟨f, rfl⟩ : ∃ m, f = m + 1 := ⟨f - 1, by omega⟩
    have ht := thr_us k b
    simp only [Int.pow_zero] at h1
    have hl := ltr_range q h0 (by omega)
    rw [wrt, wrt, if_pos (by omega), if_pos (by omega)]
    exact ⟨rfl, by simp, fun x hx => by simp only [List.mem_singleton] at hx; omega⟩
  | succ m ih =>
    intro f q k h0 h1 hf
    obtain ⟨f, rfl⟩ : ∃ m, f = m + 1 := ⟨f - 1, by omega⟩
    have ht := thr_us k b
    rw [wrt, wrt]
    by_cases hc : q < thr usual k b
    · have hl := ltr_range q h0 (by omega)
      rw [if_pos hc, if_pos hc]
      exact ⟨rfl, by simp, fun x hx => by simp only [List.mem_singleton] at hx; omega⟩
    rw [if_neg hc, if_neg hc, show usual.base = 36 from rfl]
    obtain ⟨p0, p1, -, p2, p3⟩ := pow_step q _ m ht.1 ht.2 h0 hc h1
    obtain ⟨i1, i2, i3⟩ := ih f _ (k + 36) p0 p1 (by omega)
    have hl := ltr_range (thr usual k b + (q - thr usual k b) % (36 - thr usual k b)) (by omega) (by omega)
    refine ⟨by rw [i1], by rw [List.length_cons]; omega, fun x hx => ?_⟩
    rcases List.mem_cons.1 hx with rfl | hx
    · omega
    · exact i3 x hx
theorem wrt_k (b : Int) (q : Int) (h0 : 0 ≤ q) (h1 : q ≤ 2147483647) : wrt usual b 1000000 q 36 = wrt usual b 11 q 36 ∧ (wrt usual b 1000000 q 36).length ≤ 11 ∧ ∀ x ∈ wrt usual b 1000000 q 36, 0 ≤ x ∧ x ≤ 127 := by
  obtain ⟨h1, h2, h3⟩ := wrt_f b 10 1000000 q 36 h0 (Int.lt_of_le_of_lt h1 (by decide)) (by omega)
  rw [h1]
  exact ⟨rfl, h2, h3⟩
/-- the program writes a delta -/
theorem written_l0 (b : Int) (hb0 : 0 ≤ b) (hb1 : b ≤ 1099511627776) : ∀ (m k : Nat) (out : List Int) (q kk : Int), 0 ≤ q → q < 10 ^ m → q ≤ 2147483647 → 0 ≤ kk → kk + 36 * (m : Int) ≤ 1000000 → m + 1 ≤ k → out.length + m ≤ 1000000000 →
    puny_boot_written.l0 k b out q kk 36 1 26 38 700 72 128 45 = some (out ++ wrt usual b (m + 1) q kk) := by
  intro m
  have hth : ∀ kk : Int, 0 ≤ kk → kk ≤ 1000000 → puny_boot_threshold.f 36 1 26 38 700 72 128 45 kk b = some (thr usual kk b) := by
    intro kk h0 h1
    unfold puny_boot_threshold.f
    rw [w64 (kk - b) (by omega) (by omega)]
    congr 1
    have e : thr usual kk b = if kk - b < 1 then 1 else if kk - b > 26 then 26 else kk - b := rfl
    rw [e]
    unfold mn mx
    repeat' split
    all_goals omega
  induction m with
  | zero =>
    intro k out q kk h0 h1 hq hk0 hk1 hk ho
    obtain ⟨k, rfl⟩ : ∃ m, k = m + 1 := ⟨k - 1, by omega⟩
    have ht := thr_us kk b
    simp only [Int.pow_zero] at h1
    rw [puny_boot_written.l0, hth kk hk0 (by omega)]
    simp only [Option.bind_some]
    rw [if_pos (by omega), (letter_is q h0 (by omega)).1]
    simp only [Option.bind_some]
    rw [if_pos (by omega), wrt, if_pos (by omega)]
  | succ m ih =>
    intro k out q kk h0 h1 hq hk0 hk1 hk ho
    obtain ⟨k, rfl⟩ : ∃ m, k = m + 1 := ⟨k - 1, by omega⟩
    have ht := thr_us kk b
    rw [puny_boot_written.l0, hth kk hk0 (by omega)]
    simp only [Option.bind_some]
    rw [wrt]
    by_cases hc : q < thr usual kk b
    · rw [if_pos hc, if_pos hc, (letter_is q h0 (by omega)).1]
      simp only [Option.bind_some]
      rw [if_pos (by omega)]
    rw [if_neg hc, if_neg hc, show usual.base = 36 from rfl]
    obtain ⟨p0, p1, p4, p2, p3⟩ := pow_step q _ m ht.1 ht.2 h0 hc h1
    rw [w64 (36 - thr usual kk b) (by omega) (by omega), if_neg (by omega), w64 (q - thr usual kk b) (by omega) (by omega), Int.tmod_eq_emod_of_nonneg (by omega), w64 (thr usual kk b + _) (by omega) (by omega), (letter_is _ (by omega) (by omega)).1]
    simp only [Option.bind_some]
    rw [if_pos (by omega), tdiv_pos _ _ (by omega), w64 ((q - thr usual kk b) / (36 - thr usual kk b)) (by omega) (by omega), w64 (kk + 36) (by omega) (by omega), ih k _ _ _ p0 p1 (by omega) (by omega) (by omega) (by omega) (by rw [List.length_append, List.length_singleton]; omega)]
    rw [List.append_assoc]
    rfl
theorem written_is (k : Nat) (hk : 11 ≤ k) (q b : Int) (h0 : 0 ≤ q) (h1 : q ≤ 2147483647) (hb0 : 0 ≤ b) (hb1 : b ≤ 1099511627776) : puny_boot_written.f k 36 1 26 38 700 72 128 45 q b = some (wrt usual b 1000000 q 36) := by
  unfold puny_boot_written.f
  rw [written_l0 b hb0 hb1 10 k [] q 36 h0 (Int.lt_of_le_of_lt h1 (by decide)) h1 (by omega) (by omega) (by omega) (by simp), (wrt_k b q h0 h1).1]
  rfl
/-- the document writes a delta -/
theorem r4_is (k0 : Nat) (x0 : List Int) (x8 x9 x10 x11 x12 : Int) (x86 : List Int) (x87 x88 : Int) (hb0 : 0 ≤ x11) (hb1 : x11 ≤ 1099511627776) (hd0 : 0 ≤ x10) (hd1 : x10 ≤ 2147483647) (h12 : 0 ≤ x12) (h121 : x12 ≤ 4194304) (h88 : 0 ≤ x88) (h881 : x88 ≤ 1048576) : ∀ (m k : Nat) (out : List Int) (q kk : Int), 0 ≤ q → q < 10 ^ m → q ≤ 2147483647 → 0 ≤ kk → kk + 36 * (m : Int) ≤ 1000000 → m + 1 + 5000000000 ≤ k → out.length + m ≤ 1000000000 →
    ∃ k' : Nat, k ≤ k' + m + 1 ∧ posternref14_Encode.l4 k x0 out x8 x9 x10 x11 x12 q kk x86 x87 x88 = posternref14_Encode.l3 k' x0 (out ++ wrt usual x11 (m + 1) q kk) x8 x9 0 (adp usual x10 (x12 + 1) (x12 == x8)) (x12 + 1) x86 x87 (x88 + 1) := by
  intro m
  induction m with
  | zero =>
    intro k out q kk h0 h1 hq hk0 hk1 hk ho
    obtain ⟨k, rfl⟩ : ∃ m, k = m + 1 := ⟨k - 1, by omega⟩
    have ht := thr_us kk x11
    simp only [Int.pow_zero] at h1
    refine ⟨k, by omega, ?_⟩
    rw [posternref14_Encode.l4, rthr_is kk x11 (by omega) (by omega)]
    simp only [Option.bind_some]
    rw [if_pos (by omega), (letter_is q h0 (by omega)).2]
    simp only [Option.bind_some]
    rw [if_pos (by omega), w64 (x12 + 1) (by omega) (by omega), RAdapt_is k (by omega) x10 (x12 + 1) (x12 == x8) hd0 hd1 (by omega)]
    simp only [Option.bind_some]
    rw [wrt, if_pos (by omega), w64 (x88 + 1) (by omega) (by omega)]
  | succ m ih =>
    intro k out q kk h0 h1 hq hk0 hk1 hk ho
    obtain ⟨k, rfl⟩ : ∃ m, k = m + 1 := ⟨k - 1, by omega⟩
    have ht := thr_us kk x11
    rw [posternref14_Encode.l4, rthr_is kk x11 (by omega) (by omega)]
    simp only [Option.bind_some]
    rw [wrt]
    by_cases hc : q < thr usual kk x11
    · refine ⟨k, by omega, ?_⟩
      rw [if_pos hc, if_pos hc, (letter_is q h0 (by omega)).2]
      simp only [Option.bind_some]
      rw [if_pos (by omega), w64 (x12 + 1) (by omega) (by omega), RAdapt_is k (by omega) x10 (x12 + 1) (x12 == x8) hd0 hd1 (by omega)]
      simp only [Option.bind_some]
      rw [w64 (x88 + 1) (by omega) (by omega)]
    rw [if_neg hc, if_neg hc, show usual.base = 36 from rfl]
    obtain ⟨p0, p1, p4, p2, p3⟩ := pow_step q _ m ht.1 ht.2 h0 hc h1
    rw [w64 (36 - thr usual kk x11) (by omega) (by omega), if_neg (by omega), w64 (q - thr usual kk x11) (by omega) (by omega), Int.tmod_eq_emod_of_nonneg (by omega), w64 (thr usual kk x11 + _) (by omega) (by omega), (letter_is _ (by omega) (by omega)).2]
    simp only [Option.bind_some]
    rw [if_pos (by omega), tdiv_pos _ _ (by omega), w64 ((q - thr usual kk x11) / (36 - thr usual kk x11)) (by omega) (by omega), w64 (kk + 36) (by omega) (by omega)]
    obtain ⟨k', i1, i2⟩ := ih k (out ++ [ltr (thr usual kk x11 + (q - thr usual kk x11) % (36 - thr usual kk x11))]) _ (kk + 36) p0 p1 (by omega) (by omega) (by omega) (by omega) (by rw [List.length_append, List.length_singleton]; omega)
    refine ⟨k', by omega, ?_⟩
    rw [i2, List.append_assoc]
    rfl
/-- the least one from n on -/
theorem nxtM_spec (n : Int) : ∀ (l : List Int) (m : Int), nxtM n l m ≤ m ∧ (∀ r ∈ l, n ≤ r → nxtM n l m ≤ r) ∧ (nxtM n l m = m ∨ (nxtM n l m ∈ l ∧ n ≤ nxtM n l m)) := by
  intro l
  induction l with
  | nil => intro m; exact ⟨Int.le_refl _, fun r hr => by simp at hr, Or.inl rfl⟩
  | cons r l ih =>
    intro m
    rw [nxtM]
    obtain ⟨h1, h2, h3⟩ := ih (if n ≤ r ∧ r < m then r else m)
    generalize nxtM n l (if n ≤ r ∧ r < m then r else m) = M at *
    by_cases hc : n ≤ r ∧ r < m
    · rw [if_pos hc] at h1 h3
      refine ⟨by omega, fun x hx hn => ?_, Or.inr ?_⟩
      · rcases List.mem_cons.1 hx with rfl | hx
        · exact h1
        · exact h2 x hx hn
      · rcases h3 with h3 | ⟨h3, h4⟩
        · exact ⟨by rw [h3]; exact List.mem_cons_self .., by omega⟩
        · exact ⟨List.mem_cons_of_mem _ h3, h4⟩
    · rw [if_neg hc] at h1 h3
      refine ⟨h1, fun x hx hn => ?_, ?_⟩
      · rcases List.mem_cons.1 hx with rfl | hx
        · omega
        · exact h2 x hx hn
      · rcases h3 with h3 | ⟨h3, h4⟩
        · exact Or.inl h3
        · exact Or.inr ⟨List.mem_cons_of_mem _ h3, h4⟩
theorem nxtM_two (n : Int) (l : List Int) (hl : ∀ r ∈ l, r ≤ 1114111) (he : ∃ r ∈ l, n ≤ r) : nxtM n l 1114111 = nxtM n l 1114112 ∧ nxtM n l 1114112 ∈ l ∧ n ≤ nxtM n l 1114112 := by
  obtain ⟨a1, a2, a3⟩ := nxtM_spec n l 1114111
  obtain ⟨b1, b2, b3⟩ := nxtM_spec n l 1114112
  obtain ⟨r, hr, hn⟩ := he
  have h1 := hl r hr
  have h2 := b2 r hr hn
  rcases b3 with b3 | ⟨b3, b4⟩
  · omega
  have h4 := hl _ b3
  have h5 := a2 _ b3 b4
  refine ⟨?_, b3, b4⟩
  rcases a3 with a3 | ⟨a3, a4⟩
  · omega
  · have := b2 _ a3 a4
    omega
theorem next_l0 (n : Int) (l : List Int) (hl : ∀ r ∈ l, 0 ≤ r ∧ r ≤ 1114111) (hl2 : l.length ≤ 1048576) : ∀ (L : List Int) (i m : Int) (k : Nat), L = l.drop i.toNat → 0 ≤ i → i ≤ l.length → L.length + 1 ≤ k → puny_next.l0 k n m l l.length i = some (nxtM n L m) := by
  intro L
  induction L with
  | nil =>
    intro i m k h h0 h1 hk
    obtain ⟨k, rfl⟩ : ∃ m, k = m + 1 := ⟨k - 1, by omega⟩
    have := nil_rd h h0
    rw [puny_next.l0, if_neg (by omega)]
    rfl
  | cons r L ih =>
    intro i m k h h0 h1 hk
    obtain ⟨k, rfl⟩ : ∃ m, k = m + 1 := ⟨k - 1, by omega⟩
    obtain ⟨g1, g2, g3⟩ := cons_rd h h0
    rw [List.length_cons] at hk
    have hr : r ∈ l := List.mem_of_mem_drop (h ▸ List.mem_cons_self ..)
    have hr2 := hl r hr
    rw [puny_next.l0, if_pos g1, if_pos h0, if_pos g1, g2, w64 r (by omega) (by omega), w64 (i + 1) (by omega) (by omega), nxtM]
    by_cases hc : r ≥ n
    · rw [if_pos hc, ih (i + 1) _ k g3 (by omega) (by omega) (by omega), mn_is]
      by_cases hm : r < m
      · rw [if_pos hm, if_pos ⟨hc, hm⟩]
      · rw [if_neg hm, if_neg (by omega)]
    · rw [if_neg hc, ih (i + 1) _ k g3 (by omega) (by omega) (by omega), if_neg (by omega)]
theorem next_is (n : Int) (l : List Int) (hl : ∀ r ∈ l, 0 ≤ r ∧ r ≤ 1114111) (hl2 : l.length ≤ 1048576) (k : Nat) (hk : 1048577 ≤ k) : puny_next.f k l n = some (nxtM n l 1114111) :=
  next_l0 n l hl hl2 l 0 1114111 k rfl (by omega) (by omega) (by omega)
end Go.Proofs.YtmjlkifmbhaiiaaDoor.V

set_option linter.unusedVariables false
set_option linter.unusedSimpArgs false
namespace Go.Proofs.YtmjlkifmbhaiiaaDoor.V
open Go.RowKit Go.Proofs.YtmjlkifmbhaiiaaDoorW.PrintWords Go.Proofs.YtmjlkifmbhaiiaaDoorW.PrintLast Go.Proofs.YtmjlkifmbhaiiaaDoorQ.Pt
/-- how many are less than n; how many are n -/
def cnt (n : Int) : List Int → Int
  | [] => 0
  | r :: l => (if r < n then 1 else 0) + cnt n l
def eqs (n : Int) : List Int → Int
  | [] => 0
  | r :: l => (if r = n then 1 else 0) + eqs n l
theorem cnt_le (n : Int) : ∀ l : List Int, 0 ≤ cnt n l ∧ cnt n l ≤ l.length
  | [] => by simp [cnt]
  | r :: l => by
    have := cnt_le n l
    rw [cnt, List.length_cons]
    split <;> omega
theorem eqs_le (n : Int) : ∀ l : List Int, 0 ≤ eqs n l ∧ eqs n l ≤ l.length
  | [] => by simp [eqs]
  | r :: l => by
    have := eqs_le n l
    rw [eqs, List.length_cons]
    split <;> omega
theorem eqs_pos {n : Int} : ∀ {l : List Int}, n ∈ l → 1 ≤ eqs n l
  | r :: l, h => by
    have := eqs_le n l
    rw [eqs]
    rcases List.mem_cons.1 h with rfl | h
    · rw [if_pos rfl]; omega
    · have := eqs_pos h
      split <;> omega
theorem cnt_ex {n : Int} : ∀ {l : List Int}, cnt n l < l.length → ∃ r ∈ l, n ≤ r
  | [], h => by simp [cnt] at h
  | r :: l, h => by
    rw [cnt, List.length_cons] at h
    by_cases hr : r < n
    · rw [if_pos hr] at h
      obtain ⟨x, hx, hn⟩ := cnt_ex (n := n) (l := l) (by omega)
      exact ⟨x, List.mem_cons_of_mem _ hx, hn⟩
    · exact ⟨r, List.mem_cons_self .., by omega⟩
theorem cnt_same {n m : Int} (hnm : n ≤ m) : ∀ {l : List Int}, (∀ r ∈ l, n ≤ r → m ≤ r) → cnt m l = cnt n l
  | [], _ => rfl
  | r :: l, h => by
    have h1 := cnt_same hnm (l := l) fun x hx => h x (List.mem_cons_of_mem _ hx)
    have h2 := h r (List.mem_cons_self ..)
    rw [cnt, cnt, h1]
    by_cases hr : r < n
    · rw [if_pos hr, if_pos (by omega)]
    · rw [if_neg hr, if_neg (by have := h2 (by omega); omega)]
theorem cnt_succ (m : Int) : ∀ l : List Int, cnt (m + 1) l = cnt m l + eqs m l
  | [] => rfl
  | r :: l => by
    rw [cnt, cnt, eqs, cnt_succ m l]
    by_cases h1 : r < m
    · rw [if_pos h1, if_pos (by omega), if_neg (by omega)]; omega
    · by_cases h2 : r = m
      · rw [if_neg h1, if_pos (by omega), if_pos h2]; omega
      · rw [if_neg h1, if_neg (by omega), if_neg h2]; omega
/-- what one way leaves -/
theorem scan_ok (n basic : Int) : ∀ (L out : List Int) (delta bias h : Int) (o : List Int) (d b h' : Int), 0 ≤ delta → delta ≤ 2147483647 → 0 ≤ bias → bias ≤ 1099511627776 → 0 ≤ h → (∀ x ∈ out, 0 ≤ x ∧ x ≤ 127) → scan usual n basic L out delta bias h = some (o, d, b, h') →
    0 ≤ d ∧ d ≤ 2147483647 ∧ 0 ≤ b ∧ b ≤ 1099511627776 ∧ h' = h + eqs n L ∧ (o.length : Int) ≤ out.length + 11 * eqs n L ∧ ∀ x ∈ o, 0 ≤ x ∧ x ≤ 127 := by
  intro L
  induction L with
  | nil =>
    intro out delta bias h o d b h' h1 h2 h3 h4 h5 h6 hs
    rw [scan] at hs
    injection hs with hs
    injection hs with e1 hs
    injection hs with e2 hs
    injection hs with e3 e4
    subst e1 e2 e3 e4
    refine ⟨h1, h2, h3, h4, ?_, ?_, h6⟩ <;> rw [eqs] <;> omega
  | cons r L ih =>
    intro out delta bias h o d b h' h1 h2 h3 h4 h5 h6 hs
    rw [scan] at hs
    rw [eqs]
    by_cases c1 : r < n
    · rw [if_pos c1] at hs
      rw [if_neg (by omega)]
      by_cases c2 : 2147483647 < delta + 1
      · rw [if_pos c2] at hs; cases hs
      rw [if_neg c2] at hs
      have := ih out (delta + 1) bias h o d b h' (by omega) (by omega) h3 h4 h5 h6 hs
      rw [Int.zero_add]
      exact this
    rw [if_neg c1] at hs
    by_cases c2 : r = n
    · rw [if_pos c2] at hs
      rw [if_pos c2]
      obtain ⟨-, w1, w2⟩ := wrt_k bias delta h1 h2
      have ha := adp_range usual_ok delta (h + 1) (h == basic) h1 h2 (by omega)
      obtain ⟨g1, g2, g3, g4, g5, g6, g7⟩ := ih _ 0 _ (h + 1) o d b h' (by omega) (by omega) ha.1 ha.2 (by omega) (fun x hx => by
        rcases List.mem_append.1 hx with hx | hx
        · exact h6 x hx
        · exact w2 x hx) hs
      rw [show usual.base = 36 from rfl, List.length_append] at g6
      exact ⟨g1, g2, g3, g4, by omega, by omega, g7⟩
    · rw [if_neg c2] at hs
      rw [if_neg c2, Int.zero_add]
      exact ih out delta bias h o d b h' h1 h2 h3 h4 h5 h6 hs
/-- one way, the program's -/
theorem pscan (x : List Int) (hx : ∀ r ∈ x, 0 ≤ r ∧ r ≤ 1114111) (hx2 : x.length ≤ 1048576) (n basic : Int) : ∀ (L out : List Int) (delta bias h i : Int) (k : Nat), L = x.drop i.toNat → 0 ≤ i → i ≤ x.length → 0 ≤ delta → delta ≤ 2147483647 → 0 ≤ bias → bias ≤ 1099511627776 → 0 ≤ h → h + L.length ≤ 2097152 → out.length + 11 * L.length ≤ 1000000000 → L.length + 5000000000 ≤ k →
    (scan usual n basic L out delta bias h = none → puny_boot_encode.l2 k x out basic n delta bias h x x.length i 36 1 26 38 700 72 128 45 = some (⟨#[]⟩, 0, 142)) ∧
    (∀ o d b h', scan usual n basic L out delta bias h = some (o, d, b, h') → ∃ k' : Nat, k ≤ k' + L.length ∧ puny_boot_encode.l2 k x out basic n delta bias h x x.length i 36 1 26 38 700 72 128 45 = puny_boot_encode.l2 k' x o basic n d b h' x x.length x.length 36 1 26 38 700 72 128 45) := by
  intro L
  induction L with
  | nil =>
    intro out delta bias h i k hL h0 hi h1 h2 h3 h4 h5 h6 h7 hk
    have := nil_rd hL h0
    obtain rfl : i = x.length := by omega
    refine ⟨fun hs => (by rw [scan] at hs; cases hs), fun o d b h' hs => ⟨k, by simp, ?_⟩⟩
    rw [scan] at hs
    injection hs with hs
    injection hs with e1 hs
    injection hs with e2 hs
    injection hs with e3 e4
    subst e1 e2 e3 e4
    rfl
  | cons r L ih =>
    intro out delta bias h i k hL h0 hi h1 h2 h3 h4 h5 h6 h7 hk
    obtain ⟨g1, g2, g3⟩ := cons_rd hL h0
    rw [List.length_cons] at h6 h7 hk
    obtain ⟨k, rfl⟩ : ∃ m, k = m + 1 := ⟨k - 1, by omega⟩
    have hr2 := hx r (List.mem_of_mem_drop (hL ▸ List.mem_cons_self ..))
    rw [puny_boot_encode.l2, if_pos g1, if_pos h0, if_pos g1, g2, w64 r (by omega) (by omega), w64 (i + 1) (by omega) (by omega), w64 (delta + 1) (by omega) (by omega), w64 (h + 1) (by omega) (by omega), scan]
    by_cases c1 : r < n
    · rw [if_pos c1, if_pos c1]
      by_cases c2 : 2147483647 < delta + 1
      · rw [if_pos c2, if_pos (show delta + 1 > 2147483647 from c2)]
        exact ⟨fun _ => rfl, fun o d b h' hs => by cases hs⟩
      rw [if_neg c2, if_neg (show ¬ delta + 1 > 2147483647 from c2)]
      obtain ⟨i1, i2⟩ := ih out (delta + 1) bias h (i + 1) k g3 (by omega) (by omega) (by omega) (by omega) h3 h4 h5 (by omega) (by omega) (by omega)
      refine ⟨i1, fun o d b h' hs => ?_⟩
      obtain ⟨k', q1, q2⟩ := i2 o d b h' hs
      exact ⟨k', by rw [List.length_cons]; omega, q2⟩
    rw [if_neg c1, if_neg c1]
    by_cases c2 : r = n
    · obtain ⟨-, w1, w2⟩ := wrt_k bias delta h1 h2
      have ha := adp_range usual_ok delta (h + 1) (h == basic) h1 h2 (by omega)
      have had : puny_boot_adapted.f k 36 1 26 38 700 72 128 45 delta (h + 1) (h == basic) = some (adp usual delta (h + 1) (h == basic)) := adapted_is usual_ok k (by omega) delta (h + 1) (h == basic) h1 h2 (by omega)
      rw [if_pos c2, if_pos c2, written_is k (by omega) delta bias h1 h2 h3 h4]
      simp only [Option.bind_some]
      rw [if_pos (by omega), had]
      simp only [Option.bind_some]
      rw [if_neg (by omega), show usual.base = 36 from rfl]
      obtain ⟨i1, i2⟩ := ih (out ++ wrt usual bias 1000000 delta 36) 0 (adp usual delta (h + 1) (h == basic)) (h + 1) (i + 1) k g3 (by omega) (by omega) (by omega) (by omega) ha.1 ha.2 (by omega) (by omega) (by rw [List.length_append]; omega) (by omega)
      refine ⟨i1, fun o d b h' hs => ?_⟩
      obtain ⟨k', q1, q2⟩ := i2 o d b h' hs
      exact ⟨k', by rw [List.length_cons]; omega, q2⟩
    rw [if_neg c2, if_neg c2, if_neg (by omega)]
    obtain ⟨i1, i2⟩ := ih out delta bias h (i + 1) k g3 (by omega) (by omega) h1 h2 h3 h4 h5 (by omega) (by omega) (by omega)
    refine ⟨i1, fun o d b h' hs => ?_⟩
    obtain ⟨k', q1, q2⟩ := i2 o d b h' hs
    exact ⟨k', by rw [List.length_cons]; omega, q2⟩
/-- one way, the document's -/
theorem rscan (x : List Int) (hx : ∀ r ∈ x, 0 ≤ r ∧ r ≤ 1114111) (hx2 : x.length ≤ 1048576) (n basic : Int) : ∀ (L out : List Int) (delta bias h i : Int) (k : Nat), L = x.drop i.toNat → 0 ≤ i → i ≤ x.length → 0 ≤ delta → delta ≤ 2147483647 → 0 ≤ bias → bias ≤ 1099511627776 → 0 ≤ h → h + L.length ≤ 2097152 → out.length + 11 * L.length ≤ 1000000000 → 13 * L.length + 5000000000 ≤ k →
    (scan usual n basic L out delta bias h = none → posternref14_Encode.l3 k x out basic n delta bias h x x.length i = some (⟨#[]⟩, 0, 142)) ∧
    (∀ o d b h', scan usual n basic L out delta bias h = some (o, d, b, h') → ∃ k' : Nat, k ≤ k' + 13 * L.length ∧ posternref14_Encode.l3 k x out basic n delta bias h x x.length i = posternref14_Encode.l3 k' x o basic n d b h' x x.length x.length) := by
  intro L
  induction L with
  | nil =>
    intro out delta bias h i k hL h0 hi h1 h2 h3 h4 h5 h6 h7 hk
    have := nil_rd hL h0
    obtain rfl : i = x.length := by omega
    refine ⟨fun hs => (by rw [scan] at hs; cases hs), fun o d b h' hs => ⟨k, by simp, ?_⟩⟩
    rw [scan] at hs
    injection hs with hs
    injection hs with e1 hs
    injection hs with e2 hs
    injection hs with e3 e4
    subst e1 e2 e3 e4
    rfl
  | cons r L ih =>
    intro out delta bias h i k hL h0 hi h1 h2 h3 h4 h5 h6 h7 hk
    obtain ⟨g1, g2, g3⟩ := cons_rd hL h0
    rw [List.length_cons] at h6 h7 hk
    obtain ⟨k, rfl⟩ : ∃ m, k = m + 1 + 1 := ⟨k - 2, by omega⟩
    have hr2 := hx r (List.mem_of_mem_drop (hL ▸ List.mem_cons_self ..))
    rw [posternref14_Encode.l3, if_pos g1, if_pos h0, if_pos g1, g2, w64 r (by omega) (by omega), w64 (delta + 1) (by omega) (by omega), scan]
    by_cases c1 : r < n
    · rw [if_pos c1, if_pos c1]
      by_cases c2 : 2147483647 < delta + 1
      · rw [if_pos c2, if_pos (show delta + 1 > 2147483647 from c2)]
        exact ⟨fun _ => rfl, fun o d b h' hs => by cases hs⟩
      rw [if_neg c2, if_neg (show ¬ delta + 1 > 2147483647 from c2), posternref14_Encode.j5, w64 r (by omega) (by omega), if_neg (by omega), w64 (i + 1) (by omega) (by omega)]
      obtain ⟨i1, i2⟩ := ih out (delta + 1) bias h (i + 1) k g3 (by omega) (by omega) (by omega) (by omega) h3 h4 h5 (by omega) (by omega) (by omega)
      refine ⟨i1, fun o d b h' hs => ?_⟩
      obtain ⟨k', q1, q2⟩ := i2 o d b h' hs
      exact ⟨k', by rw [List.length_cons]; omega, q2⟩
    rw [if_neg c1, if_neg c1, posternref14_Encode.j5, w64 r (by omega) (by omega)]
    by_cases c2 : r = n
    · obtain ⟨w0, w1, w2⟩ := wrt_k bias delta h1 h2
      have ha := adp_range usual_ok delta (h + 1) (h == basic) h1 h2 (by omega)
      obtain ⟨k1, v1, v2⟩ := r4_is k x basic n delta bias h x x.length i h3 h4 h1 h2 h5 (by omega) h0 (by omega) 10 k out delta 36 h1 (Int.lt_of_le_of_lt h2 (by decide)) h2 (by omega) (by omega) (by omega) (by omega)
      rw [if_pos c2, if_pos c2, v2, show usual.base = 36 from rfl, ← w0]
      obtain ⟨i1, i2⟩ := ih (out ++ wrt usual bias 1000000 delta 36) 0 (adp usual delta (h + 1) (h == basic)) (h + 1) (i + 1) k1 g3 (by omega) (by omega) (by omega) (by omega) ha.1 ha.2 (by omega) (by omega) (by rw [List.length_append]; omega) (by omega)
      refine ⟨i1, fun o d b h' hs => ?_⟩
      obtain ⟨k', q1, q2⟩ := i2 o d b h' hs
      exact ⟨k', by rw [List.length_cons]; omega, q2⟩
    rw [if_neg c2, if_neg c2, w64 (i + 1) (by omega) (by omega)]
    obtain ⟨i1, i2⟩ := ih out delta bias h (i + 1) k g3 (by omega) (by omega) h1 h2 h3 h4 h5 (by omega) (by omega) (by omega)
    refine ⟨i1, fun o d b h' hs => ?_⟩
    obtain ⟨k', q1, q2⟩ := i2 o d b h' hs
    exact ⟨k', by rw [List.length_cons]; omega, q2⟩
end Go.Proofs.YtmjlkifmbhaiiaaDoor.V

set_option linter.unusedVariables false
set_option linter.unusedSimpArgs false
namespace Go.Proofs.YtmjlkifmbhaiiaaDoor.V
open Go.RowKit Go.Proofs.YtmjlkifmbhaiiaaDoorW.PrintWords Go.Proofs.YtmjlkifmbhaiiaaDoorW.PrintLast Go.Proofs.YtmjlkifmbhaiiaaDoorQ.Pt
/-- what an encoder answers -/
def encR : Option (List Int) → Option (ByteArray × Int × Int)
  | none => some (⟨#[]⟩, 0, 142)
  | some o => if (dec usual o).2.2 = 0 then some (strOfNums o, 0, 0) else some (⟨#[]⟩, 0, 142)
theorem r255 {o : List Int} (ho : ∀ x ∈ o, 0 ≤ x ∧ x ≤ 127) : ∀ x ∈ o, 0 ≤ x ∧ x ≤ 255 := fun x hx => by have := ho x hx; omega
theorem pfin (o : List Int) (ho : ∀ x ∈ o, 0 ≤ x ∧ x ≤ 127) (hl : o.length ≤ 16777216) : ((puny_boot_decode.f 36 1 26 38 700 72 128 45 (strOfNums o)).bind fun bt => (if bt.2.2 = 0 then (some (strOfNums o, (0 : Int), (0 : Int))) else (some ((⟨#[]⟩ : ByteArray), 0, 142)))) = encR (some o) := by
  have e : puny_boot_decode.f 36 1 26 38 700 72 128 45 (strOfNums o) = some (dec usual o) := by
    unfold puny_boot_decode.f decF
    rw [if_pos ⟨ok_okB usual_ok, by rw [strOfNums_size]; omega⟩, bytesOf_strOfNums o (r255 ho)]
    rfl
  rw [e]
  rfl
theorem rfin (k : Nat) (hk : 563000000000000 ≤ k) (o : List Int) (ho : ∀ x ∈ o, 0 ≤ x ∧ x ≤ 127) (hl : o.length ≤ 16777216) : ((posternref14_Decode.f k (strOfNums o)).bind fun bt => (if bt.2.2 = 0 then (some (strOfNums o, (0 : Int), (0 : Int))) else (some ((⟨#[]⟩ : ByteArray), 0, 142)))) = encR (some o) := by
  rw [RDecode_is (strOfNums o) (by rw [strOfNums_size]; omega) k hk, bytesOf_strOfNums o (r255 ho)]
  rfl
theorem prod_range (m n h : Int) (h0 : n ≤ m) (h1 : m ≤ 1114111) (h2 : 0 ≤ n) (h3 : 0 ≤ h) (h4 : h ≤ 1048576) : 0 ≤ (m - n) * (h + 1) ∧ (m - n) * (h + 1) ≤ 1114111 * 1048577 :=
  ⟨Int.mul_nonneg (by omega) (by omega), Int.mul_le_mul (by omega) (by omega) (by omega) (by omega)⟩
theorem encG_done (basic : Int) (x : List Int) (f : Nat) (out : List Int) (n delta bias h : Int) (hh : x.length ≤ h) : encG usual basic x (f + 1) out n delta bias h = some out := by rw [encG, if_pos hh]
theorem fuel_a (f k k' C E L : Nat) (hk : (f + 1) * C + E ≤ k + 1) (q1 : k ≤ k' + 1 + L) (hL : L + 2 ≤ C) : f * C + E ≤ k' := by
  rw [Nat.succ_mul] at hk
  generalize f * C = F at *
  omega
/-- all rounds, the program's -/
theorem penc (x : List Int) (hx : ∀ r ∈ x, 0 ≤ r ∧ r ≤ 1114111) (hx2 : x.length ≤ 1048576) (basic : Int) : ∀ (f : Nat) (out : List Int) (n delta bias h : Int) (k : Nat), h = cnt n x → 0 ≤ n → n ≤ 1114112 → 0 ≤ delta → delta ≤ 2147483648 → 0 ≤ bias → bias ≤ 1099511627776 → (∀ y ∈ out, 0 ≤ y ∧ y ≤ 127) → (out.length : Int) ≤ 1048577 + 11 * h → (x.length : Int) - h < f → f * 1048600 + 6000000000 ≤ k →
    puny_boot_encode.l1 k x out basic n delta bias h 36 1 26 38 700 72 128 45 = encR (encG usual basic x f out n delta bias h) := by
  intro f
  induction f with
  | zero =>
    intro out n delta bias h k hh hn0 hn1 h1 h2 h3 h4 ho hol hf hk
    have := cnt_le n x
    omega
  | succ f ih =>
    intro out n delta bias h k hh hn0 hn1 h1 h2 h3 h4 ho hol hf hk
    have hc := cnt_le n x
    obtain ⟨k, rfl⟩ : ∃ m, k = m + 1 := ⟨k - 1, by omega⟩
    rw [puny_boot_encode.l1]
    by_cases hd : (x.length : Int) ≤ h
    · rw [if_neg (by omega), encG_done basic x f out n delta bias h hd, pfin out ho (by omega)]
    obtain ⟨t1, t2, t3⟩ := nxtM_two n x (fun r hr => (hx r hr).2) (cnt_ex (by omega))
    obtain ⟨s1, s2, s3⟩ := nxtM_spec n x 1114112
    rw [if_pos (by omega), next_is n x hx hx2 k (by omega), encG, if_neg hd, t1]
    simp only [Option.bind_some]
    generalize nxtM n x 1114112 = m at *
    have hm := (hx m t2).2
    have hP := prod_range m n h t3 hm hn0 (by omega) (by omega)
    rw [w64 (m - n) (by omega) (by omega), w64 (h + 1) (by omega) (by omega)]
    generalize (m - n) * (h + 1) = P at *
    rw [w64 P (by omega) (by omega), w64 (delta + P) (by omega) (by omega)]
    by_cases hov : 2147483647 < delta + P
    · rw [if_pos hov, if_pos (show delta + P > 2147483647 from hov)]; rfl
    rw [if_neg hov, if_neg (show ¬ delta + P > 2147483647 from hov)]
    obtain ⟨p1, p2⟩ := pscan x hx hx2 m basic x out (delta + P) bias h 0 k rfl (by omega) (by omega) (by omega) (by omega) h3 h4 (by omega) (by omega) (by omega) (by omega)
    have hsk := scan_ok m basic x out (delta + P) bias h
    have hcm : cnt m x = h := by rw [cnt_same t3 s2]; exact hh.symm
    rcases hsc : scan usual m basic x out (delta + P) bias h with _ | ⟨o, d, b, h'⟩
    · rw [p1 hsc]; rfl
    obtain ⟨k', q1, q2⟩ := p2 o d b h' hsc
    obtain ⟨e1, e2, e3, e4, e5, e6, e7⟩ := hsk o d b h' (by omega) (by omega) h3 h4 (by omega) ho hsc
    rw [q2]
    have hE := eqs_pos t2
    have hcs := cnt_succ m x
    have hcl := cnt_le (m + 1) x
    show _ = encR (encG usual basic x f o (m + 1) (d + 1) b h')
    obtain ⟨k', rfl⟩ : ∃ m, k' = m + 1 := ⟨k' - 1, by omega⟩
    rw [puny_boot_encode.l2, if_neg (by omega)]
    by_cases hd2 : h' = x.length
    · obtain ⟨f, rfl⟩ : ∃ m, f = m + 1 := ⟨f - 1, by omega⟩
      rw [if_pos hd2, encG_done basic x f o (m + 1) (d + 1) b h' (by omega), pfin o e7 (by omega)]
    rw [if_neg hd2, w64 (d + 1) (by omega) (by omega), w64 (m + 1) (by omega) (by omega)]
    have hi := ih o (m + 1) (d + 1) b h' k' (by omega) (by omega) (by omega) (by omega) (by omega) e3 e4 e7 (by omega) (by omega) (fuel_a f k k' _ _ x.length hk q1 (by omega))
    by_cases hov2 : d + 1 > 2147483647
    · obtain ⟨f, rfl⟩ : ∃ m, f = m + 1 := ⟨f - 1, by omega⟩
      obtain ⟨u1, u2, u3⟩ := nxtM_two (m + 1) x (fun r hr => (hx r hr).2) (cnt_ex (by omega))
      have hP2 := prod_range _ (m + 1) h' u3 (hx _ u2).2 (by omega) (by omega) (by omega)
      rw [if_pos hov2, encG, if_neg (by omega), if_pos (by omega)]
      rfl
    · rw [if_neg hov2]
      exact hi
/-- the least code point, the document's way -/
theorem rnext (x : List Int) (hx : ∀ r ∈ x, 0 ≤ r ∧ r ≤ 1114111) (hx2 : x.length ≤ 1048576) (out : List Int) (basic n delta bias h : Int) : ∀ (L : List Int) (i m : Int) (k : Nat), L = x.drop i.toNat → 0 ≤ i → i ≤ x.length → L.length ≤ k → posternref14_Encode.l2 k x out basic n delta bias h m x x.length i = posternref14_Encode.l2 (k - L.length) x out basic n delta bias h (nxtM n L m) x x.length x.length := by
  intro L
  induction L with
  | nil =>
    intro i m k hL h0 hi hk
    have := nil_rd hL h0
    obtain rfl : i = x.length := by omega
    rfl
  | cons r L ih =>
    intro i m k hL h0 hi hk
    obtain ⟨g1, g2, g3⟩ := cons_rd hL h0
    rw [List.length_cons] at hk
    obtain ⟨k, rfl⟩ : ∃ m, k = m + 1 := ⟨k - 1, by omega⟩
    have hr2 := hx r (List.mem_of_mem_drop (hL ▸ List.mem_cons_self ..))
    have e : k + 1 - (r :: L).length = k - L.length := by rw [List.length_cons]; omega
    rw [e, posternref14_Encode.l2, if_pos g1, if_pos h0, if_pos g1, g2, w64 r (by omega) (by omega), w64 (i + 1) (by omega) (by omega), nxtM]
    by_cases hc : r ≥ n
    · rw [if_pos hc]
      by_cases hm : r < m
      · rw [if_pos hm, if_pos ⟨hc, hm⟩, ih (i + 1) _ k g3 (by omega) (by omega) (by omega)]
      · rw [if_neg hm, if_neg (by omega), ih (i + 1) _ k g3 (by omega) (by omega) (by omega)]
    · rw [if_neg hc, if_neg (by omega), ih (i + 1) _ k g3 (by omega) (by omega) (by omega)]
/-- all rounds, the document's -/
theorem renc (x : List Int) (hx : ∀ r ∈ x, 0 ≤ r ∧ r ≤ 1114111) (hx2 : x.length ≤ 1048576) (basic : Int) : ∀ (f : Nat) (out : List Int) (n delta bias h : Int) (k : Nat), h = cnt n x → 0 ≤ n → n ≤ 1114112 → 0 ≤ delta → delta ≤ 2147483648 → 0 ≤ bias → bias ≤ 1099511627776 → (∀ y ∈ out, 0 ≤ y ∧ y ≤ 127) → (out.length : Int) ≤ 1048577 + 11 * h → (x.length : Int) - h < f → f * 14680100 + 563000000000001 ≤ k →
    posternref14_Encode.l1 k x out basic n delta bias h = encR (encG usual basic x f out n delta bias h) := by
  intro f
  induction f with
  | zero =>
    intro out n delta bias h k hh hn0 hn1 h1 h2 h3 h4 ho hol hf hk
    have := cnt_le n x
    omega
  | succ f ih =>
    intro out n delta bias h k hh hn0 hn1 h1 h2 h3 h4 ho hol hf hk
    have hc := cnt_le n x
    obtain ⟨k, rfl⟩ : ∃ m, k = m + 1 := ⟨k - 1, by omega⟩
    rw [posternref14_Encode.l1]
    by_cases hd : (x.length : Int) ≤ h
    · rw [if_neg (by omega), encG_done basic x f out n delta bias h hd, rfin k (by omega) out ho (by omega)]
    obtain ⟨t1, t2, t3⟩ := nxtM_two n x (fun r hr => (hx r hr).2) (cnt_ex (by omega))
    obtain ⟨s1, s2, s3⟩ := nxtM_spec n x 1114112
    rw [if_pos (by omega), rnext x hx hx2 out basic n delta bias h x 0 1114112 k rfl (by omega) (by omega) (by omega), encG, if_neg hd]
    generalize nxtM n x 1114112 = m at *
    have hm := (hx m t2).2
    have hP := prod_range m n h t3 hm hn0 (by omega) (by omega)
    obtain ⟨k2, hk2⟩ : ∃ q, k - x.length = q + 1 := ⟨k - x.length - 1, by omega⟩
    rw [hk2, posternref14_Encode.l2, if_neg (by omega), w64 (m - n) (by omega) (by omega), w64 (h + 1) (by omega) (by omega)]
    generalize (m - n) * (h + 1) = P at *
    rw [w64 P (by omega) (by omega), w64 (delta + P) (by omega) (by omega)]
    by_cases hov : 2147483647 < delta + P
    · rw [if_pos hov, if_pos (show delta + P > 2147483647 from hov)]; rfl
    rw [if_neg hov, if_neg (show ¬ delta + P > 2147483647 from hov)]
    obtain ⟨p1, p2⟩ := rscan x hx hx2 m basic x out (delta + P) bias h 0 k2 rfl (by omega) (by omega) (by omega) (by omega) h3 h4 (by omega) (by omega) (by omega) (by omega)
    have hsk := scan_ok m basic x out (delta + P) bias h
    have hcm : cnt m x = h := by rw [cnt_same t3 s2]; exact hh.symm
    rcases hsc : scan usual m basic x out (delta + P) bias h with _ | ⟨o, d, b, h'⟩
    · rw [p1 hsc]; rfl
    obtain ⟨k', q1, q2⟩ := p2 o d b h' hsc
    obtain ⟨e1, e2, e3, e4, e5, e6, e7⟩ := hsk o d b h' (by omega) (by omega) h3 h4 (by omega) ho hsc
    rw [q2]
    have hE := eqs_pos t2
    have hcs := cnt_succ m x
    have hcl := cnt_le (m + 1) x
    show _ = encR (encG usual basic x f o (m + 1) (d + 1) b h')
    obtain ⟨k', rfl⟩ : ∃ m, k' = m + 1 := ⟨k' - 1, by omega⟩
    rw [posternref14_Encode.l3, if_neg (by omega), w64 (d + 1) (by omega) (by omega), w64 (m + 1) (by omega) (by omega)]
    exact ih o (m + 1) (d + 1) b h' k' (by omega) (by omega) (by omega) (by omega) (by omega) e3 e4 e7 (by omega) (by omega) (fuel_a f k k' _ _ (14 * x.length + 1) hk (by omega) (by omega))
end Go.Proofs.YtmjlkifmbhaiiaaDoor.V

set_option linter.unusedVariables false
set_option linter.unusedSimpArgs false
namespace Go.Proofs.YtmjlkifmbhaiiaaDoor.V
open Go.RowKit Go.Proofs.YtmjlkifmbhaiiaaDoorW.PrintWords Go.Proofs.YtmjlkifmbhaiiaaDoorW.PrintLast Go.Proofs.YtmjlkifmbhaiiaaDoorQ.Pt
set_option maxRecDepth 100000 in
theorem awake2 : posternlaw14_awake.f 1125899906842624 = some true := by decide +kernel
theorem bas_us (r : Int) : bas usual r = decide (r < 128) := by
  unfold bas
  rw [show usual.first = 128 from rfl]
  exact decide_eq_decide.2 ⟨fun h => h.1, fun h => ⟨h, h⟩⟩
theorem pbas (r : Int) (h0 : 0 ≤ r) (h1 : r ≤ 1114111) : puny_boot_basic.f 36 1 26 38 700 72 128 45 r = some (bas usual r) := by
  unfold puny_boot_basic.f
  rw [bas_us, w64 r (by omega) (by omega)]
  by_cases h : r < 128
  · rw [if_pos h]
  · rw [if_neg h, decide_eq_false h]
theorem scl_range {r : Int} (h : scl r = true) : 0 ≤ r ∧ r ≤ 1114111 := by
  have := of_decide_eq_true h
  omega
theorem cnt_filter : ∀ l : List Int, ((l.filter (bas usual)).length : Int) = cnt 128 l
  | [] => rfl
  | r :: l => by
    have := cnt_filter l
    rw [cnt, List.filter_cons, bas_us]
    by_cases h : r < 128
    · rw [if_pos h, if_pos (by simpa using h), List.length_cons]; omega
    · rw [if_neg h, if_neg (by simpa using h)]; omega
theorem chk_us (l : List Int) : chk usual l = if 0 ≤ fstB (fun r => !scl r) l 0 then (fstB (fun r => !scl r) l 0, 20) else (0, 0) := by
  unfold chk
  by_cases h : 0 ≤ fstB (fun r => !scl r) l 0
  · rw [if_pos h, if_pos h]
  rw [if_neg h, if_neg h, if_neg]
  intro hh
  obtain ⟨x, -, hx⟩ := (fstB_none (odd usual) l 0 (by omega)).1 hh
  unfold odd at hx
  rw [show usual.first = 128 from rfl] at hx
  by_cases h : x < 128 <;> simp [h] at hx
theorem all_scl {l : List Int} (h : ¬ 0 ≤ fstB (fun r => !scl r) l 0) : ∀ r ∈ l, scl r = true := by
  intro r hr
  by_cases hs : scl r = true
  · exact hs
  · exact absurd ((fstB_none (fun r => !scl r) l 0 (by omega)).2 ⟨r, hr, by simp [hs]⟩) h
/-- the basic ones, the program's way -/
theorem pl0 (x : List Int) (hx : ∀ r ∈ x, scl r = true) (hx2 : x.length ≤ 1048576) : ∀ (L out : List Int) (i : Int) (k : Nat), L = x.drop i.toNat → 0 ≤ i → i ≤ x.length → out.length + L.length ≤ 1048576 → L.length + 1 ≤ k →
    puny_boot_encode.l0 k x out x x.length i 36 1 26 38 700 72 128 45 = (if ((out ++ L.filter (bas usual)).length : Int) > 0 then puny_boot_encode.j1 (k - (L.length + 1)) x (out ++ L.filter (bas usual) ++ [45]) (out ++ L.filter (bas usual)).length 36 1 26 38 700 72 128 45 else puny_boot_encode.j1 (k - (L.length + 1)) x (out ++ L.filter (bas usual)) (out ++ L.filter (bas usual)).length 36 1 26 38 700 72 128 45) := by
  intro L
  induction L with
  | nil =>
    intro out i k hL h0 hi ho hk
    have := nil_rd hL h0
    obtain ⟨k, rfl⟩ : ∃ m, k = m + 1 := ⟨k - 1, by omega⟩
    rw [puny_boot_encode.l0, if_neg (by omega), List.filter_nil, List.append_nil]
    by_cases h : (out.length : Int) > 0
    · rw [if_pos h, if_pos h, if_pos (by omega)]
      rfl
    · rw [if_neg h, if_neg h]
      rfl
  | cons r L ih =>
    intro out i k hL h0 hi ho hk
    obtain ⟨g1, g2, g3⟩ := cons_rd hL h0
    rw [List.length_cons] at hk ho
    obtain ⟨k, rfl⟩ : ∃ m, k = m + 1 := ⟨k - 1, by omega⟩
    have hr2 := scl_range (hx r (List.mem_of_mem_drop (hL ▸ List.mem_cons_self ..)))
    have e : k + 1 - ((r :: L).length + 1) = k - (L.length + 1) := by rw [List.length_cons]; omega
    rw [e, puny_boot_encode.l0, if_pos g1, if_pos h0, if_pos g1, g2, pbas r hr2.1 hr2.2, List.filter_cons, w64 (i + 1) (by omega) (by omega)]
    simp only [Option.bind_some]
    by_cases h : bas usual r = true
    · have h128 : r < 128 := by rw [bas_us] at h; exact of_decide_eq_true h
      have e2 : out ++ r :: L.filter (bas usual) = (out ++ [r]) ++ L.filter (bas usual) := by simp
      rw [if_pos h, if_pos (by omega), if_pos h, show r % 256 = r by omega, ih (out ++ [r]) (i + 1) k g3 (by omega) (by omega) (by rw [List.length_append, List.length_singleton]; omega) (by omega), e2]
    · rw [if_neg h, if_neg h, ih out (i + 1) k g3 (by omega) (by omega) (by omega) (by omega)]
/-- the basic ones, the document's way -/
theorem rl0 (x : List Int) (hx : ∀ r ∈ x, scl r = true) (hx2 : x.length ≤ 1048576) : ∀ (L out : List Int) (i : Int) (k : Nat), L = x.drop i.toNat → 0 ≤ i → i ≤ x.length → out.length + L.length ≤ 1048576 → L.length + 1 ≤ k →
    posternref14_Encode.l0 k x out x x.length i = (if ((out ++ L.filter (bas usual)).length : Int) > 0 then posternref14_Encode.j1 (k - (L.length + 1)) x (out ++ L.filter (bas usual) ++ [45]) (out ++ L.filter (bas usual)).length else posternref14_Encode.j1 (k - (L.length + 1)) x (out ++ L.filter (bas usual)) (out ++ L.filter (bas usual)).length) := by
  intro L
  induction L with
  | nil =>
    intro out i k hL h0 hi ho hk
    have := nil_rd hL h0
    obtain ⟨k, rfl⟩ : ∃ m, k = m + 1 := ⟨k - 1, by omega⟩
    rw [posternref14_Encode.l0, if_neg (by omega), List.filter_nil, List.append_nil]
    by_cases h : (out.length : Int) > 0
    · rw [if_pos h, if_pos h, if_pos (by omega)]
      rfl
    · rw [if_neg h, if_neg h]
      rfl
  | cons r L ih =>
    intro out i k hL h0 hi ho hk
    obtain ⟨g1, g2, g3⟩ := cons_rd hL h0
    rw [List.length_cons] at hk ho
    obtain ⟨k, rfl⟩ : ∃ m, k = m + 1 := ⟨k - 1, by omega⟩
    have hsc := hx r (List.mem_of_mem_drop (hL ▸ List.mem_cons_self ..))
    have hr2 := scl_range hsc
    have e : k + 1 - ((r :: L).length + 1) = k - (L.length + 1) := by rw [List.length_cons]; omega
    rw [e, posternref14_Encode.l0, if_pos g1, if_pos h0, if_pos g1, g2, rscl_is, w64 (i + 1) (by omega) (by omega)]
    simp only [Option.bind_some]
    rw [if_pos hsc]
    by_cases h : r < 128
    · have e2 : out ++ r :: L.filter (bas usual) = (out ++ [r]) ++ L.filter (bas usual) := by simp
      have hF : (r :: L).filter (bas usual) = r :: L.filter (bas usual) := by rw [List.filter_cons, if_pos (by rw [bas_us]; simpa using h)]
      rw [if_pos h, if_pos (by omega), hF, show r % 256 = r by omega, ih (out ++ [r]) (i + 1) k g3 (by omega) (by omega) (by rw [List.length_append, List.length_singleton]; omega) (by omega), e2]
    · have hF : (r :: L).filter (bas usual) = L.filter (bas usual) := by rw [List.filter_cons, if_neg (by rw [bas_us]; simpa using h)]
      rw [if_neg h, hF, ih out (i + 1) k g3 (by omega) (by omega) (by omega) (by omega)]
/-- a code point that is none, the document's way -/
theorem rbad (x : List Int) (hx2 : x.length ≤ 1048576) : ∀ (L out : List Int) (i : Int) (k : Nat), L = x.drop i.toNat → 0 ≤ i → i ≤ x.length → out.length + L.length ≤ 1048576 → L.length + 1 ≤ k → 0 ≤ fstB (fun r => !scl r) L i →
    posternref14_Encode.l0 k x out x x.length i = some (⟨#[]⟩, fstB (fun r => !scl r) L i, 20) := by
  intro L
  induction L with
  | nil => intro out i k hL h0 hi ho hk hf; simp [fstB] at hf
  | cons r L ih =>
    intro out i k hL h0 hi ho hk hf
    obtain ⟨g1, g2, g3⟩ := cons_rd hL h0
    rw [List.length_cons] at hk ho
    obtain ⟨k, rfl⟩ : ∃ m, k = m + 1 := ⟨k - 1, by omega⟩
    rw [fstB] at hf ⊢
    rw [posternref14_Encode.l0, if_pos g1, if_pos h0, if_pos g1, g2, rscl_is, w64 (i + 1) (by omega) (by omega)]
    simp only [Option.bind_some]
    by_cases hsc : scl r = true
    · have hn : ¬ (!scl r) = true := by simp [hsc]
      rw [if_neg hn] at hf ⊢
      have hr2 := scl_range hsc
      rw [if_pos hsc]
      by_cases h : r < 128
      · rw [if_pos h, if_pos (by omega), ih (out ++ [r % 256]) (i + 1) k g3 (by omega) (by omega) (by rw [List.length_append, List.length_singleton]; omega) (by omega) hf]
      · rw [if_neg h, ih out (i + 1) k g3 (by omega) (by omega) (by omega) (by omega) hf]
    · have hn : (!scl r) = true := by simp [hsc]
      rw [if_pos hn, if_neg hsc]
/-- what the encoders answer -/
def encP (l : List Int) : ByteArray × Int × Int := (strOfNums (enc usual l).1, (enc usual l).2.1, (enc usual l).2.2)
theorem enc_bad {l : List Int} (h : 0 ≤ fstB (fun r => !scl r) l 0) : encP l = (⟨#[]⟩, fstB (fun r => !scl r) l 0, 20) := by
  have e : enc usual l = ([], fstB (fun r => !scl r) l 0, 20) := by
    unfold enc
    rw [chk_us, if_pos h, if_pos (by simp)]
  unfold encP
  rw [e]
  rfl
def bs (l : List Int) : List Int := l.filter (bas usual)
theorem enc_good {l : List Int} (h : ¬ 0 ≤ fstB (fun r => !scl r) l 0) : some (encP l) = encR (encG usual (bs l).length l (l.length + 1) (if bs l = [] then [] else bs l ++ [45]) 128 0 72 (bs l).length) := by
  have e : ∀ E, encG usual (bs l).length l (l.length + 1) (if bs l = [] then [] else bs l ++ [45]) 128 0 72 (bs l).length = E → enc usual l = (match E with
    | none => ([], 0, 142)
    | some out => if (dec usual out).2.2 = 0 then (out, 0, 0) else ([], 0, 142)) := by
    intro E hE
    unfold enc
    rw [chk_us, if_neg h, if_neg (by simp), ← hE]
    rfl
  have e2 := e _ rfl
  unfold encP
  rw [e2]
  cases encG usual (bs l).length l (l.length + 1) (if bs l = [] then [] else bs l ++ [45]) 128 0 72 (bs l).length with
  | none => rfl
  | some o =>
    unfold encR
    simp only
    split <;> rfl
theorem bs_ok {l : List Int} (h : ∀ r ∈ l, scl r = true) (hl : l.length ≤ 1048576) : (∀ y ∈ (if bs l = [] then [] else bs l ++ [45]), 0 ≤ y ∧ y ≤ 127) ∧ ((if bs l = [] then [] else bs l ++ [45]).length : Int) ≤ 1048577 + 11 * (bs l).length ∧ ((bs l).length : Int) = cnt 128 l ∧ (bs l).length ≤ l.length := by
  have h4 : (bs l).length ≤ l.length := List.length_filter_le _ _
  refine ⟨fun y hy => ?_, ?_, cnt_filter l, h4⟩
  · split at hy
    · simp at hy
    · rcases List.mem_append.1 hy with hy | hy
      · have h1 := List.mem_filter.1 hy
        have h2 := scl_range (h y h1.1)
        have h3 := h1.2
        rw [bas_us] at h3
        have := of_decide_eq_true h3
        omega
      · simp only [List.mem_singleton] at hy; omega
  · split
    · simp only [List.length_nil]; omega
    · rw [List.length_append, List.length_singleton]; omega
theorem PEnc_is (l : List Int) (hi : i32B l = true) (hl : l.length ≤ 1048576) (k : Nat) (hk : 2000000000000 ≤ k) : puny_Encode.f k l = some (encP l) := by
  unfold puny_Encode.f puny_Usual.f
  simp only [Option.bind_some]
  have e : puny_boot_encode.f k 36 1 26 38 700 72 128 45 l = some (encP l) := by
    unfold puny_boot_encode.f
    have hc : puny_boot_check.f 36 1 26 38 700 72 128 45 l = some (chk usual l) := by
      unfold puny_boot_check.f chkF
      rw [if_pos ⟨by omega, hi⟩]
      rfl
    rw [hc, chk_us]
    simp only [Option.bind_some]
    by_cases h : 0 ≤ fstB (fun r => !scl r) l 0
    · rw [if_pos h, if_neg (by simp), enc_bad h]
    rw [if_neg h, if_pos rfl]
    have ha := all_scl h
    obtain ⟨b1, b2, b3, b4⟩ := bs_ok ha hl
    have hp := pl0 l ha hl l [] 0 k rfl (by omega) (by omega) (by simpa using hl) (by omega)
    rw [List.nil_append] at hp
    have hp' : puny_boot_encode.l0 k l [] l l.length 0 36 1 26 38 700 72 128 45 = (if ((bs l).length : Int) > 0 then puny_boot_encode.j1 (k - (l.length + 1)) l (bs l ++ [45]) (bs l).length 36 1 26 38 700 72 128 45 else puny_boot_encode.j1 (k - (l.length + 1)) l (bs l) (bs l).length 36 1 26 38 700 72 128 45) := hp
    have hpe := penc l (fun r hr => scl_range (ha r hr)) hl (bs l).length (l.length + 1) (if bs l = [] then [] else bs l ++ [45]) 128 0 72 (bs l).length
    obtain ⟨q, hq⟩ : ∃ q, k - (l.length + 1) = q + 1 := ⟨k - (l.length + 1) - 1, by omega⟩
    have hpe' := hpe q b3 (by omega) (by omega) (by omega) (by omega) (by omega) (by omega) b1 b2 (by omega) (by omega)
    rw [hp', hq, enc_good h, ← hpe']
    by_cases hb : bs l = []
    · rw [hb, if_neg (by simp), if_pos rfl, puny_boot_encode.j1]
    · have : 0 < (bs l).length := List.length_pos_iff.2 hb
      rw [if_pos (by omega), if_neg hb, puny_boot_encode.j1]
  rw [e]
  rfl
theorem REnc_is (l : List Int) (hl : l.length ≤ 1048576) (k : Nat) (hk : 600000000000000 ≤ k) : posternref14_Encode.f k l = some (encP l) := by
  unfold posternref14_Encode.f
  by_cases h : 0 ≤ fstB (fun r => !scl r) l 0
  · rw [enc_bad h]
    exact rbad l hl l [] 0 k rfl (by omega) (by omega) (by simpa using hl) (by omega) h
  have ha := all_scl h
  obtain ⟨b1, b2, b3, b4⟩ := bs_ok ha hl
  have hp := rl0 l ha hl l [] 0 k rfl (by omega) (by omega) (by simpa using hl) (by omega)
  rw [List.nil_append] at hp
  have hp' : posternref14_Encode.l0 k l [] l l.length 0 = (if ((bs l).length : Int) > 0 then posternref14_Encode.j1 (k - (l.length + 1)) l (bs l ++ [45]) (bs l).length else posternref14_Encode.j1 (k - (l.length + 1)) l (bs l) (bs l).length) := hp
  have hpe := renc l (fun r hr => scl_range (ha r hr)) hl (bs l).length (l.length + 1) (if bs l = [] then [] else bs l ++ [45]) 128 0 72 (bs l).length
  obtain ⟨q, hq⟩ : ∃ q, k - (l.length + 1) = q + 1 := ⟨k - (l.length + 1) - 1, by omega⟩
  have hpe' := hpe q b3 (by omega) (by omega) (by omega) (by omega) (by omega) (by omega) b1 b2 (by omega) (by omega)
  rw [hp', hq, enc_good h, ← hpe']
  by_cases hb : bs l = []
  · rw [hb, if_neg (by simp), if_pos rfl, posternref14_Encode.j1]
  · have : 0 < (bs l).length := List.length_pos_iff.2 hb
    rw [if_pos (by omega), if_neg hb, posternref14_Encode.j1]
end Go.Proofs.YtmjlkifmbhaiiaaDoor.V

set_option linter.unusedVariables false
set_option linter.unusedSimpArgs false
namespace Go.Proofs.YtmjlkifmbhaiiaaDoor.V
open Go.RowKit Go.Proofs.YtmjlkifmbhaiiaaDoorW.PrintWords Go.Proofs.YtmjlkifmbhaiiaaDoorW.PrintLast
theorem dgt_us (d : Int) (h0 : 0 ≤ d) (h1 : d < 36) : dgt usual (ltr d) = d := dgt_ltr usual_ok d h0 h1
theorem num_nil (b at_ i w k : Int) : num usual b [] at_ i w k = (140, at_, i, []) := by rw [num]
/-- a delta written is read again, or it is too great -/
theorem num_wrt (b : Int) (rest : List Int) : ∀ (m : Nat) (q kk at_ i w : Int), 0 ≤ q → q < 10 ^ m →
    (num usual b (wrt usual b (m + 1) q kk ++ rest) at_ i w kk).1 = 142 ∨ num usual b (wrt usual b (m + 1) q kk ++ rest) at_ i w kk = (0, at_ + (wrt usual b (m + 1) q kk).length, i + q * w, rest) := by
  intro m
  induction m with
  | zero =>
    intro q kk at_ i w h0 h1
    have ht := thr_us kk b
    simp only [Int.pow_zero] at h1
    rw [wrt, if_pos (by omega), List.singleton_append, num, dgt_us q h0 (by omega), if_neg (by omega)]
    by_cases hov : 2147483647 < i + q * w
    · rw [if_pos hov]; exact Or.inl rfl
    rw [if_neg hov, if_pos (by omega)]
    exact Or.inr rfl
  | succ m ih =>
    intro q kk at_ i w h0 h1
    have ht := thr_us kk b
    rw [wrt]
    by_cases hc : q < thr usual kk b
    · rw [if_pos hc, List.singleton_append, num, dgt_us q h0 (by omega), if_neg (by omega)]
      by_cases hov : 2147483647 < i + q * w
      · rw [if_pos hov]; exact Or.inl rfl
      rw [if_neg hov, if_pos hc]
      exact Or.inr rfl
    obtain ⟨p0, p1, p4, p2, p3⟩ := pow_step q _ m ht.1 ht.2 h0 hc h1
    rw [if_neg hc, show usual.base = 36 from rfl, List.cons_append, num, dgt_us _ (by omega) (by omega), if_neg (by omega), show usual.base = 36 from rfl]
    have hq : q = (thr usual kk b + (q - thr usual kk b) % (36 - thr usual kk b)) + (q - thr usual kk b) / (36 - thr usual kk b) * (36 - thr usual kk b) := by
      have := Int.emod_add_mul_ediv (q - thr usual kk b) (36 - thr usual kk b)
      rw [Int.mul_comm] at this
      omega
    have hd : thr usual kk b ≤ thr usual kk b + (q - thr usual kk b) % (36 - thr usual kk b) := by omega
    generalize (q - thr usual kk b) / (36 - thr usual kk b) = Q at *
    generalize thr usual kk b + (q - thr usual kk b) % (36 - thr usual kk b) = d at *
    by_cases hov : 2147483647 < i + d * w
    · rw [if_pos hov]; exact Or.inl rfl
    rw [if_neg hov, if_neg (by omega)]
    by_cases hov2 : 2147483647 < w * (36 - thr usual kk b)
    · rw [if_pos hov2]; exact Or.inl rfl
    rw [if_neg hov2]
    rcases ih Q (kk + 36) (at_ + 1) (i + d * w) (w * (36 - thr usual kk b)) p0 p1 with g | g
    · exact Or.inl g
    · refine Or.inr ?_
      rw [g, List.length_cons]
      have e : i + d * w + Q * (w * (36 - thr usual kk b)) = i + q * w := by
        have h2 : q * w = (d + Q * (36 - thr usual kk b)) * w := by rw [← hq]
        rw [h2, Int.add_mul, Int.mul_assoc Q, Int.mul_comm (36 - thr usual kk b) w, Int.add_assoc]
      rw [e]
      congr 2
      omega
/-- the code points that stand when those up to a place have been written for m -/
def dD (m : Int) (pre suf : List Int) : List Int := pre.filter (fun r => decide (r ≤ m)) ++ suf.filter (fun r => decide (r < m))
def pP (m : Int) (pre : List Int) : Int := (pre.filter (fun r => decide (r ≤ m))).length
theorem dD_lt {m r : Int} (h : r < m) (pre suf : List Int) : dD m pre (r :: suf) = dD m (pre ++ [r]) suf ∧ pP m (pre ++ [r]) = pP m pre + 1 := by
  unfold dD pP
  rw [List.filter_cons, if_pos (by simpa using h), List.filter_append, List.filter_cons, if_pos (by simp; omega)]
  simp
theorem dD_gt {m r : Int} (h : m < r) (pre suf : List Int) : dD m pre (r :: suf) = dD m (pre ++ [r]) suf ∧ pP m (pre ++ [r]) = pP m pre := by
  unfold dD pP
  rw [List.filter_cons, if_neg (by simp; omega), List.filter_append, List.filter_cons, if_neg (by simp; omega)]
  simp
theorem dD_eq (m : Int) (pre suf : List Int) : dD m (pre ++ [m]) suf = (dD m pre (m :: suf)).take (pP m pre).toNat ++ m :: (dD m pre (m :: suf)).drop (pP m pre).toNat ∧ pP m (pre ++ [m]) = pP m pre + 1 ∧ (dD m (pre ++ [m]) suf).length = (dD m pre (m :: suf)).length + 1 := by
  unfold dD pP
  rw [List.filter_cons, if_neg (by simp), List.filter_append, List.filter_cons, if_pos (by simp)]
  refine ⟨?_, by simp, by simp; omega⟩
  rw [Int.toNat_natCast, List.take_left' rfl, List.drop_left' rfl]
  simp
theorem pP_le (m : Int) (pre suf : List Int) : 0 ≤ pP m pre ∧ pP m pre ≤ (dD m pre suf).length := by
  unfold dD pP
  rw [List.length_append]
  omega
/-- one code point read -/
theorem dec_step (b i_d n_d at_ delta m p : Int) (Dl R : List Int) (f : Nat) (hd0 : 0 ≤ delta) (hd1 : delta ≤ 2147483647) (he : i_d + delta = (m - n_d) * ((Dl.length : Int) + 1) + p) (hp0 : 0 ≤ p) (hp1 : p ≤ Dl.length) (hs : scl m = true) :
    (decG usual (f + 1) (wrt usual b 1000000 delta 36 ++ R) at_ Dl n_d i_d b).2.2 ≠ 0 ∨ decG usual (f + 1) (wrt usual b 1000000 delta 36 ++ R) at_ Dl n_d i_d b = decG usual f R (at_ + (wrt usual b 1000000 delta 36).length) (Dl.take p.toNat ++ m :: Dl.drop p.toNat) m (p + 1) (adp usual delta ((Dl.length : Int) + 1) (i_d == 0)) := by
  have hne : wrt usual b 1000000 delta 36 ++ R ≠ [] := by
    rw [(wrt_k b delta hd0 hd1).1, wrt]
    split <;> simp
  have hn := num_wrt b R 10 delta 36 at_ i_d 1 hd0 (Int.lt_of_le_of_lt hd1 (by decide))
  rw [← (wrt_k b delta hd0 hd1).1] at hn
  have hub : usual.base = 36 := rfl
  rw [decG, if_neg hne, hub]
  generalize num usual b (wrt usual b 1000000 delta 36 ++ R) at_ i_d 1 36 = r at *
  rcases hn with hn | hn
  · rw [if_pos (by omega)]
    exact Or.inl (by show r.1 ≠ 0; omega)
  subst hn
  have hsr := scl_range hs
  have e1 : (i_d + delta * 1) / ((Dl.length : Int) + 1) = m - n_d := by
    rw [Int.mul_one, he, Int.add_comm, Int.add_mul_ediv_right _ _ (by omega), Int.ediv_eq_zero_of_lt hp0 (by omega)]
    omega
  have e2 : (i_d + delta * 1) % ((Dl.length : Int) + 1) = p := by
    rw [Int.mul_one, he, Int.add_comm, Int.add_mul_emod_self_right, Int.emod_eq_of_lt hp0 (by omega)]
  rw [if_neg (by simp)]
  simp only [e1, e2]
  rw [show n_d + (m - n_d) = m by omega, if_neg (by omega), if_neg (by rw [hs]; simp), show i_d + delta * 1 - i_d = delta by omega]
  exact Or.inr rfl
theorem wrt48 (b : Int) : ∀ (f : Nat) (q k : Int), 0 ≤ q → ∀ x ∈ wrt usual b f q k, 48 ≤ x ∧ x ≤ 122 := by
  intro f
  induction f with
  | zero => intro q k _ x hx; rw [wrt] at hx; simp at hx
  | succ f ih =>
    intro q k h0 x hx
    have ht := thr_us k b
    rw [wrt] at hx
    by_cases hc : q < thr usual k b
    · rw [if_pos hc] at hx
      rw [List.mem_singleton.1 hx]
      exact ltr_range q h0 (by omega)
    rw [if_neg hc, show usual.base = 36 from rfl] at hx
    have p0 : 0 ≤ (q - thr usual k b) / (36 - thr usual k b) := Int.ediv_nonneg (by omega) (by omega)
    have p2 : 0 ≤ (q - thr usual k b) % (36 - thr usual k b) := Int.emod_nonneg _ (by omega)
    have p3 : (q - thr usual k b) % (36 - thr usual k b) < 36 - thr usual k b := Int.emod_lt_of_pos _ (by omega)
    rcases List.mem_cons.1 hx with hx | hx
    · rw [hx]
      exact ltr_range _ (by omega) (by omega)
    · exact ih _ _ p0 x hx
/-- one way over the code points read again -/
theorem rt_scan (m basic : Int) (hm : scl m = true) : ∀ (suf pre out : List Int) (delta bias h : Int) (o : List Int) (d b h' : Int), 0 ≤ delta → delta ≤ 2147483647 → 0 ≤ h → scan usual m basic suf out delta bias h = some (o, d, b, h') → h = (dD m pre suf).length →
    ∃ E, o = out ++ E ∧ h' = (dD m (pre ++ suf) []).length ∧ (∀ x ∈ E, 48 ≤ x ∧ x ≤ 122) ∧ ∀ (R : List Int) (f : Nat) (at_ n_d i_d : Int), 0 ≤ i_d → i_d + delta = (m - n_d) * (h + 1) + pP m pre → (i_d = 0 ↔ h = basic) → basic ≤ h → E.length + R.length < f →
      (decG usual f (E ++ R) at_ (dD m pre suf) n_d i_d bias).2.2 ≠ 0 ∨ ∃ (f' : Nat) (at' n' i' : Int), R.length < f' ∧ 0 ≤ i' ∧ decG usual f (E ++ R) at_ (dD m pre suf) n_d i_d bias = decG usual f' R at' (dD m (pre ++ suf) []) n' i' b ∧ i' + d = (m - n') * (h' + 1) + pP m (pre ++ suf) ∧ (i' = 0 ↔ h' = basic) ∧ basic ≤ h' := by
  intro suf
  induction suf with
  | nil =>
    intro pre out delta bias h o d b h' h1 h2 h3 hs hh
    rw [scan] at hs
    injection hs with hs
    injection hs with e1 hs
    injection hs with e2 hs
    injection hs with e3 e4
    subst e1 e2 e3 e4
    rw [List.append_nil]
    refine ⟨[], by simp, hh, fun x hx => by simp at hx, fun R f at_ n_d i_d g0 g1 g2 g3 g4 => Or.inr ⟨f, at_, n_d, i_d, by simpa using g4, g0, rfl, g1, g2, g3⟩⟩
  | cons r L ih =>
    intro pre out delta bias h o d b h' h1 h2 h3 hs hh
    rw [scan] at hs
    have ea : pre ++ r :: L = (pre ++ [r]) ++ L := by simp
    rw [ea]
    by_cases c1 : r < m
    · rw [if_pos c1] at hs
      by_cases c2 : 2147483647 < delta + 1
      · rw [if_pos c2] at hs; cases hs
      rw [if_neg c2] at hs
      obtain ⟨k1, k2⟩ := dD_lt c1 pre L
      rw [k1] at hh ⊢
      obtain ⟨E, q1, q2, q4, q3⟩ := ih (pre ++ [r]) out (delta + 1) bias h o d b h' (by omega) (by omega) h3 hs hh
      exact ⟨E, q1, q2, q4, fun R f at_ n_d i_d g0 g1 g2 g3 g4 => q3 R f at_ n_d i_d g0 (by rw [k2]; omega) g2 g3 g4⟩
    rw [if_neg c1] at hs
    by_cases c2 : r = m
    · subst c2
      rw [if_pos rfl] at hs
      obtain ⟨k1, k2, k3⟩ := dD_eq r pre L
      have hpl := pP_le r pre (r :: L)
      obtain ⟨E, q1, q2, q4, q3⟩ := ih (pre ++ [r]) _ 0 _ (h + 1) o d b h' (by omega) (by omega) (by omega) hs (by rw [k3]; omega)
      refine ⟨wrt usual bias 1000000 delta 36 ++ E, by rw [q1, List.append_assoc]; rfl, q2, fun x hx => (List.mem_append.1 hx).elim (wrt48 bias 1000000 delta 36 h1 x) (q4 x), fun R f at_ n_d i_d g0 g1 g2 g3 g4 => ?_⟩
      rw [List.length_append] at g4
      obtain ⟨f, rfl⟩ : ∃ q, f = q + 1 := ⟨f - 1, by omega⟩
      have hw : 1 ≤ (wrt usual bias 1000000 delta 36).length := by
        rw [(wrt_k bias delta h1 h2).1, wrt]
        split <;> simp
      rw [List.append_assoc]
      rcases dec_step bias i_d n_d at_ delta r (pP r pre) (dD r pre (r :: L)) (E ++ R) f h1 h2 (by rw [g1, hh]) hpl.1 hpl.2 hm with g | g
      · exact Or.inl g
      rw [g, ← k1, ← hh]
      have hb : (i_d == 0) = (h == basic) := by
        rw [Bool.eq_iff_iff, beq_iff_eq, beq_iff_eq]
        exact g2
      rw [hb]
      exact q3 R f _ r (pP r pre + 1) (by omega) (by rw [k2]; omega) ⟨fun e => by omega, fun e => by omega⟩ (by omega) (by omega)
    · rw [if_neg c2] at hs
      obtain ⟨k1, k2⟩ := dD_gt (show m < r by omega) pre L
      rw [k1] at hh ⊢
      obtain ⟨E, q1, q2, q4, q3⟩ := ih (pre ++ [r]) out delta bias h o d b h' h1 h2 h3 hs hh
      exact ⟨E, q1, q2, q4, fun R f at_ n_d i_d g0 g1 g2 g3 g4 => q3 R f at_ n_d i_d g0 (by rw [k2]; exact g1) g2 g3 g4⟩
theorem cnt_len (n : Int) : ∀ l : List Int, ((l.filter (fun r => decide (r < n))).length : Int) = cnt n l
  | [] => rfl
  | r :: l => by
    have := cnt_len n l
    rw [cnt, List.filter_cons]
    by_cases h : r < n
    · rw [if_pos h, if_pos (by simpa using h), List.length_cons]; omega
    · rw [if_neg h, if_neg (by simpa using h)]; omega
theorem dD_nil (m : Int) (l : List Int) : dD m [] l = l.filter (fun r => decide (r < m)) := by unfold dD; simp
theorem dD_all (m : Int) (l : List Int) : dD m l [] = l.filter (fun r => decide (r < m + 1)) ∧ pP m l = (dD m l []).length := by
  unfold dD pP
  have e : l.filter (fun r => decide (r ≤ m)) = l.filter (fun r => decide (r < m + 1)) := List.filter_congr fun x _ => decide_eq_decide.2 (by omega)
  rw [e]
  simp
theorem scan_nn (n basic : Int) : ∀ (L out : List Int) (delta bias h : Int) (o : List Int) (d b h' : Int), 0 ≤ delta → scan usual n basic L out delta bias h = some (o, d, b, h') → 0 ≤ d := by
  intro L
  induction L with
  | nil =>
    intro out delta bias h o d b h' h1 hs
    rw [scan] at hs
    injection hs with hs
    injection hs with e1 hs
    injection hs with e2 hs
    omega
  | cons r L ih =>
    intro out delta bias h o d b h' h1 hs
    rw [scan] at hs
    by_cases c1 : r < n
    · rw [if_pos c1] at hs
      by_cases c2 : 2147483647 < delta + 1
      · rw [if_pos c2] at hs; cases hs
      rw [if_neg c2] at hs
      exact ih _ _ _ _ _ _ _ _ (by omega) hs
    rw [if_neg c1] at hs
    by_cases c2 : r = n
    · rw [if_pos c2] at hs
      exact ih _ _ _ _ _ _ _ _ (by omega) hs
    · rw [if_neg c2] at hs
      exact ih _ _ _ _ _ _ _ _ h1 hs
/-- all rounds read again -/
theorem rt_enc (l : List Int) (hl : ∀ r ∈ l, scl r = true) (basic : Int) : ∀ (f : Nat) (out : List Int) (n delta bias h : Int) (res : List Int), 0 ≤ delta → 0 ≤ n → h = (l.filter (fun r => decide (r < n))).length → encG usual basic l f out n delta bias h = some res →
    ∃ E, res = out ++ E ∧ (∀ x ∈ E, 48 ≤ x ∧ x ≤ 122) ∧ ∀ (fd : Nat) (at_ n_d i_d : Int), 0 ≤ i_d → i_d + delta = (n - n_d) * (h + 1) → (i_d = 0 ↔ h = basic) → basic ≤ h → E.length < fd →
      (decG usual fd E at_ (l.filter (fun r => decide (r < n))) n_d i_d bias).2.2 ≠ 0 ∨ decG usual fd E at_ (l.filter (fun r => decide (r < n))) n_d i_d bias = (l, 0, 0) := by
  intro f
  induction f with
  | zero => intro out n delta bias h res _ _ _ hs; rw [encG] at hs; cases hs
  | succ f ih =>
    intro out n delta bias h res h0 hn hh hs
    by_cases hd : (l.length : Int) ≤ h
    · rw [encG, if_pos hd] at hs
      injection hs with hs
      subst hs
      refine ⟨[], by simp, fun x hx => by simp at hx, fun fd at_ n_d i_d g0 g1 g2 g3 g4 => Or.inr ?_⟩
      obtain ⟨fd, rfl⟩ : ∃ q, fd = q + 1 := ⟨fd - 1, by omega⟩
      rw [decG, if_pos rfl]
      have hle := List.length_filter_le (fun r => decide (r < n)) l
      rw [List.filter_sublist.eq_of_length (by omega)]
    rw [encG, if_neg hd] at hs
    have hx : ∀ r ∈ l, 0 ≤ r ∧ r ≤ 1114111 := fun r hr => scl_range (hl r hr)
    have hcl := cnt_len n l
    obtain ⟨-, t2, t3⟩ := nxtM_two n l (fun r hr => (hx r hr).2) (cnt_ex (by omega))
    obtain ⟨s1, s2, s3⟩ := nxtM_spec n l 1114112
    generalize nxtM n l 1114112 = m at *
    have hP : 0 ≤ (m - n) * (h + 1) := Int.mul_nonneg (by omega) (by omega)
    have hPe : (m - n) * (h + 1) = m * (h + 1) - n * (h + 1) := Int.sub_mul _ _ _
    by_cases hov : 2147483647 < delta + (m - n) * (h + 1)
    · rw [if_pos hov] at hs; cases hs
    rw [if_neg hov] at hs
    rcases hsc : scan usual m basic l out (delta + (m - n) * (h + 1)) bias h with _ | ⟨o, d, b, h'⟩
    · rw [hsc] at hs; cases hs
    rw [hsc] at hs
    have hs2 : encG usual basic l f o (m + 1) (d + 1) b h' = some res := hs
    have hfm : l.filter (fun r => decide (r < m)) = l.filter (fun r => decide (r < n)) := List.filter_congr fun x hx => decide_eq_decide.2 ⟨fun e => by
      rcases Int.lt_or_le x n with g | g
      · exact g
      · have := s2 x hx g
        omega, fun e => by omega⟩
    have hdn : dD m [] l = l.filter (fun r => decide (r < n)) := by rw [dD_nil, hfm]
    obtain ⟨hda, hpa⟩ := dD_all m l
    have hd0 : 0 ≤ d := scan_nn m basic l out _ bias h o d b h' (by omega) hsc
    obtain ⟨E1, q1, q2, q4, q3⟩ := rt_scan m basic (hl m t2) l [] out _ bias h o d b h' (by omega) (by omega) (by omega) hsc (by rw [hdn]; exact hh)
    rw [List.nil_append] at q2 q3
    obtain ⟨E2, u1, u2, u3⟩ := ih o (m + 1) (d + 1) b h' res (by omega) (by omega) (by rw [q2, hda]) hs2
    refine ⟨E1 ++ E2, by rw [u1, q1, List.append_assoc], fun x hx => (List.mem_append.1 hx).elim (q4 x) (u2 x), fun fd at_ n_d i_d g0 g1 g2 g3 g4 => ?_⟩
    rw [List.length_append] at g4
    have hNe : (n - n_d) * (h + 1) = n * (h + 1) - n_d * (h + 1) := Int.sub_mul _ _ _
    have hMe : (m - n_d) * (h + 1) = m * (h + 1) - n_d * (h + 1) := Int.sub_mul _ _ _
    have hst := q3 E2 fd at_ n_d i_d g0 (by rw [show pP m [] = 0 from rfl]; omega) g2 g3 g4
    rw [hdn] at hst
    rcases hst with g | ⟨f', at', n', i', v1, v2, v3, v4, v5, v6⟩
    · exact Or.inl g
    rw [v3, hda]
    have hKe : (m + 1 - n') * (h' + 1) = (m - n') * (h' + 1) + (h' + 1) := by
      rw [show m + 1 - n' = (m - n') + 1 by omega, Int.add_mul, Int.one_mul]
    exact u3 f' at' n' i' v2 (by rw [hKe]; omega) v5 v6 v1
theorem lastP_app (b : Int) : ∀ (l r : List Int) (i a : Int), lastP b (l ++ r) i a = lastP b r (i + l.length) (lastP b l i a)
  | [], r, i, a => by simp [lastP]
  | c :: l, r, i, a => by
    rw [List.cons_append, lastP, lastP, lastP_app b l r, List.length_cons]
    congr 1
    omega
theorem lastP_none (b : Int) : ∀ (l : List Int) (i a : Int), (∀ x ∈ l, x ≠ b) → lastP b l i a = a
  | [], i, a, _ => rfl
  | c :: l, i, a, h => by
    rw [lastP, if_neg (h c (List.mem_cons_self ..)), lastP_none b l _ _ fun x hx => h x (List.mem_cons_of_mem _ hx)]
/-- what an encoder writes is decoded again, or the decoder says what is wrong -/
theorem rt_all (l : List Int) (hl : ∀ r ∈ l, scl r = true) (res : List Int) (hs : encG usual (bs l).length l (l.length + 1) (if bs l = [] then [] else bs l ++ [45]) 128 0 72 (bs l).length = some res) : (dec usual res).2.2 ≠ 0 ∨ dec usual res = (l, 0, 0) := by
  have hb : bs l = l.filter (fun r => decide (r < 128)) := List.filter_congr fun x _ => bas_us x
  obtain ⟨E, q1, q2, q3⟩ := rt_enc l hl (bs l).length (l.length + 1) _ 128 0 72 (bs l).length res (by omega) (by omega) (by rw [hb]) hs
  rw [← hb] at q3
  have hE : ∀ x ∈ E, x ≠ 45 := fun x hx => by have := q2 x hx; omega
  unfold dec
  rw [show usual.btw = 45 from rfl, show usual.first = 128 from rfl, show usual.bias = 72 from rfl]
  by_cases h0 : bs l = []
  · rw [if_pos h0, List.nil_append] at q1
    subst q1
    rw [lastP_none 45 res 0 0 hE, if_neg (by omega)]
    have := q3 (res.length + 1) 0 128 0 (by omega) (by omega) (by rw [h0]; simp) (by omega) (by omega)
    rw [h0] at this
    exact this
  · rw [if_neg h0] at q1
    have hp : 0 < (bs l).length := List.length_pos_iff.2 h0
    have hlast : lastP 45 res 0 0 = (bs l).length := by
      rw [q1, lastP_app, lastP_none 45 E _ _ hE, lastP_app]
      simp [lastP]
    rw [hlast, if_pos (by omega), Int.toNat_natCast]
    have ht : res.take (bs l).length = bs l := by rw [q1, List.append_assoc, List.take_left' rfl]
    have hdr : res.drop (((bs l).length : Int) + 1).toNat = E := by
      rw [q1]
      exact List.drop_left' (by simp)
    rw [ht, hdr]
    have hf : ¬ 0 ≤ fstB (fun b => !bas usual b) (bs l) 0 := by
      rw [fstB_none _ _ 0 (by omega)]
      rintro ⟨x, hx, hn⟩
      have := (List.mem_filter.1 hx).2
      simp [this] at hn
    rw [if_neg hf]
    exact q3 (res.length + 1) _ 128 0 (by omega) (by omega) ⟨fun _ => rfl, fun _ => rfl⟩ (by omega) (by rw [q1]; simp; omega)
/-- what is encoded is decoded again -/
theorem back (l : List Int) (h : (enc usual l).2.2 = 0) : dec usual (enc usual l).1 = (l, 0, 0) := by
  by_cases hb : 0 ≤ fstB (fun r => !scl r) l 0
  · have e : enc usual l = ([], fstB (fun r => !scl r) l 0, 20) := by
      unfold enc
      rw [chk_us, if_pos hb, if_pos (by simp)]
    rw [e] at h
    cases h
  have e : ∀ E, encG usual (bs l).length l (l.length + 1) (if bs l = [] then [] else bs l ++ [45]) 128 0 72 (bs l).length = E → enc usual l = (match E with
    | none => ([], 0, 142)
    | some out => if (dec usual out).2.2 = 0 then (out, 0, 0) else ([], 0, 142)) := by
    intro E hE
    unfold enc
    rw [chk_us, if_neg hb, if_neg (by simp), ← hE]
    rfl
  rcases hE : encG usual (bs l).length l (l.length + 1) (if bs l = [] then [] else bs l ++ [45]) 128 0 72 (bs l).length with _ | out
  · rw [e _ hE] at h
    cases h
  rw [e _ hE] at h ⊢
  simp only at h ⊢
  by_cases hd : (dec usual out).2.2 = 0
  · rw [if_pos hd]
    rcases rt_all l (all_scl hb) out hE with g | g
    · exact absurd hd g
    · exact g
  · rw [if_neg hd] at h
    cases h
end Go.Proofs.YtmjlkifmbhaiiaaDoor.V

set_option linter.unusedVariables false
set_option linter.unusedSimpArgs false
namespace Go.Proofs.YtmjlkifmbhaiiaaDoor.V
open Go.RowKit Go.Proofs.YtmjlkifmbhaiiaaDoorW.PrintWords Go.Proofs.YtmjlkifmbhaiiaaDoorW.PrintLast
/-- a digit's small letter -/
def lo (c : Int) : Int := ltr (dgu c)
theorem dgt_u (c : Int) : dgt usual c = dgu c := by
  have := dgu_range c
  unfold dgt
  rw [if_pos (show dgu c < usual.base by rw [show usual.base = 36 from rfl]; omega)]
/-- a number does not hang on the size of letters -/
theorem num_blind (b : Int) : ∀ (L L' : List Int) (at_ i w kk : Int), L.map dgu = L'.map dgu → (num usual b L at_ i w kk).1 = (num usual b L' at_ i w kk).1 ∧ (num usual b L at_ i w kk).2.1 = (num usual b L' at_ i w kk).2.1 ∧ (num usual b L at_ i w kk).2.2.1 = (num usual b L' at_ i w kk).2.2.1 ∧ (num usual b L at_ i w kk).2.2.2.map dgu = (num usual b L' at_ i w kk).2.2.2.map dgu := by
  intro L
  induction L with
  | nil =>
    intro L' at_ i w kk h
    have : L' = [] := by cases L' with
      | nil => rfl
      | cons c L' => simp at h
    subst this
    exact ⟨rfl, rfl, rfl, rfl⟩
  | cons c L ih =>
    intro L' at_ i w kk h
    cases L' with
    | nil => simp at h
    | cons c' L' =>
      rw [List.map_cons, List.map_cons] at h
      injection h with h1 h2
      rw [num, num, dgt_u, dgt_u, ← h1]
      by_cases c1 : dgu c < 0
      · rw [if_pos c1, if_pos c1]
        exact ⟨rfl, rfl, rfl, by rw [List.map_cons, List.map_cons, h1, h2]⟩
      rw [if_neg c1, if_neg c1]
      by_cases c2 : 2147483647 < i + dgu c * w
      · rw [if_pos c2, if_pos c2]; exact ⟨rfl, rfl, rfl, h2⟩
      rw [if_neg c2, if_neg c2]
      by_cases c3 : dgu c < thr usual kk b
      · rw [if_pos c3, if_pos c3]; exact ⟨rfl, rfl, rfl, h2⟩
      rw [if_neg c3, if_neg c3]
      by_cases c4 : 2147483647 < w * (usual.base - thr usual kk b)
      · rw [if_pos c4, if_pos c4]; exact ⟨rfl, rfl, rfl, h2⟩
      rw [if_neg c4, if_neg c4]
      exact ih _ _ _ _ _ h2
theorem decG_blind : ∀ (f : Nat) (L L' : List Int) (a : Int) (D : List Int) (n i b : Int), L.map dgu = L'.map dgu → decG usual f L a D n i b = decG usual f L' a D n i b := by
  intro f
  induction f with
  | zero => intro L L' a D n i b _; rw [decG, decG]
  | succ f ih =>
    intro L L' a D n i b h
    have hn : L = [] ↔ L' = [] := by
      have := congrArg List.length h
      rw [List.length_map, List.length_map] at this
      rw [← List.length_eq_zero_iff, ← List.length_eq_zero_iff, this]
    obtain ⟨e1, e2, e3, e4⟩ := num_blind b L L' a i 1 usual.base h
    rw [decG, decG]
    by_cases c1 : L = []
    · rw [if_pos c1, if_pos (hn.1 c1)]
    rw [if_neg c1, if_neg fun c => c1 (hn.2 c)]
    simp only
    rw [e1, e2, e3, ih _ _ _ _ _ _ _ e4]
theorem lastP_at (b : Int) (B R : List Int) (i a : Int) (h : ∀ x ∈ R, x ≠ b) : lastP b (B ++ b :: R) i a = i + B.length := by
  rw [lastP_app, lastP, if_pos rfl, lastP_none b R _ _ h]
theorem lastP_split (b : Int) : ∀ (s : List Int), b ∈ s → ∃ B R, s = B ++ b :: R ∧ ∀ x ∈ R, x ≠ b
  | [], h => by simp at h
  | c :: s, h => by
    by_cases hs : b ∈ s
    · obtain ⟨B, R, h1, h2⟩ := lastP_split b s hs
      exact ⟨c :: B, R, by rw [h1]; rfl, h2⟩
    · rcases List.mem_cons.1 h with h | h
      · exact ⟨[], s, by rw [h]; rfl, fun x hx he => hs (he ▸ hx)⟩
      · exact absurd h hs
theorem dec_cut {B R : List Int} (hR : ∀ x ∈ R, x ≠ 45) (hB : B ≠ []) : dec usual (B ++ 45 :: R) = (if 0 ≤ fstB (fun b => !bas usual b) B 0 then ([], fstB (fun b => !bas usual b) B 0, 141) else decG usual ((B ++ 45 :: R).length + 1) R (B.length + 1) B 128 0 72) := by
  have hp : 0 < B.length := List.length_pos_iff.2 hB
  unfold dec
  rw [show usual.btw = 45 from rfl, lastP_at 45 B R 0 0 hR, if_pos (by omega), Int.zero_add, Int.toNat_natCast, List.take_left' rfl, show B ++ 45 :: R = (B ++ [45]) ++ R by simp, List.drop_left' (l₁ := B ++ [45]) (by simp)]
  rfl
theorem dec_no {s : List Int} (h : ¬ 0 < lastP 45 s 0 0) : dec usual s = decG usual (s.length + 1) s 0 [] 128 0 72 := by
  unfold dec
  rw [show usual.btw = 45 from rfl, if_neg h]
  rfl
theorem dec_blind1 {B R R' : List Int} (hR : ∀ x ∈ R, x ≠ 45) (hR' : ∀ x ∈ R', x ≠ 45) (h : R.map dgu = R'.map dgu) : dec usual (B ++ 45 :: R) = dec usual (B ++ 45 :: R') := by
  have hl : R.length = R'.length := by simpa using congrArg List.length h
  by_cases hB : B = []
  · subst hB
    have e : ∀ R : List Int, (∀ x ∈ R, x ≠ 45) → dec usual ([] ++ 45 :: R) = decG usual ((45 :: R).length + 1) (45 :: R) 0 [] 128 0 72 := fun R hR => dec_no (by rw [lastP_at 45 [] R 0 0 hR]; simp)
    rw [e R hR, e R' hR', List.length_cons, List.length_cons, hl]
    exact decG_blind _ _ _ _ _ _ _ _ (by rw [List.map_cons, List.map_cons, h])
  · have hl2 : (B ++ 45 :: R).length = (B ++ 45 :: R').length := by rw [List.length_append, List.length_append, List.length_cons, List.length_cons, hl]
    rw [dec_cut hR hB, dec_cut hR' hB, hl2, decG_blind _ _ _ _ _ _ _ _ h]
theorem dec_blind2 {R R' : List Int} (hR : ∀ x ∈ R, x ≠ 45) (hR' : ∀ x ∈ R', x ≠ 45) (h : R.map dgu = R'.map dgu) : dec usual R = dec usual R' := by
  have hl : R.length = R'.length := by simpa using congrArg List.length h
  rw [dec_no (by rw [lastP_none 45 R 0 0 hR]; omega), dec_no (by rw [lastP_none 45 R' 0 0 hR']; omega), hl]
  exact decG_blind _ _ _ _ _ _ _ _ h
theorem lo_ok {c : Int} (h : 0 ≤ dgu c) : dgu (lo c) = dgu c ∧ lo c ≠ 45 ∧ lo c = (if 65 ≤ c ∧ c ≤ 90 then c + 32 else c) ∧ c ≠ 45 := by
  have h2 := dgu_range c
  refine ⟨dgu_ltr _ h (by omega), ?_, ?_, ?_⟩
  · have := ltr_range (dgu c) h (by omega)
    unfold lo
    omega
  · unfold lo ltr
    unfold dgu at h ⊢
    split at h
    · rename_i c1
      rw [if_pos c1, if_pos (by omega), if_neg (by omega)]
      omega
    · rename_i c1
      rw [if_neg c1]
      split at h
      · rename_i c2
        rw [if_pos c2, if_pos (by omega), if_pos c2]
        omega
      · rename_i c2
        rw [if_neg c2, if_neg c2]
        split at h
        · rename_i c3
          rw [if_pos c3, if_neg (by omega)]
          omega
        · omega
  · intro e
    rw [e] at h
    simp [dgu] at h
end Go.Proofs.YtmjlkifmbhaiiaaDoor.V
