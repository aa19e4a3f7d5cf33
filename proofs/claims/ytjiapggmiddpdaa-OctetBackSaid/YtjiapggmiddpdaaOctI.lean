/- Numbers: the program's Number and the document's. -/
import Derived.Test.YtjiapggmiddpdaaOctG
import Derived.Test.YtjiapggmiddpdaaOctH
set_option linter.unusedVariables false
set_option linter.unusedSimpArgs false
namespace Go.Proofs.Ytjiapggmiddpdaa
open Go.RowKit Go.Proofs.YtjiapggmiddpdaaW.PrintWords Go.Proofs.YtjiapggmiddpdaaW.PrintLast
/-- what the first k digits say -/
def val (s : ByteArray) (base : Int) : Nat → Int
  | 0 => 0
  | k + 1 => val s base k * base + dig (bt s k) base
theorem val_zero (s : ByteArray) (base : Int) : val s base 0 = 0 := by simp only [val]
theorem val_step (s : ByteArray) (base k : Int) (h : 0 ≤ k) : val s base (k + 1).toNat = val s base k.toNat * base + dig (bt s k) base := by
  obtain ⟨n, rfl⟩ := Int.eq_ofNat_of_zero_le h
  show val s base (n + 1) = _
  rw [val]; rfl
/-- what Number tells: the number, the place of the first that is no digit, what is wrong -/
def Num (s : ByteArray) (base n i e : Int) : Prop :=
  ((base < 2 ∨ 36 < base) ∧ n = 0 ∧ i = 0 ∧ e = 11) ∨ (2 ≤ base ∧ base ≤ 36 ∧
    ((s.size = 0 ∧ n = 0 ∧ i = 0 ∧ e = 12) ∨
     (0 ≤ i ∧ i < s.size ∧ dig (bt s i) base < 0 ∧ (∀ j : Int, 0 ≤ j → j < i → 0 ≤ dig (bt s j) base) ∧ n = 0 ∧ e = 12) ∨
     (s.size ≠ 0 ∧ (∀ j : Int, 0 ≤ j → j < (s.size : Int) → 0 ≤ dig (bt s j) base) ∧ i = 0 ∧ ((18446744073709551616 ≤ val s base s.size ∧ n = 0 ∧ e = 13) ∨ (val s base s.size < 18446744073709551616 ∧ n = val s base s.size ∧ e = 0)))))
theorem Num.unique {s : ByteArray} {base n i e n' i' e' : Int} (h : Num s base n i e) (h' : Num s base n' i' e') : n = n' ∧ i = i' ∧ e = e' := by
  rcases h with ⟨hb, rfl, rfl, rfl⟩ | ⟨hb0, hb1, h⟩
  · rcases h' with ⟨_, rfl, rfl, rfl⟩ | ⟨g0, g1, _⟩
    · exact ⟨rfl, rfl, rfl⟩
    · omega
  · rcases h' with ⟨g, _⟩ | ⟨_, _, h'⟩
    · omega
    · rcases h with ⟨h0, rfl, rfl, rfl⟩ | ⟨h0, h1, h2, h3, rfl, rfl⟩ | ⟨h0, h1, rfl, h2⟩
      · rcases h' with ⟨_, rfl, rfl, rfl⟩ | ⟨k0, k1, _⟩ | ⟨k0, _⟩
        · exact ⟨rfl, rfl, rfl⟩
        · omega
        · exact absurd h0 k0
      · rcases h' with ⟨k0, _⟩ | ⟨k0, k1, k2, k3, rfl, rfl⟩ | ⟨k0, k1, _⟩
        · omega
        · have : i = i' := by
            rcases Int.lt_trichotomy i i' with g | g | g
            · have := k3 i h0 g; omega
            · exact g
            · have := h3 i' k0 g; omega
          exact ⟨rfl, this, rfl⟩
        · have := k1 i h0 h1; omega
      · rcases h' with ⟨k0, _⟩ | ⟨k0, k1, k2, _⟩ | ⟨k0, k1, rfl, k2⟩
        · exact absurd k0 h0
        · have := h1 i' k0 k1; omega
        · rcases h2 with ⟨a, rfl, rfl⟩ | ⟨a, rfl, rfl⟩ <;> rcases k2 with ⟨b, rfl, rfl⟩ | ⟨b, rfl, rfl⟩
          · exact ⟨rfl, rfl, rfl⟩
          · omega
          · omega
          · exact ⟨rfl, rfl, rfl⟩
theorem dig_lt {b base : Int} (hb : 2 ≤ base) : dig b base < base := by
  unfold dig
  split
  · omega
  · split <;> omega
/-- the state of the two loops: all digits so far; great just if the number is -/
def NumSt (s : ByteArray) (base k n : Int) (g : Bool) : Prop :=
  (∀ j, 0 ≤ j → j < k → 0 ≤ dig (bt s j) base) ∧ 0 ≤ val s base k.toNat ∧ (g = true → 18446744073709551616 ≤ val s base k.toNat) ∧ (g = false → n = val s base k.toNat)
theorem NumSt.zero (s : ByteArray) (base : Int) : NumSt s base 0 0 false :=
  ⟨fun j h0 h1 => by omega, by rw [show (0 : Int).toNat = 0 from rfl, val_zero]; omega, fun h => (by cases h), fun _ => by rw [show (0 : Int).toNat = 0 from rfl, val_zero]⟩
theorem NumSt.step {s : ByteArray} {base k n m : Int} {g g' : Bool} (h : NumSt s base k n g) (hk : 0 ≤ k) (hb : 2 ≤ base) (hd : 0 ≤ dig (bt s k) base)
    (hg : g = true → g' = true) (h1 : g = false → g' = true → 18446744073709551616 ≤ n * base + dig (bt s k) base) (h2 : g' = false → m = n * base + dig (bt s k) base) : NumSt s base (k + 1) m g' := by
  obtain ⟨a, b, c, d⟩ := h
  have hv := val_step s base k hk
  have hm : val s base k.toNat ≤ val s base k.toNat * base := by
    have := Int.mul_le_mul_of_nonneg_left (show (1 : Int) ≤ base by omega) b
    omega
  refine ⟨fun j h0 hj => ?_, by omega, fun h => ?_, fun h => ?_⟩
  · rcases Int.lt_or_le j k with g | g
    · exact a j h0 g
    · have : j = k := by omega
      subst this; exact hd
  · cases hgg : g with
    | true => have := c hgg; omega
    | false => have e := d hgg; have := h1 hgg h; rw [hv, ← e]; exact this
  · have hgf : g = false := by cases hgg : g with
      | true => rw [hg hgg] at h; cases h
      | false => rfl
    rw [hv, ← d hgf]; exact h2 h
theorem NumSt.done {s : ByteArray} {base n : Int} {g : Bool} (h : NumSt s base s.size n g) (hb : 2 ≤ base ∧ base ≤ 36) (hs : s.size ≠ 0) (hn : n < 18446744073709551616) : (g = true → Num s base 0 0 13) ∧ (g = false → Num s base n 0 0) := by
  obtain ⟨a, b, c, d⟩ := h
  rw [Int.toNat_natCast] at b c d
  exact ⟨fun h => .inr ⟨hb.1, hb.2, .inr (.inr ⟨hs, a, rfl, .inl ⟨c h, rfl, rfl⟩⟩)⟩, fun h => .inr ⟨hb.1, hb.2, .inr (.inr ⟨hs, a, rfl, .inr ⟨by rw [← d h]; exact hn, d h, rfl⟩⟩)⟩⟩
def NumSuch (s : ByteArray) (base : Int) (w : World) (e : Ending) (w' : World) : Prop := ∃ n i c : Int, Num s base n i c ∧ e = .returned (.tuple #[.int .u64 n, .int .i64 i, .int .i64 c]) ∧ w' = w
theorem empty_of_size {s : ByteArray} (h : s.size = 0) : s = ⟨#[]⟩ := by
  obtain ⟨d⟩ := s
  have : d = #[] := Array.eq_empty_of_size_eq_zero h
  rw [this]
theorem ne_empty {s : ByteArray} (h : ¬ s.size = 0) : s.toList.isEmpty = false := by
  rw [ByteArray.toList_eq, List.isEmpty_eq_false_iff]
  intro e
  have := congrArg List.length e
  rw [data_length] at this
  exact h this
theorem mul_small {n base : Int} (h0 : 0 ≤ n) (h1 : n < 18446744073709551616) (hb : 2 ≤ base) (hb1 : base ≤ 36) : 0 ≤ n * base ∧ n * base ≤ 18446744073709551615 * 36 :=
  ⟨Int.mul_nonneg h0 (by omega), Int.mul_le_mul (by omega) hb1 (by omega) (by omega)⟩
set_option maxRecDepth 100000 in
set_option maxHeartbeats 8000000 in
theorem number_any (s : ByteArray) (base : Int) (w : World) (hs : s.size ≤ 9223372036854775807) : Calls Try.prog 35 #[.string s, .int .i64 base] w (NumSuch s base w) := by
  by_cases hb : base < 2 ∨ 36 < base
  · by_cases hb2 : base < 2
    · go_enter Try.func35, Try.ntmps35
      go_wp2
      go_ret3
      exact ⟨0, 0, 11, .inl ⟨.inl hb2, rfl, rfl, rfl⟩, rfl, rfl⟩
    · have hb3 : 36 < base := by omega
      go_enter Try.func35, Try.ntmps35
      go_wp2
      go_ret3
      exact ⟨0, 0, 11, .inl ⟨.inr hb3, rfl, rfl, rfl⟩, rfl, rfl⟩
  · have hb2 : ¬ base < 2 := by omega
    have hb3 : ¬ 36 < base := by omega
    clear hb
    by_cases hz : s.size = 0
    · obtain rfl := empty_of_size hz
      go_enter Try.func35, Try.ntmps35
      go_wp2
      go_ret3
      exact ⟨0, 0, 12, .inr ⟨by omega, by omega, .inl ⟨rfl, rfl, rfl, rfl⟩⟩, rfl, rfl⟩
    · have hne := ne_empty hz
      have Hz := Lib.hid hz
      clear hz
      go_enter Try.func35, Try.ntmps35
      go_wp2
      clear hne
      go_loopw [7, 8, 27] (fun u v x wr => ∃ (k n : Int) (g : Bool), u = .int .u64 n ∧ v = .bool g ∧ x = .int .i64 k ∧ 0 ≤ k ∧ k ≤ s.size ∧ 0 ≤ n ∧ n < 18446744073709551616 ∧ Hid (NumSt s base k n g) ∧ wr = w) (fun _ _ x _ => s.size - (intOf x).toNat)
      case atStart => exact ⟨0, 0, false, rfl, rfl, rfl, by omega, by omega, by omega, by omega, NumSt.zero s base, rfl⟩
      case round =>
        obtain ⟨k, n, g, rfl, rfl, rfl, hk0, hk1, hn0, hn1, hst, rfl⟩ := hrel
        by_cases hlt : k < s.size
        · have hbt := bt_at s k
          have hbr := bt_range s k
          have hdl := dig_lt (b := bt s k) (base := base) (by omega)
          generalize hd : dig (bt s k) base = d at *
          have Hd := Lib.hid hd
          clear hd
          by_cases hneg : d < 0
          · go_wp2_with (go_at_call 38; refine (digit_any _ _ _ hbr.1 hbr.2).mono ?_; rw [Hd.out]; rintro e w' ⟨rfl, rfl⟩)
            go_ret3
            exact ⟨0, k, 12, .inr ⟨by omega, by omega, .inr (.inl ⟨hk0, hlt, by rw [Hd.out]; exact hneg, hst.out.1, rfl, rfl⟩)⟩, rfl, rfl⟩
          · have hmm := mul_small hn0 hn1 (by omega) (show base ≤ 36 by omega)
            generalize hp : n * base = p at *
            have Hp := Lib.hid hp
            clear hp
            have hadd := fun W => add64_run (p % 18446744073709551616) d W (by omega) (by omega)
            cases g
            · go_wp2_with (first
                | (go_at_call 38; refine (digit_any _ _ _ hbr.1 hbr.2).mono ?_; rw [Hd.out]; rintro e w' ⟨rfl, rfl⟩)
                | (go_at_call 49; refine (mul64_any _ _ _ ⟨hn0, hn1⟩ (by omega) (by omega)).mono ?_; rw [Hp.out]; rintro e w' ⟨rfl, rfl⟩))
              exact ⟨⟨k + 1, (p + d) % 18446744073709551616, decide (0 < p / 18446744073709551616 + (p % 18446744073709551616 + d) / 18446744073709551616), rfl, rfl, rfl, by omega, by omega, by omega, by omega, NumSt.step hst.out hk0 (by omega) (by rw [Hd.out]; omega) (fun h => (by cases h)) (fun _ h => by rw [Hd.out, Hp.out]; have := of_decide_eq_true h; omega) (fun h => by rw [Hd.out, Hp.out]; have := of_decide_eq_false h; omega), trivial⟩, by simp [intOf]; omega⟩
            · go_wp2_with (first
                | (go_at_call 38; refine (digit_any _ _ _ hbr.1 hbr.2).mono ?_; rw [Hd.out]; rintro e w' ⟨rfl, rfl⟩)
                | (go_at_call 49; refine (mul64_any _ _ _ ⟨hn0, hn1⟩ (by omega) (by omega)).mono ?_; rw [Hp.out]; rintro e w' ⟨rfl, rfl⟩))
              exact ⟨⟨k + 1, (p + d) % 18446744073709551616, true, rfl, rfl, rfl, by omega, by omega, by omega, by omega, NumSt.step hst.out hk0 (by omega) (by rw [Hd.out]; omega) (fun h => rfl) (fun h => (by cases h)) (fun h => (by cases h)), trivial⟩, by simp [intOf]; omega⟩
        · obtain rfl : k = s.size := by omega
          have hdn := hst.out.done (by omega) Hz.out hn1
          have Hdn := Lib.hid hdn
          clear hdn
          cases g
          · go_wp2
            go_ret3
            exact ⟨n, 0, 0, Hdn.out.2 (by simp), rfl, rfl⟩
          · go_wp2
            go_ret3
            exact ⟨0, 0, 13, Hdn.out.1 (by simp), rfl, rfl⟩
set_option maxRecDepth 100000 in
set_option maxHeartbeats 8000000 in
theorem rnumber_any (s : ByteArray) (base : Int) (w : World) (hs : s.size ≤ 9223372036854775807) : Calls Try.prog 36 #[.string s, .int .i64 base] w (NumSuch s base w) := by
  by_cases hb : base < 2 ∨ 36 < base
  · by_cases hb2 : base < 2
    · go_enter Try.func36, Try.ntmps36
      go_wp2
      go_ret3
      exact ⟨0, 0, 11, .inl ⟨.inl hb2, rfl, rfl, rfl⟩, rfl, rfl⟩
    · have hb3 : 36 < base := by omega
      go_enter Try.func36, Try.ntmps36
      go_wp2
      go_ret3
      exact ⟨0, 0, 11, .inl ⟨.inr hb3, rfl, rfl, rfl⟩, rfl, rfl⟩
  · have hb2 : ¬ base < 2 := by omega
    have hb3 : ¬ 36 < base := by omega
    clear hb
    by_cases hz : s.size = 0
    · obtain rfl := empty_of_size hz
      go_enter Try.func36, Try.ntmps36
      go_wp2
      go_ret3
      exact ⟨0, 0, 12, .inr ⟨by omega, by omega, .inl ⟨rfl, rfl, rfl, rfl⟩⟩, rfl, rfl⟩
    · have hne := ne_empty hz
      have Hz := Lib.hid hz
      clear hz
      go_enter Try.func36, Try.ntmps36
      go_wp2
      clear hne
      go_loopw [7, 8, 9] (fun u v x wr => ∃ (k n : Int) (g : Bool), u = .int .u64 n ∧ v = .bool g ∧ x = .int .i64 k ∧ 0 ≤ k ∧ k ≤ s.size ∧ 0 ≤ n ∧ n < 18446744073709551616 ∧ Hid (NumSt s base k n g) ∧ wr = w) (fun _ _ x _ => s.size - (intOf x).toNat)
      case atStart => exact ⟨0, 0, false, rfl, rfl, rfl, by omega, by omega, by omega, by omega, NumSt.zero s base, rfl⟩
      case round =>
        obtain ⟨k, n, g, rfl, rfl, rfl, hk0, hk1, hn0, hn1, hst, rfl⟩ := hrel
        by_cases hlt : k < s.size
        · have hbt := bt_at s k
          have hbr := bt_range s k
          have hdl := dig_lt (b := bt s k) (base := base) (by omega)
          generalize hd : dig (bt s k) base = d at *
          have Hd := Lib.hid hd
          clear hd
          by_cases hneg : d < 0
          · go_wp2_with (go_at_call 39; refine (rdigit_any _ _ _ hbr.1 hbr.2).mono ?_; rw [Hd.out]; rintro e w' ⟨rfl, rfl⟩)
            go_ret3
            exact ⟨0, k, 12, .inr ⟨by omega, by omega, .inr (.inl ⟨hk0, hlt, by rw [Hd.out]; exact hneg, hst.out.1, rfl, rfl⟩)⟩, rfl, rfl⟩
          · have hmm := mul_small hn0 hn1 (by omega) (show base ≤ 36 by omega)
            have hle : (18446744073709551615 - d) / base < n ↔ 18446744073709551615 - d < n * base := Int.ediv_lt_iff_lt_mul (by omega)
            generalize hp : n * base = p at *
            generalize hq : (18446744073709551615 - d) / base = q at *
            have Hp := Lib.hid hp
            clear hp
            by_cases hqn : q < n
            · have ho := hle.1 hqn
              have Hle := Lib.hid hle
              clear hle
              go_wp2_with (go_at_call 39; refine (rdigit_any _ _ _ hbr.1 hbr.2).mono ?_; rw [Hd.out]; rintro e w' ⟨rfl, rfl⟩)
              exact ⟨⟨k + 1, d, true, rfl, rfl, rfl, by omega, by omega, by omega, by omega, NumSt.step hst.out hk0 (by omega) (by rw [Hd.out]; omega) (fun h => rfl) (fun _ h => by rw [Hd.out, Hp.out]; omega) (fun h => (by cases h)), trivial⟩, by simp [intOf]; omega⟩
            · have ho : p ≤ 18446744073709551615 - d := Int.not_lt.1 (fun h => hqn (hle.2 h))
              have Hle := Lib.hid hle
              clear hle
              go_wp2_with (go_at_call 39; refine (rdigit_any _ _ _ hbr.1 hbr.2).mono ?_; rw [Hd.out]; rintro e w' ⟨rfl, rfl⟩)
              have hv : IntKind.u64.wrap (IntKind.u64.wrap (n * base) + d) = p + d := by
                rw [Hp.out, IntKind.wrap_u64, IntKind.wrap_u64]
                omega
              rw [hv]
              exact ⟨⟨k + 1, p + d, g, rfl, rfl, rfl, by omega, by omega, by omega, by omega, NumSt.step hst.out hk0 (by omega) (by rw [Hd.out]; omega) (fun h => h) (fun h h' => (by rw [h] at h'; cases h')) (fun h => by rw [Hd.out, Hp.out]), trivial⟩, by simp [intOf]; omega⟩
        · obtain rfl : k = s.size := by omega
          have hdn := hst.out.done (by omega) Hz.out hn1
          have Hdn := Lib.hid hdn
          clear hdn
          cases g
          · go_wp2
            go_ret3
            exact ⟨n, 0, 0, Hdn.out.2 (by simp), rfl, rfl⟩
          · go_wp2
            go_ret3
            exact ⟨0, 0, 13, Hdn.out.1 (by simp), rfl, rfl⟩
end Go.Proofs.Ytjiapggmiddpdaa
