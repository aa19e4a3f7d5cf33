/- Digits: strings.IndexByte by the model's own entry; octet.Digit, the document's Digit. (Written by wip/gen/octg.py.) -/
import Derived.Test.YtfbgmlophkbejaaClsA
import Derived.Lib.Strings
import Derived.Lib.Slices
import Derived.Lib.Walk
import Derived.Lib.Bytealg
set_option linter.unusedVariables false
set_option linter.unusedSimpArgs false
namespace Go.Proofs.Ytfbgmlophkbejaa
open Go.RowKit Go.Proofs.YtfbgmlophkbejaaW.PrintWords Go.Proofs.YtfbgmlophkbejaaW.PrintLast
set_option maxHeartbeats 1000000 in
set_option maxRecDepth 100000 in
theorem lIdx_any (s : ByteArray) (c : Int) (w : World) : Calls Try.prog 47 #[.string s, .int .u8 c] w fun e w' => e = .returned (.int .i64 (Lib.indexByte s.data.toList c.toNat.toUInt8)) ∧ w' = w := by
  go_enter Try.func47, Try.ntmps47
  go_wp2
  rw [run_callFunc_extern Try.func50 (by kernel_rfl) (by kernel_rfl) (by kernel_rfl) (e := Extern.BytealgIndexByte.indexByte) (by kernel_rfl), Lib.run_indexByteString]
  simp only [Result.andThen]
  rw [Oper.upon_value]
  go_wp2
  go_ret
  exact ⟨rfl, rfl⟩
theorem sIdx_any (s : ByteArray) (c : Int) (w : World) : Calls Try.prog 44 #[.string s, .int .u8 c] w fun e w' => e = .returned (.int .i64 (Lib.indexByte s.data.toList c.toNat.toUInt8)) ∧ w' = w := by
  go_enter Try.func44, Try.ntmps44
  go_wp2_with (go_at_call 47; refine (lIdx_any _ _ _).mono ?_; rintro e w' ⟨rfl, rfl⟩)
  go_ret
  exact ⟨rfl, rfl⟩
theorem each256 {α : Type} [BEq α] [LawfulBEq α] {p q : Int → α} (h : ((List.range 256).all fun n => p (n : Int) == q (n : Int)) = true) : ∀ b, 0 ≤ b → b < 256 → p b = q b := by
  intro b h0 h1
  have := List.all_eq_true.1 h b.toNat (by simp; omega)
  have e : ((b.toNat : Nat) : Int) = b := by omega
  rw [e] at this
  exact eq_of_beq this
/-- what a byte says as a digit of the greatest base; -1: nothing -/
def d36 (b : Int) : Int := if 48 ≤ b ∧ b ≤ 57 then b - 48 else if 97 ≤ b ∧ b ≤ 122 then b - 87 else if 65 ≤ b ∧ b ≤ 90 then b - 55 else -1
def low36 (b : Int) : Int := if 48 ≤ b ∧ b ≤ 57 then b - 48 else if 97 ≤ b ∧ b ≤ 122 then b - 87 else -1
def dig (b base : Int) : Int := if base < 2 ∨ 36 < base then -1 else if base ≤ d36 b then -1 else d36 b
theorem idx_low (c : Int) (w : World) (h0 : 0 ≤ c) (h1 : c < 256) : Calls Try.prog 44 #[.string ⟨#[48, 49, 50, 51, 52, 53, 54, 55, 56, 57, 97, 98, 99, 100, 101, 102, 103, 104, 105, 106, 107, 108, 109, 110, 111, 112, 113, 114, 115, 116, 117, 118, 119, 120, 121, 122]⟩, .int .u8 c] w fun e w' => e = .returned (.int .i64 (low36 c)) ∧ w' = w := by
  have h := sIdx_any ⟨#[48, 49, 50, 51, 52, 53, 54, 55, 56, 57, 97, 98, 99, 100, 101, 102, 103, 104, 105, 106, 107, 108, 109, 110, 111, 112, 113, 114, 115, 116, 117, 118, 119, 120, 121, 122]⟩ c w
  have e : Lib.indexByte (ByteArray.mk #[48, 49, 50, 51, 52, 53, 54, 55, 56, 57, 97, 98, 99, 100, 101, 102, 103, 104, 105, 106, 107, 108, 109, 110, 111, 112, 113, 114, 115, 116, 117, 118, 119, 120, 121, 122]).data.toList c.toNat.toUInt8 = low36 c := each256 (p := fun c => Lib.indexByte (ByteArray.mk #[48, 49, 50, 51, 52, 53, 54, 55, 56, 57, 97, 98, 99, 100, 101, 102, 103, 104, 105, 106, 107, 108, 109, 110, 111, 112, 113, 114, 115, 116, 117, 118, 119, 120, 121, 122]).data.toList c.toNat.toUInt8) (q := low36) (by kernel_rfl) c h0 h1
  rw [e] at h
  exact h
theorem upper_bit (b : Int) (h0 : 0 ≤ b) (h1 : b < 256) : (bits BinOp.and IntKind.i64 (cls b) 2 == 0) = !decide (65 ≤ b ∧ b ≤ 90) := each256 (p := fun b => (bits BinOp.and IntKind.i64 (cls b) 2 == 0)) (q := fun b => !decide (65 ≤ b ∧ b ≤ 90)) (by kernel_rfl) b h0 h1
set_option maxHeartbeats 2000000 in
theorem digit_any (b base : Int) (w : World) (h0 : 0 ≤ b) (h1 : b ≤ 255) : Calls Try.prog 40 #[.int .u8 b, .int .i64 base] w fun e w' => e = .returned (.int .i64 (dig b base)) ∧ w' = w := by
  by_cases hb : base < 2 ∨ 36 < base
  · have hd : dig b base = -1 := by unfold dig; rw [if_pos hb]
    rw [hd]
    clear hd
    by_cases hb2 : base < 2
    · go_enter Try.func40, Try.ntmps40
      go_wp2
      go_ret
      exact ⟨rfl, rfl⟩
    · have hb3 : 36 < base := by omega
      go_enter Try.func40, Try.ntmps40
      go_wp2
      go_ret
      exact ⟨rfl, rfl⟩
  · have hd : dig b base = if base ≤ d36 b then -1 else d36 b := by unfold dig; rw [if_neg hb]
    rw [hd]
    clear hd
    have hb2 : ¬ base < 2 := by omega
    have hb3 : ¬ 36 < base := by omega
    have hu := upper_bit b h0 (by omega)
    by_cases hup : 65 ≤ b ∧ b ≤ 90
    · rw [decide_eq_true hup, Bool.not_true] at hu
      have e : d36 b = low36 (b + 32) := by unfold d36 low36; rw [if_neg (by omega), if_neg (by omega), if_pos hup, if_neg (by omega), if_pos (by omega)]; omega
      rw [e]
      clear e hb
      generalize hx : low36 (b + 32) = x
      have hi : ∀ W : World, Calls Try.prog 44 #[.string ⟨#[48, 49, 50, 51, 52, 53, 54, 55, 56, 57, 97, 98, 99, 100, 101, 102, 103, 104, 105, 106, 107, 108, 109, 110, 111, 112, 113, 114, 115, 116, 117, 118, 119, 120, 121, 122]⟩, .int .u8 (b + 32)] W fun e w' => e = .returned (.int .i64 x) ∧ w' = W := fun W => hx ▸ idx_low (b + 32) W (by omega) (by omega)
      have Hi := Lib.hid hi
      clear hi hx
      by_cases hle : base ≤ x
      · rw [if_pos hle]
        go_enter Try.func40, Try.ntmps40
        go_wp2_with (first | (go_at_call 43; refine (class_any _ _ h0 h1).mono ?_; rintro e w' ⟨rfl, rfl⟩) | (go_at_call 44; refine (Hi.out _).mono ?_; rintro e w' ⟨rfl, rfl⟩))
        go_ret
        exact ⟨rfl, rfl⟩
      · rw [if_neg hle]
        go_enter Try.func40, Try.ntmps40
        go_wp2_with (first | (go_at_call 43; refine (class_any _ _ h0 h1).mono ?_; rintro e w' ⟨rfl, rfl⟩) | (go_at_call 44; refine (Hi.out _).mono ?_; rintro e w' ⟨rfl, rfl⟩))
        go_ret
        exact ⟨rfl, rfl⟩
    · rw [decide_eq_false hup, Bool.not_false] at hu
      have e : d36 b = low36 b := by unfold d36 low36; rw [if_neg hup]
      rw [e]
      clear e hb
      generalize hx : low36 b = x
      have hi : ∀ W : World, Calls Try.prog 44 #[.string ⟨#[48, 49, 50, 51, 52, 53, 54, 55, 56, 57, 97, 98, 99, 100, 101, 102, 103, 104, 105, 106, 107, 108, 109, 110, 111, 112, 113, 114, 115, 116, 117, 118, 119, 120, 121, 122]⟩, .int .u8 b] W fun e w' => e = .returned (.int .i64 x) ∧ w' = W := fun W => hx ▸ idx_low b W (by omega) (by omega)
      have Hi := Lib.hid hi
      clear hi hx hup
      by_cases hle : base ≤ x
      · rw [if_pos hle]
        go_enter Try.func40, Try.ntmps40
        go_wp2_with (first | (go_at_call 43; refine (class_any _ _ h0 h1).mono ?_; rintro e w' ⟨rfl, rfl⟩) | (go_at_call 44; refine (Hi.out _).mono ?_; rintro e w' ⟨rfl, rfl⟩))
        go_ret
        exact ⟨rfl, rfl⟩
      · rw [if_neg hle]
        go_enter Try.func40, Try.ntmps40
        go_wp2_with (first | (go_at_call 43; refine (class_any _ _ h0 h1).mono ?_; rintro e w' ⟨rfl, rfl⟩) | (go_at_call 44; refine (Hi.out _).mono ?_; rintro e w' ⟨rfl, rfl⟩))
        go_ret
        exact ⟨rfl, rfl⟩
def lowT : ByteArray := ⟨#[48, 49, 50, 51, 52, 53, 54, 55, 56, 57, 97, 98, 99, 100, 101, 102, 103, 104, 105, 106, 107, 108, 109, 110, 111, 112, 113, 114, 115, 116, 117, 118, 119, 120, 121, 122]⟩
def upT : ByteArray := ⟨#[48, 49, 50, 51, 52, 53, 54, 55, 56, 57, 65, 66, 67, 68, 69, 70, 71, 72, 73, 74, 75, 76, 77, 78, 79, 80, 81, 82, 83, 84, 85, 86, 87, 88, 89, 90]⟩
/-- the place of a byte in the two rows of digits -/
theorem place36 (j b : Int) (h0 : 0 ≤ b) (h1 : b < 256) (hj0 : 0 ≤ j) (hj1 : j < 36) : (bt lowT j == b || bt upT j == b) = (d36 b == j) := by
  have h := each256 (p := fun b => (List.range 36).map fun (j : Nat) => (bt lowT j == b || bt upT j == b)) (q := fun b => (List.range 36).map fun (j : Nat) => (d36 b == j)) (by kernel_rfl) b h0 h1
  have h2 := congrArg (fun l => l[j.toNat]?) h
  have hj : j.toNat < 36 := by omega
  have e : ((j.toNat : Nat) : Int) = j := by omega
  simp [hj, e] at h2
  simpa using h2
set_option maxHeartbeats 4000000 in
theorem rdigit_any (b base : Int) (w : World) (h0 : 0 ≤ b) (h1 : b ≤ 255) : Calls Try.prog 31 #[.int .u8 b, .int .i64 base] w fun e w' => e = .returned (.int .i64 (dig b base)) ∧ w' = w := by
  by_cases hb : base < 2 ∨ 36 < base
  · have hd : dig b base = -1 := by unfold dig; rw [if_pos hb]
    rw [hd]
    clear hd
    by_cases hb2 : base < 2
    · go_enter Try.func31, Try.ntmps31
      go_wp2
      go_ret
      exact ⟨rfl, rfl⟩
    · have hb3 : 36 < base := by omega
      go_enter Try.func31, Try.ntmps31
      go_wp2
      go_ret
      exact ⟨rfl, rfl⟩
  · have hd : dig b base = if base ≤ d36 b then -1 else d36 b := by unfold dig; rw [if_neg hb]
    rw [hd]
    clear hd
    have hb2 : ¬ base < 2 := by omega
    have hb3 : ¬ 36 < base := by omega
    have hneg : d36 b = -1 ∨ (0 ≤ d36 b ∧ d36 b < 36) := by unfold d36; split; omega; split; omega; split; omega; omega
    clear hb
    generalize hx : d36 b = x at *
    have Hx := Lib.hid hx
    clear hx
    obtain ⟨r, hr, hr1, hr2⟩ : ∃ r, (if base ≤ x then (-1 : Int) else x) = r ∧ (base ≤ x → r = -1) ∧ (x < base → r = x) := ⟨_, rfl, fun h => if_pos h, fun h => if_neg (by omega)⟩
    rw [hr]
    have Hr1 := Lib.hid hr1
    have Hr2 := Lib.hid hr2
    clear hr hr1 hr2
    go_enter Try.func31, Try.ntmps31
    go_wp2
    go_loop [5] (fun v => ∃ k : Int, 0 ≤ k ∧ k ≤ base ∧ v = .int .i64 k ∧ (x < k → x = -1)) (fun v => base.toNat - (intOf v).toNat)
    case atStart => exact ⟨0, by omega, by omega, rfl, fun h => by omega⟩
    case round =>
      obtain ⟨k, hk0, hk, rfl, hlt⟩ := hrel
      have Hlt := Lib.hid hlt
      clear hlt
      by_cases hkb : k < base
      · have hp := place36 k b h0 (by omega) hk0 (by omega)
        rw [Hx.out] at hp
        have hl : ∀ h : k.toNat < (ByteArray.mk #[48, 49, 50, 51, 52, 53, 54, 55, 56, 57, 97, 98, 99, 100, 101, 102, 103, 104, 105, 106, 107, 108, 109, 110, 111, 112, 113, 114, 115, 116, 117, 118, 119, 120, 121, 122]).size, ((((ByteArray.mk #[48, 49, 50, 51, 52, 53, 54, 55, 56, 57, 97, 98, 99, 100, 101, 102, 103, 104, 105, 106, 107, 108, 109, 110, 111, 112, 113, 114, 115, 116, 117, 118, 119, 120, 121, 122])[k.toNat]'h).toNat : Nat) : Int) = bt lowT k := bt_at lowT k
        have hu : ∀ h : k.toNat < (ByteArray.mk #[48, 49, 50, 51, 52, 53, 54, 55, 56, 57, 65, 66, 67, 68, 69, 70, 71, 72, 73, 74, 75, 76, 77, 78, 79, 80, 81, 82, 83, 84, 85, 86, 87, 88, 89, 90]).size, ((((ByteArray.mk #[48, 49, 50, 51, 52, 53, 54, 55, 56, 57, 65, 66, 67, 68, 69, 70, 71, 72, 73, 74, 75, 76, 77, 78, 79, 80, 81, 82, 83, 84, 85, 86, 87, 88, 89, 90])[k.toNat]'h).toNat : Nat) : Int) = bt upT k := bt_at upT k
        generalize bt lowT k = y at *
        generalize bt upT k = z at *
        cases ha : (y == b)
        · cases hb : (z == b)
          · rw [ha, hb] at hp
            have hne : ¬ x = k := by simpa using hp.symm
            have Hne := Lib.hid hne
            clear hp hne
            go_wp2
            exact ⟨⟨k + 1, by omega, by omega, rfl, fun h => by have := Hlt.out; have := Hne.out; omega⟩, by simp [intOf]; omega⟩
          · rw [ha, hb] at hp
            have he : x = k := by simpa using hp.symm
            have He := Lib.hid he
            clear hp he
            go_wp2
            go_ret
            exact ⟨by rw [Hr2.out (by have := He.out; omega), He.out]; rfl, rfl⟩
        · rw [ha] at hp
          have he : x = k := by simpa using hp.symm
          have He := Lib.hid he
          clear hp he
          go_wp2
          go_ret
          exact ⟨by rw [Hr2.out (by have := He.out; omega), He.out]; rfl, rfl⟩
      · have hr : r = -1 := by
          have h3 := Hlt.out
          rcases Int.lt_or_le x base with h | h
          · rw [Hr2.out h]; omega
          · exact Hr1.out h
        have Hr := Lib.hid hr
        clear hr
        go_wp2
        go_ret
        exact ⟨by rw [Hr.out]; rfl, rfl⟩
end Go.Proofs.Ytfbgmlophkbejaa
