/- import Derived.Test.YtfbgmlophkbejaaDoorBas Digits: strings.IndexByte by the model's own entry; octet.Digit, the document's Digit. (Written by wip/gen/octg.py.) Percent: coded bytes, the document's side: coded, says. Percent: the program's coded. Percent: percent.walk over a text, by whatever closure. Percent: decoding: the items of a text; the closures of Decode, Coded, Strays; these three; the document's Decode. Percent: the document's Decode. Percent: Strict, the statements' awake and ints. As SetA, where package octet's own words are at hand:  digits of a byte (of the seats whose dump lacks the rest of package octet). A strings.Builder of the call's own: copyCheck, WriteByte, WriteString, String. Percent: coding by a set: code, Encode, Normal; the document's Encode, Normal. Percent: the document's Normal. -/
import Derived.Lib.Strings
import Derived.Lib.Slices
import Derived.Lib.Walk
import Derived.Lib.Bytealg
import Derived.ScopeJumps
import Derived.WalkMore
import Derived.Test.YtfbgmlophkbejaaDoorBas
import Derived.Test.YtfbgmlophkbejaaDoorOpO
import Derived.Test.YtfbgmlophkbejaaDoorShelf
set_option linter.unusedVariables false
set_option linter.unusedSimpArgs false
namespace Go.Proofs.YtfbgmlophkbejaaDoor.Z
open Go.RowKit Go.Proofs.YtfbgmlophkbejaaDoorW.PrintWords Go.Proofs.YtfbgmlophkbejaaDoorW.PrintLast
/-- the class of a byte -/
def cls (b : Int) : Int :=
  if 48 ≤ b ∧ b ≤ 57 then 9 else if 65 ≤ b ∧ b ≤ 70 then 10 else if 97 ≤ b ∧ b ≤ 102 then 12 else if 65 ≤ b ∧ b ≤ 90 then 2 else if 97 ≤ b ∧ b ≤ 122 then 4
  else if b < 32 ∨ b = 127 then 16 else if 127 < b then 32 else if b = 32 then 128 else 64
set_option maxHeartbeats 4000000 in
theorem class_any (b : Int) (w : World) (h0 : 0 ≤ b) (h1 : b ≤ 255) : Calls Tryd.prog 115 #[.int .u8 b] w fun e w' => e = .returned (.int .i64 (cls b)) ∧ w = w' := by
  go_enter Tryd.func115, Tryd.ntmps115
  go_wp2
  all_goals
    go_ret
    refine ⟨ret_int ?_, rfl⟩
    try simp only [beq_iff_eq, beq_eq_false_iff_ne, ne_eq] at *
    unfold cls
    repeat (first | rw [if_pos (by omega)] | rw [if_neg (by omega)])
    all_goals omega
theorem byte_ranges (b : Int) (h0 : 0 ≤ b) (h1 : b ≤ 255) : (0 ≤ b ∧ b ≤ 31) ∨ (32 ≤ b ∧ b ≤ 32) ∨ (33 ≤ b ∧ b ≤ 47) ∨ (48 ≤ b ∧ b ≤ 57) ∨ (58 ≤ b ∧ b ≤ 64) ∨ (65 ≤ b ∧ b ≤ 70) ∨ (71 ≤ b ∧ b ≤ 90) ∨ (91 ≤ b ∧ b ≤ 96) ∨ (97 ≤ b ∧ b ≤ 102) ∨ (103 ≤ b ∧ b ≤ 122) ∨ (123 ≤ b ∧ b ≤ 126) ∨ (127 ≤ b ∧ b ≤ 127) ∨ (128 ≤ b ∧ b ≤ 255) := by omega
end Go.Proofs.YtfbgmlophkbejaaDoor.Z

set_option linter.unusedVariables false
set_option linter.unusedSimpArgs false
namespace Go.Proofs.YtfbgmlophkbejaaDoor.Z
open Go.RowKit Go.Proofs.YtfbgmlophkbejaaDoorW.PrintWords Go.Proofs.YtfbgmlophkbejaaDoorW.PrintLast
set_option maxHeartbeats 1000000 in
set_option maxRecDepth 100000 in
theorem lIdx_any (s : ByteArray) (c : Int) (w : World) : Calls Tryd.prog 124 #[.string s, .int .u8 c] w fun e w' => e = .returned (.int .i64 (Lib.indexByte s.data.toList c.toNat.toUInt8)) ∧ w' = w := by
  go_enter Tryd.func124, Tryd.ntmps124
  go_wp2
  rw [run_callFunc_extern Tryd.func131 (by kernel_rfl) (by kernel_rfl) (by kernel_rfl) (e := Extern.BytealgIndexByte.indexByte) (by kernel_rfl), Lib.run_indexByteString]
  simp only [Result.andThen]
  rw [Oper.upon_value]
  go_wp2
  go_ret
  exact ⟨rfl, rfl⟩
theorem sIdx_any (s : ByteArray) (c : Int) (w : World) : Calls Tryd.prog 116 #[.string s, .int .u8 c] w fun e w' => e = .returned (.int .i64 (Lib.indexByte s.data.toList c.toNat.toUInt8)) ∧ w' = w := by
  go_enter Tryd.func116, Tryd.ntmps116
  go_wp2_with (go_at_call 124; refine (lIdx_any _ _ _).mono ?_; rintro e w' ⟨rfl, rfl⟩)
  go_ret
  exact ⟨rfl, rfl⟩
theorem each256 {α : Type} [BEq α] [LawfulBEq α] {p q : Int → α} (h : ((List.range 256).all fun n => p (n : Int) == q (n : Int)) = true) : ∀ b, 0 ≤ b → b < 256 → p b = q b := by
  intro b h0 h1
  have := List.all_eq_true.1 h b.toNat (by simp; omega)
  have e : ((b.toNat : Nat) : Int) = b := by omega
  rw [e] at this
  exact eq_of_beq this
/-- what a byte says as a digit of the greatest base; -1: nothing -/
def d36 (b : Int) : Int := if 48 ≤ b ∧ b ≤ 57 then b - 48 else if 97 ≤ b ∧ b ≤ 122 then b - 87 else if 65 ≤ b ∧ b ≤ 90 then b - 55 else -1
def low36 (b : Int) : Int := if 48 ≤ b ∧ b ≤ 57 then b - 48 else if 97 ≤ b ∧ b ≤ 122 then b - 87 else -1
def dig (b base : Int) : Int := if base < 2 ∨ 36 < base then -1 else if base ≤ d36 b then -1 else d36 b
theorem idx_low (c : Int) (w : World) (h0 : 0 ≤ c) (h1 : c < 256) : Calls Tryd.prog 116 #[.string ⟨#[48, 49, 50, 51, 52, 53, 54, 55, 56, 57, 97, 98, 99, 100, 101, 102, 103, 104, 105, 106, 107, 108, 109, 110, 111, 112, 113, 114, 115, 116, 117, 118, 119, 120, 121, 122]⟩, .int .u8 c] w fun e w' => e = .returned (.int .i64 (low36 c)) ∧ w' = w := by
  have h := sIdx_any ⟨#[48, 49, 50, 51, 52, 53, 54, 55, 56, 57, 97, 98, 99, 100, 101, 102, 103, 104, 105, 106, 107, 108, 109, 110, 111, 112, 113, 114, 115, 116, 117, 118, 119, 120, 121, 122]⟩ c w
  have e : Lib.indexByte (ByteArray.mk #[48, 49, 50, 51, 52, 53, 54, 55, 56, 57, 97, 98, 99, 100, 101, 102, 103, 104, 105, 106, 107, 108, 109, 110, 111, 112, 113, 114, 115, 116, 117, 118, 119, 120, 121, 122]).data.toList c.toNat.toUInt8 = low36 c := each256 (p := fun c => Lib.indexByte (ByteArray.mk #[48, 49, 50, 51, 52, 53, 54, 55, 56, 57, 97, 98, 99, 100, 101, 102, 103, 104, 105, 106, 107, 108, 109, 110, 111, 112, 113, 114, 115, 116, 117, 118, 119, 120, 121, 122]).data.toList c.toNat.toUInt8) (q := low36) (by kernel_rfl) c h0 h1
  rw [e] at h
  exact h
theorem upper_bit (b : Int) (h0 : 0 ≤ b) (h1 : b < 256) : (bits BinOp.and IntKind.i64 (cls b) 2 == 0) = !decide (65 ≤ b ∧ b ≤ 90) := each256 (p := fun b => (bits BinOp.and IntKind.i64 (cls b) 2 == 0)) (q := fun b => !decide (65 ≤ b ∧ b ≤ 90)) (by kernel_rfl) b h0 h1
set_option maxHeartbeats 2000000 in
theorem digit_any (b base : Int) (w : World) (h0 : 0 ≤ b) (h1 : b ≤ 255) : Calls Tryd.prog 97 #[.int .u8 b, .int .i64 base] w fun e w' => e = .returned (.int .i64 (dig b base)) ∧ w' = w := by
  by_cases hb : base < 2 ∨ 36 < base
  · have hd : dig b base = -1 := by unfold dig; rw [if_pos hb]
    rw [hd]
    clear hd
    by_cases hb2 : base < 2
    · go_enter Tryd.func97, Tryd.ntmps97
      go_wp2
      go_ret
      exact ⟨rfl, rfl⟩
    · have hb3 : 36 < base := by omega
      go_enter Tryd.func97, Tryd.ntmps97
      go_wp2
      go_ret
      exact ⟨rfl, rfl⟩
  · have hd : dig b base = if base ≤ d36 b then -1 else d36 b := by unfold dig; rw [if_neg hb]
    rw [hd]
    clear hd
    have hb2 : ¬ base < 2 := by omega
    have hb3 : ¬ 36 < base := by omega
    have hu := upper_bit b h0 (by omega)
    by_cases hup : 65 ≤ b ∧ b ≤ 90
    · rw [decide_eq_true hup, Bool.not_true] at hu
      have e : d36 b = low36 (b + 32) := by unfold d36 low36; rw [if_neg (by omega), if_neg (by omega), if_pos hup, if_neg (by omega), if_pos (by omega)]; omega
      rw [e]
      clear e hb
      generalize hx : low36 (b + 32) = x
      have hi : ∀ W : World, Calls Tryd.prog 116 #[.string ⟨#[48, 49, 50, 51, 52, 53, 54, 55, 56, 57, 97, 98, 99, 100, 101, 102, 103, 104, 105, 106, 107, 108, 109, 110, 111, 112, 113, 114, 115, 116, 117, 118, 119, 120, 121, 122]⟩, .int .u8 (b + 32)] W fun e w' => e = .returned (.int .i64 x) ∧ w' = W := fun W => hx ▸ idx_low (b + 32) W (by omega) (by omega)
      have Hi := Lib.hid hi
      clear hi hx
      by_cases hle : base ≤ x
      · rw [if_pos hle]
        go_enter Tryd.func97, Tryd.ntmps97
        go_wp2_with (first | (go_at_call 115; refine (class_any _ _ h0 h1).mono ?_; rintro e w' ⟨rfl, rfl⟩) | (go_at_call 116; refine (Hi.out _).mono ?_; rintro e w' ⟨rfl, rfl⟩))
        go_ret
        exact ⟨rfl, rfl⟩
      · rw [if_neg hle]
        go_enter Tryd.func97, Tryd.ntmps97
        go_wp2_with (first | (go_at_call 115; refine (class_any _ _ h0 h1).mono ?_; rintro e w' ⟨rfl, rfl⟩) | (go_at_call 116; refine (Hi.out _).mono ?_; rintro e w' ⟨rfl, rfl⟩))
        go_ret
        exact ⟨rfl, rfl⟩
    · rw [decide_eq_false hup, Bool.not_false] at hu
      have e : d36 b = low36 b := by unfold d36 low36; rw [if_neg hup]
      rw [e]
      clear e hb
      generalize hx : low36 b = x
      have hi : ∀ W : World, Calls Tryd.prog 116 #[.string ⟨#[48, 49, 50, 51, 52, 53, 54, 55, 56, 57, 97, 98, 99, 100, 101, 102, 103, 104, 105, 106, 107, 108, 109, 110, 111, 112, 113, 114, 115, 116, 117, 118, 119, 120, 121, 122]⟩, .int .u8 b] W fun e w' => e = .returned (.int .i64 x) ∧ w' = W := fun W => hx ▸ idx_low b W (by omega) (by omega)
      have Hi := Lib.hid hi
      clear hi hx hup
      by_cases hle : base ≤ x
      · rw [if_pos hle]
        go_enter Tryd.func97, Tryd.ntmps97
        go_wp2_with (first | (go_at_call 115; refine (class_any _ _ h0 h1).mono ?_; rintro e w' ⟨rfl, rfl⟩) | (go_at_call 116; refine (Hi.out _).mono ?_; rintro e w' ⟨rfl, rfl⟩))
        go_ret
        exact ⟨rfl, rfl⟩
      · rw [if_neg hle]
        go_enter Tryd.func97, Tryd.ntmps97
        go_wp2_with (first | (go_at_call 115; refine (class_any _ _ h0 h1).mono ?_; rintro e w' ⟨rfl, rfl⟩) | (go_at_call 116; refine (Hi.out _).mono ?_; rintro e w' ⟨rfl, rfl⟩))
        go_ret
        exact ⟨rfl, rfl⟩
def lowT : ByteArray := ⟨#[48, 49, 50, 51, 52, 53, 54, 55, 56, 57, 97, 98, 99, 100, 101, 102, 103, 104, 105, 106, 107, 108, 109, 110, 111, 112, 113, 114, 115, 116, 117, 118, 119, 120, 121, 122]⟩
def upT : ByteArray := ⟨#[48, 49, 50, 51, 52, 53, 54, 55, 56, 57, 65, 66, 67, 68, 69, 70, 71, 72, 73, 74, 75, 76, 77, 78, 79, 80, 81, 82, 83, 84, 85, 86, 87, 88, 89, 90]⟩
/-- the place of a byte in the two rows of digits -/
theorem place36 (j b : Int) (h0 : 0 ≤ b) (h1 : b < 256) (hj0 : 0 ≤ j) (hj1 : j < 36) : (bt lowT j == b || bt upT j == b) = (d36 b == j) := by
  have h := each256 (p := fun b => (List.range 36).map fun (j : Nat) => (bt lowT j == b || bt upT j == b)) (q := fun b => (List.range 36).map fun (j : Nat) => (d36 b == j)) (by kernel_rfl) b h0 h1
  have h2 := congrArg (fun l => l[j.toNat]?) h
  have hj : j.toNat < 36 := by omega
  have e : ((j.toNat : Nat) : Int) = j := by omega
  simp [hj, e] at h2
  simpa using h2
set_option maxHeartbeats 4000000 in
theorem rdigit_any (b base : Int) (w : World) (h0 : 0 ≤ b) (h1 : b ≤ 255) : Calls Tryd.prog 96 #[.int .u8 b, .int .i64 base] w fun e w' => e = .returned (.int .i64 (dig b base)) ∧ w' = w := by
  by_cases hb : base < 2 ∨ 36 < base
  · have hd : dig b base = -1 := by unfold dig; rw [if_pos hb]
    rw [hd]
    clear hd
    by_cases hb2 : base < 2
    · go_enter Tryd.func96, Tryd.ntmps96
      go_wp2
      go_ret
      exact ⟨rfl, rfl⟩
    · have hb3 : 36 < base := by omega
      go_enter Tryd.func96, Tryd.ntmps96
      go_wp2
      go_ret
      exact ⟨rfl, rfl⟩
  · have hd : dig b base = if base ≤ d36 b then -1 else d36 b := by unfold dig; rw [if_neg hb]
    rw [hd]
    clear hd
    have hb2 : ¬ base < 2 := by omega
    have hb3 : ¬ 36 < base := by omega
    have hneg : d36 b = -1 ∨ (0 ≤ d36 b ∧ d36 b < 36) := by unfold d36; split; omega; split; omega; split; omega; omega
    clear hb
    generalize hx : d36 b = x at *
    have Hx := Lib.hid hx
    clear hx
    obtain ⟨r, hr, hr1, hr2⟩ : ∃ r, (if base ≤ x then (-1 : Int) else x) = r ∧ (base ≤ x → r = -1) ∧ (x < base → r = x) := ⟨_, rfl, fun h => if_pos h, fun h => if_neg (by omega)⟩
    rw [hr]
    have Hr1 := Lib.hid hr1
    have Hr2 := Lib.hid hr2
    clear hr hr1 hr2
    go_enter Tryd.func96, Tryd.ntmps96
    go_wp2
    go_loop [5] (fun v => ∃ k : Int, 0 ≤ k ∧ k ≤ base ∧ v = .int .i64 k ∧ (x < k → x = -1)) (fun v => base.toNat - (intOf v).toNat)
    case atStart => exact ⟨0, by omega, by omega, rfl, fun h => by omega⟩
    case round =>
      obtain ⟨k, hk0, hk, rfl, hlt⟩ := hrel
      have Hlt := Lib.hid hlt
      clear hlt
      by_cases hkb : k < base
      · have hp := place36 k b h0 (by omega) hk0 (by omega)
        rw [Hx.out] at hp
        have hl : ∀ h : k.toNat < (ByteArray.mk #[48, 49, 50, 51, 52, 53, 54, 55, 56, 57, 97, 98, 99, 100, 101, 102, 103, 104, 105, 106, 107, 108, 109, 110, 111, 112, 113, 114, 115, 116, 117, 118, 119, 120, 121, 122]).size, ((((ByteArray.mk #[48, 49, 50, 51, 52, 53, 54, 55, 56, 57, 97, 98, 99, 100, 101, 102, 103, 104, 105, 106, 107, 108, 109, 110, 111, 112, 113, 114, 115, 116, 117, 118, 119, 120, 121, 122])[k.toNat]'h).toNat : Nat) : Int) = bt lowT k := bt_at lowT k
        have hu : ∀ h : k.toNat < (ByteArray.mk #[48, 49, 50, 51, 52, 53, 54, 55, 56, 57, 65, 66, 67, 68, 69, 70, 71, 72, 73, 74, 75, 76, 77, 78, 79, 80, 81, 82, 83, 84, 85, 86, 87, 88, 89, 90]).size, ((((ByteArray.mk #[48, 49, 50, 51, 52, 53, 54, 55, 56, 57, 65, 66, 67, 68, 69, 70, 71, 72, 73, 74, 75, 76, 77, 78, 79, 80, 81, 82, 83, 84, 85, 86, 87, 88, 89, 90])[k.toNat]'h).toNat : Nat) : Int) = bt upT k := bt_at upT k
        generalize bt lowT k = y at *
        generalize bt upT k = z at *
        cases ha : (y == b)
        · cases hb : (z == b)
          · rw [ha, hb] at hp
            have hne : ¬ x = k := by simpa using hp.symm
            have Hne := Lib.hid hne
            clear hp hne
            go_wp2
            exact ⟨⟨k + 1, by omega, by omega, rfl, fun h => by have := Hlt.out; have := Hne.out; omega⟩, by simp [intOf]; omega⟩
          · rw [ha, hb] at hp
            have he : x = k := by simpa using hp.symm
            have He := Lib.hid he
            clear hp he
            go_wp2
            go_ret
            exact ⟨by rw [Hr2.out (by have := He.out; omega), He.out]; rfl, rfl⟩
        · rw [ha] at hp
          have he : x = k := by simpa using hp.symm
          have He := Lib.hid he
          clear hp he
          go_wp2
          go_ret
          exact ⟨by rw [Hr2.out (by have := He.out; omega), He.out]; rfl, rfl⟩
      · have hr : r = -1 := by
          have h3 := Hlt.out
          rcases Int.lt_or_le x base with h | h
          · rw [Hr2.out h]; omega
          · exact Hr1.out h
        have Hr := Lib.hid hr
        clear hr
        go_wp2
        go_ret
        exact ⟨by rw [Hr.out]; rfl, rfl⟩
end Go.Proofs.YtfbgmlophkbejaaDoor.Z

set_option linter.unusedVariables false
set_option linter.unusedSimpArgs false
namespace Go.Proofs.YtfbgmlophkbejaaDoor.Z
open Go.RowKit Go.Proofs.YtfbgmlophkbejaaDoorW.PrintWords Go.Proofs.YtfbgmlophkbejaaDoorW.PrintLast
/-- a coded byte stands at k -/
def isC (s : ByteArray) (k : Int) : Bool := decide (k + 2 < s.size) && (bt s k == 37) && decide (0 ≤ dig (bt s (k + 1)) 16) && decide (0 ≤ dig (bt s (k + 2)) 16)
/-- what it says -/
def sayC (s : ByteArray) (k : Int) : Int := 16 * dig (bt s (k + 1)) 16 + dig (bt s (k + 2)) 16
theorem dig16 (b : Int) : -1 ≤ dig b 16 ∧ dig b 16 < 16 := by
  unfold dig d36
  rw [if_neg (by omega)]
  repeat' split
  all_goals omega
theorem rcoded_any (s : ByteArray) (k : Int) (w : World) (hs : s.size ≤ 140737488351232) (h0 : 0 ≤ k) (h1 : k < s.size) : Calls Tryd.prog 73 #[.string s, .int .i64 k] w fun e w' => e = .returned (.bool (isC s k)) ∧ w' = w := by
  have b0 := bt_at s k
  have r0 := bt_range s k
  have b1 := bt_at s (k + 1)
  have r1 := bt_range s (k + 1)
  have b2 := bt_at s (k + 2)
  have r2 := bt_range s (k + 2)
  unfold isC
  by_cases hl : k + 2 < s.size
  · rw [decide_eq_true hl, Bool.true_and]
    cases hp : (bt s k == 37)
    · rw [Bool.false_and, Bool.false_and]
      go_enter Tryd.func73, Tryd.ntmps73
      go_wp2
      go_ret
      exact ⟨rfl, rfl⟩
    · rw [Bool.true_and]
      by_cases hd : 0 ≤ dig (bt s (k + 1)) 16
      · rw [decide_eq_true hd, Bool.true_and]
        go_enter Tryd.func73, Tryd.ntmps73
        go_wp2_with (go_at_call 96; first | (with_reducible refine (rdigit_any (bt s (k + 1)) 16 _ r1.1 r1.2).mono ?_; rintro e w' ⟨rfl, rfl⟩) | (with_reducible refine (rdigit_any (bt s (k + 2)) 16 _ r2.1 r2.2).mono ?_; rintro e w' ⟨rfl, rfl⟩))
        go_ret
        exact ⟨rfl, rfl⟩
      · rw [decide_eq_false hd, Bool.false_and]
        go_enter Tryd.func73, Tryd.ntmps73
        go_wp2_with (go_at_call 96; with_reducible refine (rdigit_any (bt s (k + 1)) 16 _ r1.1 r1.2).mono ?_; rintro e w' ⟨rfl, rfl⟩)
        go_ret
        exact ⟨rfl, rfl⟩
  · rw [decide_eq_false hl, Bool.false_and, Bool.false_and, Bool.false_and]
    go_enter Tryd.func73, Tryd.ntmps73
    go_wp2
    go_ret
    exact ⟨rfl, rfl⟩
theorem rsays_any (s : ByteArray) (k : Int) (w : World) (hs : s.size ≤ 140737488351232) (h0 : 0 ≤ k) (h1 : isC s k = true) : Calls Tryd.prog 74 #[.string s, .int .i64 k] w fun e w' => e = .returned (.int .u8 (sayC s k)) ∧ Below w.heap.size w w' := by
  unfold isC at h1
  simp only [Bool.and_eq_true, decide_eq_true_eq] at h1
  obtain ⟨⟨⟨hl, _⟩, d1⟩, d2⟩ := h1
  have b1 := bt_at s (k + 1)
  have r1 := bt_range s (k + 1)
  have b2 := bt_at s (k + 2)
  have r2 := bt_range s (k + 2)
  have e1 := dig16 (bt s (k + 1))
  have e2 := dig16 (bt s (k + 2))
  unfold sayC
  go_enter Tryd.func74, Tryd.ntmps74
  go_upto_region 1 with (fail)
  go_quiet ((first | (go_at_call 96; with_reducible exact Calls.quiet_of_same (rdigit_any (bt s (k + 1)) 16 _ r1.1 r1.2)) | (go_at_call 96; with_reducible exact Calls.quiet_of_same (rdigit_any (bt s (k + 2)) 16 _ r2.1 r2.2))))
  go_wp2
  go_ret
  exact ⟨rfl, below_drewN (Below.refl _ _) _⟩
end Go.Proofs.YtfbgmlophkbejaaDoor.Z

set_option linter.unusedVariables false
set_option linter.unusedSimpArgs false
namespace Go.Proofs.YtfbgmlophkbejaaDoor.Z
open Go.RowKit Go.Proofs.YtfbgmlophkbejaaDoorW.PrintWords Go.Proofs.YtfbgmlophkbejaaDoorW.PrintLast
/-- what percent.coded tells of the front of a text -/
def CodedAt (t : ByteArray) (w : World) (e : Ending) (w' : World) : Prop := ∃ v : Int, (isC t 0 = true → v = sayC t 0) ∧ e = .returned (.tuple #[.int .u8 v, .bool (isC t 0)]) ∧ Below w.heap.size w w'
theorem or16 (a b : Int) (ha : -1 ≤ a ∧ a < 16) (hb : -1 ≤ b ∧ b < 16) (h : 0 ≤ a ∧ 0 ≤ b) : IntKind.u8.wrap (bits BinOp.or IntKind.i64 (a * 16) b) = 16 * a + b := by
  have key : ∀ i : Nat, i < 16 → ∀ j : Nat, j < 16 → IntKind.u8.wrap (bits BinOp.or IntKind.i64 ((i : Int) * 16) (j : Int)) = 16 * (i : Int) + (j : Int) := by decide +kernel
  obtain ⟨i, rfl⟩ := Int.eq_ofNat_of_zero_le h.1
  obtain ⟨j, rfl⟩ := Int.eq_ofNat_of_zero_le h.2
  exact key i (by omega) j (by omega)
set_option maxHeartbeats 4000000 in
theorem coded_any (t : ByteArray) (w : World) (hs : t.size ≤ 140737488351232) : Calls Tryd.prog 75 #[.string t] w (CodedAt t w) := by
  by_cases hl : t.size < 3
  · have hc : isC t 0 = false := by unfold isC; rw [decide_eq_false (by omega)]; rfl
    have hr : ∀ w' : World, Below w.heap.size w w' → CodedAt t w (.returned (.tuple #[.int .u8 0, .bool false])) w' := fun w' h => ⟨0, fun h => (by rw [hc] at h; cases h), by rw [hc], h⟩
    have Hr := Lib.hid hr
    clear hr hc
    go_enter Tryd.func75, Tryd.ntmps75
    go_wp2
    go_ret2
    exact Hr.out _ (Below.refl _ _)
  · have b0 := bt_at t 0
    have r0 := bt_range t 0
    have b1 := bt_at t 1
    have r1 := bt_range t 1
    have b2 := bt_at t 2
    have r2 := bt_range t 2
    simp only [show (0 : Int).toNat = 0 from rfl, show (1 : Int).toNat = 1 from rfl, show (2 : Int).toNat = 2 from rfl] at b0 b1 b2
    cases hp : (bt t 0 == 37)
    · have hp2 : (bt t 0 != 37) = true := by simp [bne, hp]
      have hc : isC t 0 = false := by unfold isC; rw [hp]; simp
      have hr : ∀ w' : World, Below w.heap.size w w' → CodedAt t w (.returned (.tuple #[.int .u8 0, .bool false])) w' := fun w' h => ⟨0, fun h => (by rw [hc] at h; cases h), by rw [hc], h⟩
      have Hr := Lib.hid hr
      clear hr hc
      go_enter Tryd.func75, Tryd.ntmps75
      go_wp2
      go_ret2
      exact Hr.out _ (Below.refl _ _)
    · have hp2 : (bt t 0 != 37) = false := by simp [bne, hp]
      have e1 := dig16 (bt t 1)
      have e2 := dig16 (bt t 2)
      have ho := or16 (dig (bt t 1) 16) (dig (bt t 2) 16) e1 e2
      have hc : isC t 0 = (decide (0 ≤ dig (bt t 1) 16) && decide (0 ≤ dig (bt t 2) 16)) := by unfold isC; rw [hp, decide_eq_true (by omega)]; rfl
      have hsay : sayC t 0 = 16 * dig (bt t 1) 16 + dig (bt t 2) 16 := rfl
      have hr : ∀ (v : Int) (w' : World), (0 ≤ dig (bt t 1) 16 ∧ 0 ≤ dig (bt t 2) 16 → v = 16 * dig (bt t 1) 16 + dig (bt t 2) 16) → Below w.heap.size w w' → CodedAt t w (.returned (.tuple #[.int .u8 v, .bool (decide (0 ≤ dig (bt t 1) 16) && decide (0 ≤ dig (bt t 2) 16))])) w' := fun v w' h hb => ⟨v, fun g => by rw [hc] at g; simp at g; rw [hsay]; exact h g, by rw [hc], hb⟩
      have Hr := Lib.hid hr
      have Ho := Lib.hid ho
      clear hr hc hsay ho
      have n1 : 1 < t.size := by omega
      have n2 : 2 < t.size := by omega
      replace b1 := b1 n1
      replace b2 := b2 n2
      go_enter Tryd.func75, Tryd.ntmps75
      go_upto_region 3 with (fail)
      go_quiet ((first | (go_at_call 97; with_reducible exact Calls.quiet_of_same (digit_any (bt t 1) 16 _ r1.1 r1.2)) | (go_at_call 97; with_reducible exact Calls.quiet_of_same (digit_any (bt t 2) 16 _ r2.1 r2.2))))
      by_cases h1 : 0 ≤ dig (bt t 1) 16
      · go_wp2
        go_ret2
        have hfin : ∀ W : World, Below w.heap.size w W → CodedAt t w (.returned (.tuple #[.int .u8 (bits BinOp.or IntKind.i64 (dig (bt t 1) 16 * 16) (dig (bt t 2) 16) % 256), .bool (decide (0 ≤ dig (bt t 2) 16))])) W := fun W hW => by
          have := Hr.out (bits BinOp.or IntKind.i64 (dig (bt t 1) 16 * 16) (dig (bt t 2) 16) % 256) W (fun h => by have := Ho.out h; rw [IntKind.wrap_u8] at this; exact this) hW
          rw [decide_eq_true h1, Bool.true_and] at this
          exact this
        exact hfin _ (below_drewN (Below.refl _ _) _)
      · have hr2 : ∀ (v : Int) (w' : World), Below w.heap.size w w' → CodedAt t w (.returned (.tuple #[.int .u8 v, .bool false])) w' := fun v w' hb => by
          have := Hr.out v w' (fun h => absurd h.1 h1) hb
          rw [decide_eq_false h1, Bool.false_and] at this
          exact this
        have Hr2 := Lib.hid hr2
        clear hr2
        go_wp2
        go_ret2
        exact Hr2.out _ _ (below_drewN (Below.refl _ _) _)
end Go.Proofs.YtfbgmlophkbejaaDoor.Z

set_option linter.unusedVariables false
set_option linter.unusedSimpArgs false
namespace Go.Proofs.YtfbgmlophkbejaaDoor.Z
open Go.RowKit Go.Proofs.YtfbgmlophkbejaaDoorW.PrintWords Go.Proofs.YtfbgmlophkbejaaDoorW.PrintLast
/-- the place behind the item at p, and the byte that it says -/
def nxtC (s : ByteArray) (p : Int) : Int := if isC s p = true then p + 3 else p + 1
def byteC (s : ByteArray) (p : Int) : Int := if isC s p = true then sayC s p else bt s p
theorem bt_cut (s : ByteArray) (p i : Int) (h0 : 0 ≤ p) (hi : 0 ≤ i) : bt (s.extract p.toNat s.size) i = bt s (p + i) := by
  unfold bt
  have e : (s.extract p.toNat s.size).size = s.size - p.toNat := by simp
  by_cases h : (p + i).toNat < s.size
  · rw [dif_pos h, dif_pos (by rw [e]; omega)]
    have h2 : p.toNat + i.toNat = (p + i).toNat := by omega
    have h3 : (s.extract p.toNat s.size)[i.toNat]'(by rw [e]; omega) = s[p.toNat + i.toNat]'(by omega) := ByteArray.getElem_extract _
    rw [h3]
    congr 2
    all_goals simp only [h2]
  · rw [dif_neg h, dif_neg (by rw [e]; omega)]
theorem isC_cut (s : ByteArray) (p : Int) (h0 : 0 ≤ p) (h1 : p ≤ s.size) : isC (s.extract p.toNat s.size) 0 = isC s p := by
  have e : ((s.extract p.toNat s.size).size : Int) = s.size - p := by
    have : (s.extract p.toNat s.size).size = s.size - p.toNat := by simp
    omega
  unfold isC
  rw [e, bt_cut s p 0 h0 (by omega), bt_cut s p _ h0 (by omega), bt_cut s p _ h0 (by omega)]
  simp only [Int.add_zero, Int.zero_add]
  congr 3
  exact decide_eq_decide.2 ⟨fun h => by omega, fun h => by omega⟩
theorem sayC_cut (s : ByteArray) (p : Int) (h0 : 0 ≤ p) : sayC (s.extract p.toNat s.size) 0 = sayC s p := by
  unfold sayC
  rw [bt_cut s p _ h0 (by omega), bt_cut s p _ h0 (by omega)]
  rfl
def WalkJ (s : ByteArray) (g : Value) (I : Int → World → Prop) (a : Act) (w : World) : Prop :=
  ∃ (p : Int), 0 ≤ p ∧ p ≤ s.size ∧ I p w ∧ a.defers = [] ∧ ∃ (u5 u6 u7 u8 u9 u10 u11 u12 u13 u14 u15 u16 u17 u18 u19 u20 u21 u22 u23 u24 u25 u26 u27 u28 u29 u30 u31 u32 : Value), a.tmps = #[.string s, g, undef, undef, .int .i64 p, u5, u6, u7, u8, u9, u10, u11, u12, u13, u14, u15, u16, u17, u18, u19, u20, u21, u22, u23, u24, u25, u26, u27, u28, u29, u30, u31, u32]
theorem wp_scope_jumps2 {P : Program} {a : Act} {w : World} {Q : Exit → Act → World → Prop} {c X : Code} (l : Nat) (J : Act → World → Prop) (μ : Act → World → Nat) (hf : findLabel c l = some (Code.skip.seq X))
    (pass : ∀ a w, J a w → X.wp P (Exit.jump l (fun a' w' => J a' w' ∧ μ a' w' < μ a w) Q) a w)
    (first : Hid (∀ a w, J a w → X.wp P (Exit.jump l J Q) a w) → c.wp P (Exit.jump l J Q) a w) : (Code.scope c).wp P Q a w :=
  wp_scope_jumps l J μ hf (first (Lib.hid fun a w h => wp_mono (pass a w h) fun e a w q => by
    cases e <;> first | exact q | exact ⟨q.1, q.2.1⟩)) (fun a w h => wp_seq (wp_skip (pass a w h)))
theorem walk_any (F : Nat) (caps : Array Value) (eg : ∀ args w, (callFunc F args).run Tryd.prog w = .ok (.enter F args) w) (s : ByteArray) (hs : s.size ≤ 140737488351232) (I : Int → World → Prop)
    (keep : ∀ p w w', I p w → Below w.heap.size w w' → I p w')
    (step : ∀ (p : Int) w, 0 ≤ p → p < s.size → I p w → Calls Tryd.prog F (#[.int .i64 p, .int .u8 (byteC s p), .bool (isC s p)] ++ caps) w fun e w' => e = .returned (.tuple #[]) ∧ I (nxtC s p) w')
    (w : World) (h0 : I 0 w) : Calls Tryd.prog 43 #[.string s, .func (.func F) #[] caps] w fun e w' => e = .returned (.tuple #[]) ∧ I s.size w' := by
  go_enter Tryd.func43, Tryd.ntmps43
  go_wp2
  refine wp_scope_jumps2 0 (WalkJ s (.func (.func F) #[] caps) I) (fun a' _ => s.size - (intOf (a'.tmps.getD 4 undef)).toNat) rfl ?_ ?_
  · rintro ⟨tmps, defers⟩ w' ⟨p, hp0, hp1, hI, hdf, u5, u6, u7, u8, u9, u10, u11, u12, u13, u14, u15, u16, u17, u18, u19, u20, u21, u22, u23, u24, u25, u26, u27, u28, u29, u30, u31, u32, htm⟩
    simp only at hdf htm
    subst hdf htm
    clear h0
    by_cases hlt : p < s.size
    · have hsz : (s.extract p.toNat s.size).size ≤ 140737488351232 := by
        have : (s.extract p.toNat s.size).size = s.size - p.toNat := by simp
        omega
      have hC := coded_any (s.extract p.toNat s.size) w' hsz
      cases hc : isC s p
      · have hC1 : Calls Tryd.prog 75 #[.string (s.extract p.toNat s.size)] w' fun e w1 => ∃ v : Int, e = .returned (.tuple #[.int .u8 v, .bool false]) ∧ Below w'.heap.size w' w1 := hC.mono fun e w1 ⟨v, h1, h2, h3⟩ => ⟨v, by rw [isC_cut s p hp0 hp1, hc] at h2; exact h2, h3⟩
        have HC := Lib.hid hC1
        have hst := fun w1 hb => step p w1 hp0 hlt (keep p w' w1 hI hb)
        unfold byteC nxtC at hst
        rw [hc, if_neg (by simp), if_neg (by simp)] at hst
        have Hst := Lib.hid hst
        clear hC hC1 hst hI keep step
        have hbt := bt_at s p
        go_wp2_with (go_at_call 75; refine (HC.out).mono ?_; rintro e w1 ⟨v, rfl, hb⟩)
        refine (Hst.out _ hb).mono ?_
        rintro e w2 ⟨rfl, hI2⟩
        have HI2 := Lib.hid hI2
        clear hI2
        go_wp2
        go_step3
        exact ⟨rfl, ⟨_, by omega, by omega, HI2.out, rfl, _, _, _, _, _, _, _, _, _, _, _, _, _, _, _, _, _, _, _, _, _, _, _, _, _, _, _, _, rfl⟩, by simp [intOf]; omega⟩
      · have hp3 : p + 3 ≤ s.size := by
          unfold isC at hc
          simp only [Bool.and_eq_true, decide_eq_true_eq] at hc
          omega
        have hC1 : Calls Tryd.prog 75 #[.string (s.extract p.toNat s.size)] w' fun e w1 => e = .returned (.tuple #[.int .u8 (sayC s p), .bool true]) ∧ Below w'.heap.size w' w1 := hC.mono fun e w1 ⟨v, h1, h2, h3⟩ => ⟨by rw [isC_cut s p hp0 hp1, hc] at h1 h2; rw [h1 rfl, sayC_cut s p hp0] at h2; exact h2, h3⟩
        have HC := Lib.hid hC1
        have hst := fun w1 hb => step p w1 hp0 hlt (keep p w' w1 hI hb)
        unfold byteC nxtC at hst
        rw [hc, if_pos rfl, if_pos rfl] at hst
        have Hst := Lib.hid hst
        clear hC hC1 hst hI keep step
        have hbt := bt_at s p
        go_wp2_with (go_at_call 75; refine (HC.out).mono ?_; rintro e w1 ⟨rfl, hb⟩)
        refine (Hst.out _ hb).mono ?_
        rintro e w2 ⟨rfl, hI2⟩
        have HI2 := Lib.hid hI2
        clear hI2
        go_wp2
        go_step3
        exact ⟨rfl, ⟨_, by omega, by omega, HI2.out, rfl, _, _, _, _, _, _, _, _, _, _, _, _, _, _, _, _, _, _, _, _, _, _, _, _, _, _, _, _, rfl⟩, by simp [intOf]; omega⟩
    · obtain rfl : p = s.size := by omega
      go_wp2
      simp only [Exit.jump]
      have HI := Lib.hid hI
      exact bodyPost_ret (v := .tuple #[]) (by simp [results, Tryd.results43, go_sem]) rfl ⟨rfl, HI.out⟩
  · intro HB
    go_wp2
    go_step3
    rename_i K hK
    refine hK _ _ (HB.out _ _ ?_)
    exact ⟨0, by omega, by omega, h0, rfl, _, _, _, _, _, _, _, _, _, _, _, _, _, _, _, _, _, _, _, _, _, _, _, _, _, _, _, _, rfl⟩
end Go.Proofs.YtfbgmlophkbejaaDoor.Z

set_option linter.unusedVariables false
set_option linter.unusedSimpArgs false
namespace Go.Proofs.YtfbgmlophkbejaaDoor.Z
open Go.RowKit Go.Proofs.YtfbgmlophkbejaaDoorW.PrintWords Go.Proofs.YtfbgmlophkbejaaDoorW.PrintLast
theorem nxtC_gt (s : ByteArray) (p : Int) : p < nxtC s p := by unfold nxtC; split <;> omega
theorem isC_room {s : ByteArray} {p : Int} (h : isC s p = true) : p + 2 < s.size := by
  unfold isC at h
  simp only [Bool.and_eq_true, decide_eq_true_eq] at h
  exact h.1.1.1
theorem nxtC_le (s : ByteArray) (p : Int) (h : p < s.size) : nxtC s p ≤ s.size := by
  unfold nxtC
  split
  · have := isC_room ‹_›; omega
  · omega
/-- the places where the items of a text begin, from p on -/
def itemsF (s : ByteArray) (p : Int) : List Int := if h : p < s.size then p :: itemsF s (nxtC s p) else []
termination_by (s.size - p).toNat
decreasing_by have := nxtC_gt s p; omega
theorem itemsF_go {s : ByteArray} {p : Int} (h : p < s.size) : itemsF s p = p :: itemsF s (nxtC s p) := by rw [itemsF, dif_pos h]
theorem itemsF_end (s : ByteArray) : itemsF s s.size = [] := by rw [itemsF, dif_neg (by omega)]
theorem itemsF_len (s : ByteArray) (n : Nat) : ∀ p : Int, 0 ≤ p → p ≤ s.size → (s.size - p).toNat = n → ((itemsF s p).length : Int) ≤ s.size - p := by
  induction n using Nat.strongRecOn with
  | _ n ih =>
    intro p h0 h1 hn
    by_cases h : p < s.size
    · have hg := nxtC_gt s p
      have hl := nxtC_le s p h
      have := ih _ (by omega) (nxtC s p) (by omega) hl rfl
      rw [itemsF_go h, List.length_cons]
      omega
    · obtain rfl : p = s.size := by omega
      rw [itemsF_end]
      simp
/-- what a text says, decoded -/
def decL (s : ByteArray) : List Int := (itemsF s 0).map (byteC s)
def decS (s : ByteArray) : ByteArray := strOfNums (decL s)
/-- how many coded bytes there are from p on -/
def cntF (s : ByteArray) (p : Int) : Nat := ((itemsF s p).filter fun p => isC s p).length
/-- a stray sign stands at p -/
def isS (s : ByteArray) (p : Int) : Bool := !isC s p && (bt s p == 37)
def strF (s : ByteArray) (p : Int) : List Int := (itemsF s p).filter (isS s)
theorem cntF_end (s : ByteArray) : cntF s s.size = 0 := by unfold cntF; rw [itemsF_end]; rfl
theorem strF_end (s : ByteArray) : strF s s.size = [] := by unfold strF; rw [itemsF_end]; rfl
theorem cntF_go {s : ByteArray} {p : Int} (h : p < s.size) : cntF s p = (if isC s p = true then 1 else 0) + cntF s (nxtC s p) := by
  unfold cntF; rw [itemsF_go h, List.filter_cons]; split <;> simp <;> omega
theorem strF_go {s : ByteArray} {p : Int} (h : p < s.size) : strF s p = if isS s p = true then p :: strF s (nxtC s p) else strF s (nxtC s p) := by
  unfold strF; rw [itemsF_go h, List.filter_cons]
theorem cntF_le (s : ByteArray) (p : Int) (h0 : 0 ≤ p) (h1 : p ≤ s.size) : (cntF s p : Int) ≤ s.size - p := by
  have := itemsF_len s _ p h0 h1 rfl
  have := List.length_filter_le (fun p => isC s p) (itemsF s p)
  unfold cntF
  omega
theorem strF_le (s : ByteArray) (p : Int) (h0 : 0 ≤ p) (h1 : p ≤ s.size) : ((strF s p).length : Int) ≤ s.size - p := by
  have := itemsF_len s _ p h0 h1 rfl
  have := List.length_filter_le (isS s) (itemsF s p)
  unfold strF
  omega
/-- the cell g holds a slice of the call's own that reads xs -/
def CellRow (w : World) (g : Nat) (t e : TypeId) (k : IntKind) (xs : List Int) : Prop := ∃ v, Blk w g t #[v] ∧ w.ownsRow (g + 1) e 1 v xs.length (nums k xs)
theorem CellRow.after {w w' : World} {g : Nat} {t e : TypeId} {k : IntKind} {xs : List Int} (h : CellRow w g t e k xs) (hb : Below w.heap.size w w') : CellRow w' g t e k xs := by
  obtain ⟨v, h1, h2⟩ := h
  exact ⟨v, h1.after hb, pw_own_below h2 hb⟩
theorem CellRow.put {w : World} {g : Nat} {t e : TypeId} {k : IntKind} {xs : List Int} {v v1 : Value} (h : Blk w g t #[v]) (ho : w.ownsRow (g + 1) e 1 v1 xs.length (nums k xs)) : CellRow (w.setCell ⟨g, 0, none⟩ v1) g t e k xs :=
  ⟨v1, h.set_ 0 v1, own_setCell ho (fun he => by have := own_base ho g he.symm; omega) v1⟩
theorem info_int : (Tryd.prog.info? 3).map (fun i => (i.zero, i.size, i.bytes)) = some (some (.int .i64 0), 1, 8) := by kernel_rfl
theorem dec1_any (p b : Int) (c : Bool) (g : Nat) (w : World) (xs : List Int) (h : CellRow w g 70 5 .u8 xs) (hl : xs.length + 1 ≤ 140737488355328) :
    Calls Tryd.prog 50 #[.int .i64 p, .int .u8 b, .bool c, .pointer (some ⟨g, 0, none⟩)] w fun e w' => e = .returned (.tuple #[]) ∧ CellRow w' g 70 5 .u8 (xs ++ [b]) ∧ Below g w w' := by
  obtain ⟨v, hb, ho⟩ := h
  have hlt := hb.lt
  have c0 : w.cell? ⟨g, 0, none⟩ = some v := hb.cell 0
  go_enter Tryd.func50, Tryd.ntmps50
  go_wp2_with (at_builtin; refine print_append_num (w0 := w) (W := w) (g + 1) rfl (.tmp 7) (.tmp 9) 70 5 .u8 1 rfl Tryd.underlying70 info_u8 (by decide) _ xs _ rfl rfl ho (Below.refl _ _) (by omega) (by omega) ?_; intro v1 w1 ho1 hb1 hg1 hat1; rw [List.length_append] at ho1; obtain ⟨ao1, cp1, rfl⟩ := own_slice ho1; have hb2 := hb.below hb1 (by omega); have c1 : w1.cell? ⟨g, 0, none⟩ = some v := hb2.cell 0; have c2 := hb2.frozen 0)
  go_end0
  exact ⟨rfl, CellRow.put hb2 (by rw [List.length_append]; exact ho1), Below.setCell (p := ⟨g, 0, none⟩) (hb1.mono (Nat.le_succ g)) (Nat.le_refl g) _⟩
def cntUp (c : Bool) (n : Nat) : Nat := (if c = true then 1 else 0) + n
theorem enter_fn {P : Program} {F : FuncId} {fn : Func} (hf : P.funcs[F]? = some fn) (h1 : (fn.name == "runtime.NumGoroutine") = false) (h2 : fn.body.isNone = false) (args : Array Value) (w : World) : (callFunc F args).run P w = .ok (.enter F args) w := by
  have h1' : ¬ fn.name = "runtime.NumGoroutine" := by simpa using h1
  have h2' : ¬ fn.body = Option.none := fun e => by rw [e] at h2; cases h2
  unfold callFunc
  simp [go_sem, hf, h1', h2']
set_option maxHeartbeats 1000000 in
theorem decode_any (s : ByteArray) (w : World) (hs : s.size ≤ 140737488351232) : Calls Tryd.prog 15 #[.string s] w fun e w' => e = .returned (.string (decS s)) ∧ Below w.heap.size w w' := by
  have hw := walk_any 50 #[.pointer (some ⟨w.heap.size, 0, none⟩)] (enter_fn Tryd.func50 (by kernel_rfl) (by kernel_rfl)) s hs
    (fun p wr => 0 ≤ p ∧ p ≤ s.size ∧ Below w.heap.size w wr ∧ ∃ xs, xs ++ (itemsF s p).map (byteC s) = decL s ∧ CellRow wr w.heap.size 70 5 .u8 xs)
    (fun p w1 w2 ⟨h0, h1, h2, xs, h3, h4⟩ hb => ⟨h0, h1, below_after h2 hb, xs, h3, h4.after hb⟩)
    (fun p w1 h0 hlt ⟨_, h1, h2, xs, h3, h4⟩ => (dec1_any p (byteC s p) (isC s p) w.heap.size w1 xs h4 (by
        have := itemsF_len s _ 0 (by omega) (by omega) rfl
        have e := congrArg List.length h3
        simp only [List.length_append, List.length_map, decL] at e
        omega)).mono fun e w2 ⟨g1, g2, g3⟩ =>
      ⟨g1, by have := nxtC_gt s p; omega, nxtC_le s p hlt, h2.trans g3, _, by rw [List.append_assoc, ← h3, itemsF_go hlt]; rfl, g2⟩)
  go_enter Tryd.func15, Tryd.ntmps15
  go_wp2_with fail
  refine (hw _ ⟨by omega, by omega, below_one _ _, [], rfl, _, Blk.new _ _ _, own_nil _ _ _ _⟩).mono ?_
  rintro e w1 ⟨rfl, _, _, hb, xs, hx, v, hbl, ho⟩
  rw [itemsF_end, List.map_nil, List.append_nil] at hx
  subst hx
  have c0 : w1.cell? ⟨w.heap.size, 0, none⟩ = some v := hbl.cell 0
  have ht := own_string (P := Tryd.prog) Tryd.underlying70 Tryd.underlying5 Tryd.underlying9 ho
  clear hw
  go_wp2
  go_ret
  exact ⟨rfl, hb⟩
/-- an answer that is a slice of the call's own -/
def RowSuch (e : TypeId) (k : IntKind) (xs : List Int) (w : World) (en : Ending) (w' : World) : Prop := ∃ v, en = .returned v ∧ w'.ownsRow w.heap.size e 1 v xs.length (nums k xs) ∧ Below w.heap.size w w'
end Go.Proofs.YtfbgmlophkbejaaDoor.Z

set_option linter.unusedVariables false
set_option linter.unusedSimpArgs false
namespace Go.Proofs.YtfbgmlophkbejaaDoor.Z
open Go.RowKit Go.Proofs.YtfbgmlophkbejaaDoorW.PrintWords Go.Proofs.YtfbgmlophkbejaaDoorW.PrintLast
/-- what the document's Decode tells -/
def RDecSuch (s : ByteArray) (w : World) (en : Ending) (w' : World) : Prop := ∃ v, en = .returned (.tuple #[.string (decS s), .int .i64 ((cntF s 0 : Nat) : Int), v]) ∧ w'.ownsRow w.heap.size 3 1 v (strF s 0).length (nums .i64 (strF s 0)) ∧ Below w.heap.size w w'
/-- its state ahead of the item at p -/
def RDecAt (s : ByteArray) (w : World) (p : Int) (xs zs : List Int) (c : Nat) : Prop :=
  xs ++ (itemsF s p).map (byteC s) = decL s ∧ zs ++ strF s p = strF s 0 ∧ c + cntF s p = cntF s 0
theorem RDecAt.bounds {s : ByteArray} {w : World} {p : Int} {xs zs : List Int} {c : Nat} (h : RDecAt s w p xs zs c) (hp : p < s.size) (h0 : 0 ≤ p) : xs.length + 1 ≤ s.size ∧ zs.length ≤ s.size ∧ c ≤ s.size ∧ (isC s p = true → c + 1 ≤ s.size) ∧ (isS s p = true → zs.length + 1 ≤ s.size) := by
  obtain ⟨h1, h2, h3⟩ := h
  have a1 := itemsF_len s _ 0 (by omega) (by omega) rfl
  have a2 := strF_le s 0 (by omega) (by omega)
  have a3 := cntF_le s 0 (by omega) (by omega)
  have e1 := congrArg List.length h1
  have e2 := congrArg List.length h2
  rw [itemsF_go hp] at e1
  simp only [List.length_append, List.length_map, decL, List.length_cons] at e1 e2
  refine ⟨by omega, by omega, by omega, fun hc => ?_, fun hc => ?_⟩
  · rw [cntF_go hp, if_pos hc] at h3; omega
  · rw [strF_go hp, if_pos hc, List.length_cons] at e2; omega
theorem RDecAt.coded {s : ByteArray} {w : World} {p : Int} {xs zs : List Int} {c : Nat} (h : RDecAt s w p xs zs c) (hp : p < s.size) (hc : isC s p = true) : RDecAt s w (p + 3) (xs ++ [sayC s p]) zs (c + 1) := by
  obtain ⟨h1, h2, h3⟩ := h
  have hn : nxtC s p = p + 3 := by unfold nxtC; rw [if_pos hc]
  rw [itemsF_go hp, hn] at h1
  rw [strF_go hp, hn, if_neg (by unfold isS; rw [hc]; simp)] at h2
  rw [cntF_go hp, hn, if_pos hc] at h3
  refine ⟨?_, h2, by omega⟩
  rw [List.append_assoc, ← h1, List.map_cons]
  unfold byteC
  rw [if_pos hc]
  rfl
theorem RDecAt.plain {s : ByteArray} {w : World} {p : Int} {xs zs : List Int} {c : Nat} (h : RDecAt s w p xs zs c) (hp : p < s.size) (hc : isC s p = false) : RDecAt s w (p + 1) (xs ++ [bt s p]) (zs ++ if (bt s p == 37) = true then [p] else []) c := by
  obtain ⟨h1, h2, h3⟩ := h
  have hn : nxtC s p = p + 1 := by unfold nxtC; rw [if_neg (by rw [hc]; simp)]
  rw [itemsF_go hp, hn] at h1
  rw [strF_go hp, hn] at h2
  rw [cntF_go hp, hn, if_neg (by rw [hc]; simp)] at h3
  refine ⟨?_, ?_, by omega⟩
  · rw [List.append_assoc, ← h1, List.map_cons]
    unfold byteC
    rw [if_neg (by rw [hc]; simp)]
    rfl
  · rw [List.append_assoc, ← h2]
    congr 1
    unfold isS
    rw [hc]
    simp only [Bool.not_false, Bool.true_and]
    split <;> rfl
theorem two_lits (w : World) : ((w.alloc (.cells #[] 5)).alloc (.cells #[] 3)).ownsRow w.heap.size 3 1 (.slice (some ⟨w.heap.size + 1, 0, none⟩) 0 0) 0 (nums .i64 []) := by
  have h := own_lit (w.alloc (.cells #[] 5)) w.heap.size 3 .i64 [] (by simp) (by simp)
  simpa [nums] using h
set_option maxHeartbeats 2000000 in
theorem rdecode_any (s : ByteArray) (w : World) (hs : s.size * 8 ≤ 140737488351232) : Calls Tryd.prog 42 #[.string s] w (RDecSuch s w) := by
  go_enter Tryd.func42, Tryd.ntmps42
  go_wp2
  go_loopw [5, 6, 7, 8] (fun u n v i wr => ∃ (p : Int) (xs zs : List Int) (c : Nat), i = .int .i64 p ∧ 0 ≤ p ∧ p ≤ s.size ∧ n = .int .i64 (c : Int) ∧ Hid (RDecAt s w p xs zs c) ∧ wr.ownsRow w.heap.size 5 1 u xs.length (nums .u8 xs) ∧ wr.ownsRow w.heap.size 3 1 v zs.length (nums .i64 zs) ∧ Below w.heap.size w wr)
    (fun _ _ _ i _ => s.size - (intOf i).toNat)
  case atStart => exact ⟨0, [], [], 0, rfl, by omega, by omega, rfl, Lib.hid ⟨rfl, rfl, by omega⟩, (own_lit w w.heap.size 5 .u8 [] (Nat.le_refl _) (by simp)).alloc _, two_lits w, below_alloc (below_one _ _) _⟩
  case round =>
    obtain ⟨p, xs, zs, c, rfl, hp0, hp1, rfl, hR, hox, hoz, hbel⟩ := hrel
    by_cases hlt : p < s.size
    · obtain ⟨q1, q2, q3, q4, q5⟩ := hR.out.bounds hlt hp0
      have hbt := bt_at s p
      have hcall := fun W => (rcoded_any s p W (by omega) hp0 hlt).mono fun e w' h => (⟨h.1, h.2.symm⟩ : e = .returned (.bool (isC s p)) ∧ W = w')
      cases hc : isC s p
      · rw [hc] at hcall
        have Hcall := Lib.hid hcall
        have hR2 := hR.out.plain hlt hc
        have q7 : (bt s p == 37) = true → zs.length + 1 ≤ s.size := fun h => q5 (by unfold isS; rw [hc, h]; rfl)
        clear hcall hR q4 q5
        cases h37 : (bt s p == 37)
        · rw [h37, if_neg (by simp), List.append_nil] at hR2
          have HR2 := Lib.hid hR2
          clear hR2 hc
          go_wp2_with (first
            | (go_at_call 73; with_reducible refine (Hcall.out _).mono ?_; rintro e w' ⟨rfl, rfl⟩)
            | (at_builtin; refine print_append_num (w0 := w) (W := wr) w.heap.size rfl (.tmp 38) (.tmp 42) 70 5 .u8 1 rfl Tryd.underlying70 info_u8 (by decide) _ xs _ rfl rfl hox hbel hbel.size (by omega) ?_; intro v1 w1 ho1 hb1 hg1 hat1; have hoz1 := own_other hoz hg1 (own_type_ne hoz hox (by decide))))
          exact ⟨⟨p + 1, _, _, c, rfl, by omega, by omega, rfl, HR2, ho1, hoz1, hb1⟩, by simp [intOf]; omega⟩
        · rw [h37, if_pos rfl] at hR2
          have q6 := q7 h37
          have HR2 := Lib.hid hR2
          clear hR2 hc
          go_wp2_with (first
            | (go_at_call 73; with_reducible refine (Hcall.out _).mono ?_; rintro e w' ⟨rfl, rfl⟩)
            | (at_builtin; refine print_append_num (w0 := w) (W := wr) w.heap.size rfl (.tmp 34) (.tmp 36) 71 3 .i64 8 rfl Tryd.underlying71 info_int (by decide) _ zs _ rfl rfl hoz hbel hbel.size (by omega) ?_; intro v1 w1 ho1 hb1 hg1 hat1; have hox1 := own_other hox hg1 (own_type_ne hox hoz (by decide)))
            | (at_builtin; refine print_append_num (w0 := w) (W := w1) w.heap.size rfl (.tmp 38) (.tmp 42) 70 5 .u8 1 rfl Tryd.underlying70 info_u8 (by decide) _ xs _ rfl rfl hox1 hb1 hb1.size (by omega) ?_; intro v2 w2 ho2 hb2 hg2 hat2; have hoz2 := own_other ho1 hg2 (own_type_ne ho1 hox1 (by decide))))
          exact ⟨⟨p + 1, _, _, c, rfl, by omega, by omega, rfl, HR2, ho2, hoz2, hb2⟩, by simp [intOf]; omega⟩
      · rw [hc] at hcall
        have Hcall := Lib.hid hcall
        have HR2 := Lib.hid (hR.out.coded hlt hc)
        have hroom := isC_room hc
        have q6 := q4 hc
        have hsay := fun W => rsays_any s p W (by omega) hp0 hc
        have Hsay := Lib.hid hsay
        clear hcall hR q4 q5 hsay hc
        go_wp2_with (first
          | (go_at_call 73; with_reducible refine (Hcall.out _).mono ?_; rintro e w' ⟨rfl, rfl⟩)
          | (go_at_call 74; with_reducible refine (Hsay.out _).mono ?_; rintro e w1 ⟨rfl, hb1⟩; have hox1 := pw_own_below hox hb1; have hoz1 := pw_own_below hoz hb1; have hbel1 := below_after hbel hb1)
          | (at_builtin; refine print_append_num (w0 := w) (W := w1) w.heap.size rfl (.tmp 20) (.tmp 24) 70 5 .u8 1 rfl Tryd.underlying70 info_u8 (by decide) _ xs _ rfl rfl hox1 hbel1 hbel1.size (by omega) ?_; intro v2 w2 ho2 hb2 hg2 hat2; have hoz2 := own_other hoz1 hg2 (own_type_ne hoz1 hox1 (by decide))))
        exact ⟨⟨p + 3, _, _, c + 1, by go_num, by omega, by omega, by go_num, HR2, ho2, hoz2, hb2⟩, by simp [intOf]; omega⟩
    · obtain rfl : p = s.size := by omega
      obtain ⟨h1, h2, h3⟩ := hR.out
      rw [itemsF_end, List.map_nil, List.append_nil] at h1
      rw [strF_end, List.append_nil] at h2
      rw [cntF_end] at h3
      subst h1 h2
      obtain rfl : c = cntF s 0 := by omega
      have ht := own_string (P := Tryd.prog) Tryd.underlying70 Tryd.underlying5 Tryd.underlying9 hox
      clear h3
      go_wp2
      go_ret3
      exact ⟨_, rfl, hoz, hbel⟩
end Go.Proofs.YtfbgmlophkbejaaDoor.Z

set_option linter.unusedVariables false
set_option linter.unusedSimpArgs false
namespace Go.Proofs.YtfbgmlophkbejaaDoor.Z
open Go.RowKit Go.Proofs.YtfbgmlophkbejaaDoorW.PrintWords Go.Proofs.YtfbgmlophkbejaaDoorW.PrintLast
theorem dec_41 : decS ⟨#[37, 52, 49]⟩ = ⟨#[65]⟩ := by
  have hc : isC ⟨#[37, 52, 49]⟩ 0 = true := by decide +kernel
  have hn : nxtC ⟨#[37, 52, 49]⟩ 0 = ((ByteArray.mk #[37, 52, 49]).size : Nat) := by unfold nxtC; rw [hc]; rfl
  have hb : byteC ⟨#[37, 52, 49]⟩ 0 = 65 := by unfold byteC; rw [hc]; decide +kernel
  unfold decS decL
  rw [itemsF_go (by decide), hn, itemsF_end, List.map_cons, hb]
  rfl
theorem awake_any (w : World) : Calls Tryd.prog 9 #[] w fun e w' => e = .returned (.bool true) ∧ Below w.heap.size w w' := by
  have h := decode_any ⟨#[37, 52, 49]⟩ w (by decide)
  rw [dec_41] at h
  go_enter Tryd.func9, Tryd.ntmps9
  go_wp2_with (go_at_call 15; (with_reducible refine h.mono ?_); rintro e w1 ⟨rfl, hb⟩)
  go_ret
  exact ⟨rfl, hb⟩
end Go.Proofs.YtfbgmlophkbejaaDoor.Z

set_option linter.unusedVariables false
set_option linter.unusedSimpArgs false
namespace Go.Proofs.YtfbgmlophkbejaaDoor.Z
open Go.RowKit Go.Proofs.YtfbgmlophkbejaaDoorW.PrintWords Go.Proofs.YtfbgmlophkbejaaDoorW.PrintLast
def lowb (b : Int) : Int := if 65 ≤ b ∧ b ≤ 90 then b + 32 else b
def uppb (b : Int) : Int := if 97 ≤ b ∧ b ≤ 122 then b - 32 else b
def uppS (s : ByteArray) : ByteArray := strOfNums ((bytesOf s).map uppb)
theorem rd_map (f : Int → Int) (l : List Int) (i : Int) (h0 : 0 ≤ i) (h1 : i < l.length) : rd (l.map f) i = f (rd l i) := by
  have h : i.toNat < l.length := by omega
  simp [rd, List.getD_eq_getElem?_getD, List.getElem?_eq_getElem h]

theorem cls_and_Upper (b : Int) (h0 : 0 ≤ b) (h1 : b ≤ 255) : (bits BinOp.and IntKind.i64 (cls b) 4 != 0) = decide (97 ≤ b ∧ b ≤ 122) := by
  rcases byte_ranges b h0 h1 with h | h | h | h | h | h | h | h | h | h | h | h | h
  all_goals
    obtain ⟨g0, g1⟩ := h
    unfold cls
    repeat (first | rw [if_pos (by omega)] | rw [if_neg (by omega)])
    first
      | (rw [decide_eq_true (by omega)]; decide)
      | (rw [decide_eq_false (by omega)]; decide)
theorem Upper1_any (b : Int) (w : World) (h0 : 0 ≤ b) (h1 : b ≤ 255) (hr : 97 ≤ b ∧ b ≤ 122) : Calls Tryd.prog 118 #[.int .u8 b] w fun e w' => e = .returned (.int .u8 (uppb b)) ∧ w = w' := by
  obtain ⟨r0, r1⟩ := hr
  go_enter Tryd.func118, Tryd.ntmps118
  go_wp2
  go_ret
  refine ⟨ret_int ?_, rfl⟩
  unfold uppb
  rw [if_pos ⟨r0, r1⟩]
  all_goals omega
set_option maxHeartbeats 2000000 in
theorem eachUpper_any (s : ByteArray) (w : World) (hs : s.size ≤ 140737488351232) :
    Calls Tryd.prog 117 #[.string s, .int .i64 4, .func (.func 118) #[] #[]] w fun e w' => e = .returned (.string (uppS s)) ∧ Below w.heap.size w w' := by
  have kb := fun W => print_bytes (P := Tryd.prog) 9 70 5 Tryd.underlying9 Tryd.underlying70 Tryd.underlying5 s W
  go_enter Tryd.func117, Tryd.ntmps117
  go_wp2
  have hb0 : Byt (Lib.bytesWorld w 5 s) w.heap.size (bytesOf s) := Byt.new w 5 s
  have hl0 := bytesOf_length s
  have hbel0 : Below w.heap.size w (Lib.bytesWorld w 5 s) := bytes_below (Below.refl _ _) (Nat.le_refl _) _ _
  clear kb
  generalize Lib.bytesWorld w 5 s = w1 at *
  go_loopw [14] (fun v wr => ∃ (k : Int) (xs : List Int), v = .int .i64 k ∧ 0 ≤ k ∧ k ≤ s.size ∧ xs.length = s.size ∧ Hid (∀ i, 0 ≤ i → i < k → rd xs i = uppb (bt s i)) ∧ Hid (∀ i, k ≤ i → i < s.size → rd xs i = bt s i) ∧ Below w.heap.size w wr ∧ Byt wr w.heap.size xs) (fun v _ => s.size - (intOf v).toNat)
  case atStart => exact ⟨0, bytesOf s, rfl, by omega, by omega, hl0, fun i h0 h1 => by omega, fun i h0 h1 => rd_bytesOf s i, hbel0, hb0⟩
  case round =>
    obtain ⟨k, xs, rfl, hk0, hk1, hl, hd, hr, hbel, hb⟩ := hrel
    by_cases hlt : k < s.size
    · have c0 := hb.cell k hk0 (by omega)
      have c1 := hb.frozen k hk0 (by omega)
      rw [hr.out k (by omega) hlt] at c0
      have hbr := bt_range s k
      have hcl := cls_and_Upper (bt s k) hbr.1 hbr.2
      by_cases hq : 97 ≤ bt s k ∧ bt s k ≤ 122
      · rw [decide_eq_true hq] at hcl
        go_wp2_with (first
          | (go_at_call 115; refine (class_any _ _ hbr.1 hbr.2).mono ?_; rintro e w' ⟨rfl, rfl⟩)
          | (go_at_call 118; refine (Upper1_any _ _ hbr.1 hbr.2 hq).mono ?_; rintro e w' ⟨rfl, rfl⟩))
        refine ⟨⟨k + 1, xs.set k.toNat _, rfl, by omega, by omega, by rw [List.length_set, hl], fun i h0 h1 => ?_, fun i h0 h1 => ?_, below_set hbel (Nat.le_refl _) _, hb.set_ k hk0 (by omega) _⟩, by simp [intOf]; omega⟩
        · rw [rd_set xs k i _ hk0 (by omega) h0]
          by_cases h : i = k
          · rw [if_pos h, h]
          · rw [if_neg h]; exact hd.out i h0 (by omega)
        · rw [rd_set xs k i _ hk0 (by omega) (by omega), if_neg (by omega)]
          exact hr.out i (by omega) h1
      · rw [decide_eq_false hq] at hcl
        go_wp2_with (first
          | (go_at_call 115; refine (class_any _ _ hbr.1 hbr.2).mono ?_; rintro e w' ⟨rfl, rfl⟩))
        refine ⟨⟨k + 1, xs, rfl, by omega, by omega, hl, fun i h0 h1 => ?_, fun i h0 h1 => hr.out i (by omega) h1, hbel, hb⟩, by simp [intOf]; omega⟩
        by_cases h : i = k
        · rw [h, hr.out k (by omega) hlt]
          unfold uppb
          rw [if_neg hq]
        · exact hd.out i h0 (by omega)
    · obtain rfl : k = s.size := by omega
      have ht := fun cap => hb.text (P := Tryd.prog) Tryd.underlying70 Tryd.underlying5 Tryd.underlying9 cap
      rw [hl] at ht
      have hx : xs = (bytesOf s).map uppb := ext_rd (by rw [List.length_map, hl, hl0]) fun i h0 h1 => by
        rw [rd_map _ _ _ h0 (by omega), rd_bytesOf]; exact hd.out i h0 (by omega)
      go_wp2
      go_ret
      exact ⟨rfl, hbel⟩
theorem Upper_any (s : ByteArray) (w : World) (hs : s.size ≤ 140737488351232) : Calls Tryd.prog 99 #[.string s] w fun e w' => e = .returned (.string (uppS s)) ∧ Below w.heap.size w w' := by
  go_enter Tryd.func99, Tryd.ntmps99
  go_wp2_with (go_at_call 117; refine (eachUpper_any s _ hs).mono ?_; rintro e w' ⟨rfl, hb⟩)
  go_ret
  exact ⟨rfl, hb⟩
theorem info_u8h : (Tryd.prog.info? 5).map (fun i => (i.size, i.zero)) = some (1, some (.int .u8 0)) := by kernel_rfl
theorem fillh2 (x y : Int) : Instr.fill (fun i => some (i * 1, 1)) ((Array.range (2 * 1)).map ((Value.int .u8 0).cells[· % (Value.int .u8 0).cells.size]!)) [(0, .int .u8 x), (1, .int .u8 y)] = some (#[.int .u8 x, .int .u8 y] : Array Value) := by kernel_rfl
theorem litv2_ {ops : Array Oper} {oi : Oper} {a : Act} {w : World} {K : Act → World → Prop} {Q : Exit → Act → World → Prop} {N : Option Tmp} (hw : Region.wanted oi (yielded ops a.tmps) = true) (hN : oi.dst = N) (u v : Operand) (x y : Int) (ho : oi.op = .buildSlice 70 2 #[(0, u), (1, v)]) (hu : a.eval u = .int .u8 x) (hv : a.eval v = .int .u8 y)
    (h : ∀ (g : Nat) (w1 : World), Blk w1 g 5 (nums .u8 [x, y]).toArray → Below w.heap.size w w1 → K (a.put N (.slice (some ⟨g, 0, none⟩) 2 2)) w1) : if Region.wanted oi (yielded ops a.tmps) = true then Oper.wp Tryd.prog oi a w K Q else K (a.put N undef) w := by
  obtain ⟨ie, h1, h2⟩ := Option.map_eq_some_iff.1 info_u8h
  injection h2 with h3 h4
  refine lits_ hw hN 70 5 2 _ ho _ ie _ Tryd.underlying70 h1 h4 (by rw [h3]; omega) (by rw [h3]; omega) (by
    rw [h3]; simp only [List.map_toArray, List.map_cons, List.map_nil, hu, hv]; exact fillh2 ..) (fun g w1 _ hb hl => h g w1 hb hl)
theorem exec_text2 {P : Program} {o : Oper} {a : Act} {w : World} {src dst e : TypeId} {x : Operand} {A : Option Addr} {c : Nat} {xs : List Int} (ho : o.op = .convert src dst x) (hx : a.eval x = .slice A xs.length c)
    (hs : P.underlying src = some (.slice e)) (he : P.underlying e = some (.int .u8)) (hd : P.underlying dst = some .string) (hR : ReadsInt w .u8 A xs.length xs) : (execOp a.eval o).run P w = .ok (.value (.string (strOfNums xs))) w := by
  have h := string_of_reads (c := c) hs he hd hR
  unfold execOp
  simp only [ho, hx, Sem.run_bind, h, Result.andThen_ok]
  rfl
theorem reads_blk {w : World} {g : Nat} {t : TypeId} {xs : List Int} (hb : Blk w g t (nums .u8 xs).toArray) (hl : xs.length ≤ 9223372036854775807) : ReadsInt w .u8 (some ⟨g, 0, none⟩) xs.length xs := ⟨rfl, hl, fun _ => ⟨_, rfl, fun j hj => by
  rw [add_plain]
  have := blk_num_at hb (j : Int) (by omega) (by omega)
  simpa [rd] using this⟩⟩
def hexS (b : Int) : ByteArray := strOfNums [bt upT (b / 16), bt upT (b % 16)]
theorem and15 (b : Int) (h0 : 0 ≤ b) (h1 : b < 256) : bits BinOp.and IntKind.u8 b 15 = b % 16 := each256 (p := fun b => bits BinOp.and IntKind.u8 b 15) (q := fun b => b % 16) (by kernel_rfl) b h0 h1
theorem upp_hex (b : Int) (h0 : 0 ≤ b) (h1 : b < 256) : uppS (strOfNums [bt lowT (b / 16), bt lowT (b % 16)]) = hexS b := by
  have h := each256 (p := fun b => (uppS (strOfNums [bt lowT (b / 16), bt lowT (b % 16)])).data.toList) (q := fun b => (hexS b).data.toList) (by kernel_rfl) b h0 h1
  exact ByteArray.ext (Array.toList_inj.1 h)
set_option maxRecDepth 100000 in
set_option maxHeartbeats 4000000 in
theorem hex_any (b : Int) (w : World) (h0 : 0 ≤ b) (h1 : b ≤ 255) : Calls Tryd.prog 77 #[.int .u8 b] w fun e w' => e = .returned (.string (hexS b)) ∧ Below w.heap.size w w' := by
  have e15 := and15 b h0 (by omega)
  have k0 : 0 ≤ b / 16 := by omega
  have k1 : b / 16 < 16 := by omega
  have k2 : 0 ≤ b % 16 := by omega
  have k3 : b % 16 < 16 := by omega
  have k4 : b / 16 < 36 := by omega
  have k5 : b % 16 < 36 := by omega
  have l1 : ∀ h : (b / 16).toNat < (ByteArray.mk #[48, 49, 50, 51, 52, 53, 54, 55, 56, 57, 97, 98, 99, 100, 101, 102, 103, 104, 105, 106, 107, 108, 109, 110, 111, 112, 113, 114, 115, 116, 117, 118, 119, 120, 121, 122]).size, ((((ByteArray.mk #[48, 49, 50, 51, 52, 53, 54, 55, 56, 57, 97, 98, 99, 100, 101, 102, 103, 104, 105, 106, 107, 108, 109, 110, 111, 112, 113, 114, 115, 116, 117, 118, 119, 120, 121, 122])[(b / 16).toNat]'h).toNat : Nat) : Int) = bt lowT (b / 16) := bt_at lowT (b / 16)
  have l2 : ∀ h : (b % 16).toNat < (ByteArray.mk #[48, 49, 50, 51, 52, 53, 54, 55, 56, 57, 97, 98, 99, 100, 101, 102, 103, 104, 105, 106, 107, 108, 109, 110, 111, 112, 113, 114, 115, 116, 117, 118, 119, 120, 121, 122]).size, ((((ByteArray.mk #[48, 49, 50, 51, 52, 53, 54, 55, 56, 57, 97, 98, 99, 100, 101, 102, 103, 104, 105, 106, 107, 108, 109, 110, 111, 112, 113, 114, 115, 116, 117, 118, 119, 120, 121, 122])[(b % 16).toNat]'h).toNat : Nat) : Int) = bt lowT (b % 16) := bt_at lowT (b % 16)
  have Hu := Lib.hid (upp_hex b h0 (by omega))
  go_enter Tryd.func77, Tryd.ntmps77
  go_upto_region 1 with (fail)
  refine start_ (n := 10) (S := (fun w' => Below w.heap.size w w')) (ds := []) #[false, false, false, false, false, false, false, false, false, false] (by kernel_rfl) rfl rfl (Below.refl _ _ : Below w.heap.size w w).drew (fun hHeld => ?_)
  refine pure_ (i := 0) (N := some 3) (v := ?_) (a' := ?_) #[true, false, false, false, false, false, false, false, false, false] rfl rfl (by kernel_rfl) (fun _ _ _ h => h) (Or.inl ⟨by rfl, ?_⟩) ?_ ?_
  rotate_left
  · intro w'
    go_simp
    with_reducible rfl
  rotate_left
  · simp only [Act.put, List.setIfInBounds_toArray, List.set_cons_zero, List.set_cons_succ, i64_w, i32_w]
    rfl
  refine pure_ (i := 1) (N := some 4) (v := ?_) (a' := ?_) #[true, true, false, false, false, false, false, false, false, false] rfl rfl (by kernel_rfl) (fun _ _ _ h => h) (Or.inl ⟨by rfl, ?_⟩) ?_ ?_
  rotate_left
  · intro w'
    go_simp
    with_reducible rfl
  rotate_left
  · simp only [Act.put, List.setIfInBounds_toArray, List.set_cons_zero, List.set_cons_succ, i64_w, i32_w]
    rfl
  refine pure_ (i := 3) (N := some 6) (v := ?_) (a' := ?_) #[true, true, false, true, false, false, false, false, false, false] rfl rfl (by kernel_rfl) (fun _ _ _ h => h) (Or.inl ⟨by rfl, ?_⟩) ?_ ?_
  rotate_left
  · intro w'
    go_simp
    with_reducible rfl
  rotate_left
  · simp only [Act.put, List.setIfInBounds_toArray, List.set_cons_zero, List.set_cons_succ, i64_w, i32_w]
    rfl
  refine pure_ (i := 4) (N := some 7) (v := ?_) (a' := ?_) #[true, true, false, true, true, false, false, false, false, false] rfl rfl (by kernel_rfl) (fun _ _ _ h => h) (Or.inl ⟨by rfl, ?_⟩) ?_ ?_
  rotate_left
  · intro w'
    go_simp
    with_reducible rfl
  rotate_left
  · simp only [Act.put, List.setIfInBounds_toArray, List.set_cons_zero, List.set_cons_succ, i64_w, i32_w]
    rfl
  refine take_ (i := 2) (N := some 5) (v := ?_) (a' := ?_) #[true, true, true, true, true, false, false, false, false, false] rfl rfl (by kernel_rfl) (fun _ _ _ h => h) (Or.inl ⟨by rfl, ?_⟩) hHeld ?_ ?_
  rotate_left
  · rintro w' s1
    go_simp
    with_reducible rfl
  rotate_left
  · simp only [Act.put, List.setIfInBounds_toArray, List.set_cons_zero, List.set_cons_succ, i64_w, i32_w]
    rfl
  refine take_ (i := 5) (N := some 8) (v := ?_) (a' := ?_) #[true, true, true, true, true, true, false, false, false, false] rfl rfl (by kernel_rfl) (fun _ _ _ h => h) (Or.inl ⟨by rfl, ?_⟩) hHeld ?_ ?_
  rotate_left
  · rintro w' s1
    go_simp
    with_reducible rfl
  rotate_left
  · simp only [Act.put, List.setIfInBounds_toArray, List.set_cons_zero, List.set_cons_succ, i64_w, i32_w]
    rfl
  refine one_ (i := 6) (N := some 9) #[true, true, true, true, true, true, true, false, false, false] rfl rfl (by kernel_rfl) (by decide) (fun K hK => ?_)
  refine litv2_ (by rfl) rfl _ _ (bt lowT (b / 16)) (bt lowT (b % 16)) rfl rfl rfl ?_
  intro G6 W6 B6 hbc
  refine hK.out _ _ (below_after hHeld hbc) (fun hHeld => ?_)
  clear hK K
  refine norm_ (a' := ?_) ?_ ?_
  rotate_left
  · show Act.put _ (some 9) _ = _
    simp only [Act.put, List.setIfInBounds_toArray, List.set_cons_zero, List.set_cons_succ, i64_w, i32_w]
    rfl
  refine one_ (i := 7) (N := some 10) #[true, true, true, true, true, true, true, true, false, false] rfl rfl (by kernel_rfl) (by decide) (fun K hK => ?_)
  refine value_ (by rfl) rfl (exec_text2 (src := 70) (dst := 9) (x := .tmp 9) (A := some ⟨G6, 0, none⟩) (c := 2) (xs := [bt lowT (b / 16), bt lowT (b % 16)]) rfl rfl Tryd.underlying70 Tryd.underlying5 Tryd.underlying9 (reads_blk B6 (by simp))) ?_
  skip
  refine hK.out _ _ (hHeld) (fun hHeld => ?_)
  clear hK K
  refine norm_ (a' := ?_) ?_ ?_
  rotate_left
  · show Act.put _ (some 10) _ = _
    simp only [Act.put, List.setIfInBounds_toArray, List.set_cons_zero, List.set_cons_succ, i64_w, i32_w]
    rfl
  refine one_ (i := 8) (N := some 11) #[true, true, true, true, true, true, true, true, true, false] rfl rfl (by kernel_rfl) (by decide) (fun K hK => ?_)
  refine goes_ Tryd.func99 (by kernel_rfl) rfl #[.string (strOfNums [bt lowT (b / 16), bt lowT (b % 16)])] (by rfl) rfl rfl (by first | rfl | (simp only [List.map_toArray, List.map_cons, List.map_nil]; done) | (simp only [List.map_toArray, List.map_cons, List.map_nil]; rfl)) ?_
  refine (Upper_any _ _ (by rw [strOfNums_size]; simp)).mono ?_
  rintro _ wq ⟨rfl, hbc⟩
  refine ⟨_, rfl, ?_⟩
  refine hK.out _ _ (below_after hHeld hbc) (fun hHeld => ?_)
  clear hK K
  refine norm_ (a' := ?_) ?_ ?_
  rotate_left
  · show Act.put _ (some 11) _ = _
    simp only [Act.put, List.setIfInBounds_toArray, List.set_cons_zero, List.set_cons_succ, i64_w, i32_w]
    rfl
  refine pure_ (i := 9) (N := some 2) (v := ?_) (a' := ?_) #[true, true, true, true, true, true, true, true, true, true] rfl rfl (by kernel_rfl) (fun _ _ _ h => h) (Or.inl ⟨by rfl, ?_⟩) ?_ ?_
  rotate_left
  · intro w'
    go_simp
    with_reducible rfl
  rotate_left
  · simp only [Act.put, List.setIfInBounds_toArray, List.set_cons_zero, List.set_cons_succ, i64_w, i32_w]
    rfl
  refine done_ (by kernel_rfl) ?_
  go_wp2
  go_ret
  exact ⟨by rw [← Hu.out]; rfl, hHeld⟩
theorem up_digit (r : Int) (h0 : 0 ≤ r) (h1 : r < 16) : (ByteArray.mk #[48, 49, 50, 51, 52, 53, 54, 55, 56, 57, 65, 66, 67, 68, 69, 70]).extract r.toNat (r + 1).toNat = strOfNums [bt upT r] := by
  have h : ∀ k : Nat, k < 16 → ((ByteArray.mk #[48, 49, 50, 51, 52, 53, 54, 55, 56, 57, 65, 66, 67, 68, 69, 70]).extract k (k + 1)).data.toList = (strOfNums [bt upT (k : Int)]).data.toList := by decide +kernel
  obtain ⟨k, rfl⟩ := Int.eq_ofNat_of_zero_le h0
  have := h k (by omega)
  apply ByteArray.ext
  apply Array.toList_inj.1
  exact this
set_option maxRecDepth 100000 in
set_option maxHeartbeats 4000000 in
theorem rhex_any (b : Int) (w : World) (h0 : 0 ≤ b) (h1 : b ≤ 255) : Calls Tryd.prog 72 #[.int .u8 b] w fun e w' => e = .returned (.string (hexS b)) ∧ Below w.heap.size w w' := by
  have k0 : 0 ≤ b / 16 := by omega
  have k1 : b / 16 < 16 := by omega
  have k2 : 0 ≤ b % 16 := by omega
  have k3 : b % 16 < 16 := by omega
  have t1 : b.tdiv 16 = b / 16 := Int.tdiv_eq_ediv_of_nonneg h0
  have t2 : b.tmod 16 = b % 16 := Int.tmod_eq_emod_of_nonneg h0
  have v0 : IntKind.u8.wrap (b / 16) = b / 16 := by rw [IntKind.wrap_u8]; omega
  have v1 : IntKind.u8.wrap (b / 16 + 1) = b / 16 + 1 := by rw [IntKind.wrap_u8]; omega
  have v2 : IntKind.u8.wrap (b % 16 + 1) = b % 16 + 1 := by rw [IntKind.wrap_u8]; omega
  have x1 := up_digit (b / 16) k0 k1
  have x2 := up_digit (b % 16) k2 k3
  have z1 : (strOfNums [bt upT (b / 16)]).size = 1 := strOfNums_size _
  have z2 : (strOfNums [bt upT (b % 16)]).size = 1 := strOfNums_size _
  have ha : strOfNums [bt upT (b / 16)] ++ strOfNums [bt upT (b % 16)] = hexS b := strOfNums_append _ _
  have n1 : b / 16 ≤ b / 16 + 1 := by omega
  have n2 : b % 16 ≤ b % 16 + 1 := by omega
  have n3 : b / 16 + 1 ≤ 16 := by omega
  have n4 : b % 16 + 1 ≤ 16 := by omega
  go_enter Tryd.func72, Tryd.ntmps72
  go_upto_region 1 with (fail)
  refine start_ (n := 14) (S := (fun w' => Below w.heap.size w w')) (ds := []) #[false, false, false, false, false, false, false, false, false, false, false, false, false, false] (by kernel_rfl) rfl rfl (Below.refl _ _ : Below w.heap.size w w).drew (fun hHeld => ?_)
  refine pure_ (i := 0) (N := some 3) (v := ?_) (a' := ?_) #[true, false, false, false, false, false, false, false, false, false, false, false, false, false] rfl rfl (by kernel_rfl) (fun _ _ _ h => h) (Or.inl ⟨by rfl, ?_⟩) ?_ ?_
  rotate_left
  · intro w'
    go_simp
    with_reducible rfl
  rotate_left
  · simp only [Act.put, List.setIfInBounds_toArray, List.set_cons_zero, List.set_cons_succ, i64_w, i32_w]
    rfl
  refine pure_ (i := 1) (N := some 4) (v := ?_) (a' := ?_) #[true, true, false, false, false, false, false, false, false, false, false, false, false, false] rfl rfl (by kernel_rfl) (fun _ _ _ h => h) (Or.inl ⟨by rfl, ?_⟩) ?_ ?_
  rotate_left
  · intro w'
    go_simp
    with_reducible rfl
  rotate_left
  · simp only [Act.put, List.setIfInBounds_toArray, List.set_cons_zero, List.set_cons_succ, i64_w, i32_w]
    rfl
  refine pure_ (i := 2) (N := some 5) (v := ?_) (a' := ?_) #[true, true, true, false, false, false, false, false, false, false, false, false, false, false] rfl rfl (by kernel_rfl) (fun _ _ _ h => h) (Or.inl ⟨by rfl, ?_⟩) ?_ ?_
  rotate_left
  · intro w'
    go_simp
    with_reducible rfl
  rotate_left
  · simp only [Act.put, List.setIfInBounds_toArray, List.set_cons_zero, List.set_cons_succ, i64_w, i32_w]
    rfl
  refine pure_ (i := 3) (N := some 6) (v := ?_) (a' := ?_) #[true, true, true, true, false, false, false, false, false, false, false, false, false, false] rfl rfl (by kernel_rfl) (fun _ _ _ h => h) (Or.inl ⟨by rfl, ?_⟩) ?_ ?_
  rotate_left
  · intro w'
    go_simp
    with_reducible rfl
  rotate_left
  · simp only [Act.put, List.setIfInBounds_toArray, List.set_cons_zero, List.set_cons_succ, i64_w, i32_w]
    rfl
  refine pure_ (i := 4) (N := some 7) (v := ?_) (a' := ?_) #[true, true, true, true, true, false, false, false, false, false, false, false, false, false] rfl rfl (by kernel_rfl) (fun _ _ _ h => h) (Or.inl ⟨by rfl, ?_⟩) ?_ ?_
  rotate_left
  · intro w'
    go_simp
    with_reducible rfl
  rotate_left
  · simp only [Act.put, List.setIfInBounds_toArray, List.set_cons_zero, List.set_cons_succ, i64_w, i32_w]
    rfl
  refine pure_ (i := 5) (N := some 8) (v := ?_) (a' := ?_) #[true, true, true, true, true, true, false, false, false, false, false, false, false, false] rfl rfl (by kernel_rfl) (fun _ _ _ h => h) (Or.inl ⟨by rfl, ?_⟩) ?_ ?_
  rotate_left
  · intro w'
    go_simp
    with_reducible rfl
  rotate_left
  · simp only [Act.put, List.setIfInBounds_toArray, List.set_cons_zero, List.set_cons_succ, i64_w, i32_w]
    rfl
  refine pure_ (i := 6) (N := some 9) (v := ?_) (a' := ?_) #[true, true, true, true, true, true, true, false, false, false, false, false, false, false] rfl rfl (by kernel_rfl) (fun _ _ _ h => h) (Or.inl ⟨by rfl, ?_⟩) ?_ ?_
  rotate_left
  · intro w'
    go_simp
    with_reducible rfl
  rotate_left
  · simp only [Act.put, List.setIfInBounds_toArray, List.set_cons_zero, List.set_cons_succ, i64_w, i32_w]
    rfl
  refine pure_ (i := 7) (N := some 10) (v := ?_) (a' := ?_) #[true, true, true, true, true, true, true, true, false, false, false, false, false, false] rfl rfl (by kernel_rfl) (fun _ _ _ h => h) (Or.inl ⟨by rfl, ?_⟩) ?_ ?_
  rotate_left
  · intro w'
    go_simp
    with_reducible rfl
  rotate_left
  · simp only [Act.put, List.setIfInBounds_toArray, List.set_cons_zero, List.set_cons_succ, i64_w, i32_w]
    rfl
  refine pure_ (i := 8) (N := some 11) (v := ?_) (a' := ?_) #[true, true, true, true, true, true, true, true, true, false, false, false, false, false] rfl rfl (by kernel_rfl) (fun _ _ _ h => h) (Or.inl ⟨by rfl, ?_⟩) ?_ ?_
  rotate_left
  · intro w'
    go_simp
    with_reducible rfl
  rotate_left
  · simp only [Act.put, List.setIfInBounds_toArray, List.set_cons_zero, List.set_cons_succ, i64_w, i32_w]
    rfl
  refine pure_ (i := 9) (N := some 12) (v := ?_) (a' := ?_) #[true, true, true, true, true, true, true, true, true, true, false, false, false, false] rfl rfl (by kernel_rfl) (fun _ _ _ h => h) (Or.inl ⟨by rfl, ?_⟩) ?_ ?_
  rotate_left
  · intro w'
    go_simp
    with_reducible rfl
  rotate_left
  · simp only [Act.put, List.setIfInBounds_toArray, List.set_cons_zero, List.set_cons_succ, i64_w, i32_w]
    rfl
  refine pure_ (i := 10) (N := some 13) (v := ?_) (a' := ?_) #[true, true, true, true, true, true, true, true, true, true, true, false, false, false] rfl rfl (by kernel_rfl) (fun _ _ _ h => h) (Or.inl ⟨by rfl, ?_⟩) ?_ ?_
  rotate_left
  · intro w'
    go_simp
    with_reducible rfl
  rotate_left
  · simp only [Act.put, List.setIfInBounds_toArray, List.set_cons_zero, List.set_cons_succ, i64_w, i32_w]
    rfl
  refine pure_ (i := 11) (N := some 14) (v := ?_) (a' := ?_) #[true, true, true, true, true, true, true, true, true, true, true, true, false, false] rfl rfl (by kernel_rfl) (fun _ _ _ h => h) (Or.inl ⟨by rfl, ?_⟩) ?_ ?_
  rotate_left
  · intro w'
    go_simp
    with_reducible rfl
  rotate_left
  · simp only [Act.put, List.setIfInBounds_toArray, List.set_cons_zero, List.set_cons_succ, i64_w, i32_w]
    rfl
  refine pure_ (i := 12) (N := some 15) (v := ?_) (a' := ?_) #[true, true, true, true, true, true, true, true, true, true, true, true, true, false] rfl rfl (by kernel_rfl) (fun _ _ _ h => h) (Or.inl ⟨by rfl, ?_⟩) ?_ ?_
  rotate_left
  · intro w'
    go_simp
    with_reducible rfl
  rotate_left
  · simp only [Act.put, List.setIfInBounds_toArray, List.set_cons_zero, List.set_cons_succ, i64_w, i32_w]
    rfl
  refine pure_ (i := 13) (N := some 2) (v := ?_) (a' := ?_) #[true, true, true, true, true, true, true, true, true, true, true, true, true, true] rfl rfl (by kernel_rfl) (fun _ _ _ h => h) (Or.inl ⟨by rfl, ?_⟩) ?_ ?_
  rotate_left
  · intro w'
    go_simp
    with_reducible rfl
  rotate_left
  · simp only [Act.put, List.setIfInBounds_toArray, List.set_cons_zero, List.set_cons_succ, i64_w, i32_w]
    rfl
  refine done_ (by kernel_rfl) ?_
  go_wp2
  go_ret
  exact ⟨rfl, hHeld⟩
end Go.Proofs.YtfbgmlophkbejaaDoor.Z

set_option linter.unusedVariables false
set_option linter.unusedSimpArgs false
namespace Go.Proofs.YtfbgmlophkbejaaDoor.Z
open Go.RowKit Go.Proofs.YtfbgmlophkbejaaDoorW.PrintWords Go.Proofs.YtfbgmlophkbejaaDoorW.PrintLast
theorem sizeBld : (Tryd.prog.info? 76).map (·.size) = some 2 := by kernel_rfl
theorem liesBld : liesAt Tryd.prog Tryd.prog.depth 76 (2 / Tryd.prog.cellsOf 76) 0 76 1 = true := by kernel_rfl
/-- the builder at block b holds these bytes -/
def Bld (w : World) (B b : Nat) (xs : List Int) : Prop := Lib.IsBuilder 76 5 B b (nums .u8 xs) w
theorem Bld.new (w : World) (B : Nat) (hB : B ≤ w.heap.size) : Bld (w.alloc (.cells #[.pointer none, .slice none 0 0] 76)) B w.heap.size [] :=
  Or.inl ⟨hB, .slice none 0 0, heap_alloc_new w _, own_nil _ _ _ _, by simp [Value.ownBlock]⟩
theorem Bld.at_new {w : World} {B b : Nat} (hb : b = w.heap.size) (hB : B ≤ b) : Bld (w.alloc (.cells #[.pointer none, .slice none 0 0] 76)) B b [] := by subst hb; exact Bld.new w B hB
theorem Bld.after {w w' : World} {B b : Nat} {xs : List Int} (h : Bld w B b xs) (hb : Below w.heap.size w w') : Bld w' B b xs := by
  have key : ∀ p, Lib.BuilderAt 76 5 B b p (nums .u8 xs) w → Lib.BuilderAt 76 5 B b p (nums .u8 xs) w' := fun p h => by
    have hlt := h.lt
    obtain ⟨hB, v, hv, ho, hne⟩ := h
    exact ⟨hB, v, (hb.block b hlt).trans hv, pw_own_below ho hb, hne⟩
  rcases h with h | h
  · exact Or.inl (key _ h)
  · exact Or.inr (key _ h)
theorem Bld.lt {w : World} {B b : Nat} {xs : List Int} (h : Bld w B b xs) : b < w.heap.size := by
  rcases h with h | h <;> exact h.lt
theorem Bld.base {w : World} {B b : Nat} {xs : List Int} (h : Bld w B b xs) : B ≤ b := by
  rcases h with h | h <;> exact h.1
set_option maxRecDepth 100000 in
theorem copyCheck_any (B b : Nat) (xs : List Int) (w : World) (h : Bld w B b xs) :
    Calls Tryd.prog 76 #[.pointer (some ⟨b, 0, none⟩)] w fun e w' => e = .returned (.tuple #[]) ∧ Lib.BuilderAt 76 5 B b (.pointer (some ⟨b, 0, none⟩)) (nums .u8 xs) w' ∧ Below B w w' ∧ KeepBut w w' b none := by
  obtain ⟨j, hj, hjs⟩ := Option.map_eq_some_iff.1 sizeBld
  rcases h with h | h
  · have h0 := h.cell0
    have hsh := h.shape
    have hfz := h.frozen0
    have H := Lib.hid h
    clear h
    go_enter Tryd.func76, Tryd.ntmps76
    go_wp2
    rw [Lib.run_to_unsafe w ⟨b, 0, none⟩ Tryd.underlying74 Tryd.underlying141 hj (by rw [hjs]; decide) hsh (Nat.zero_lt_succ 1)]
    simp only [Result.andThen]
    rw [Oper.upon_value]
    go_wp2
    rw [run_callFunc_extern Tryd.func98 (by kernel_rfl) (by kernel_rfl) (by kernel_rfl) (e := Extern.AbiNoEscape.same) (by kernel_rfl)]
    rw [Lib.run_noEscape]
    simp only [Result.andThen]
    rw [Oper.upon_value]
    go_wp2
    rw [Lib.run_from_unsafe w ⟨b, 0, none⟩ Tryd.underlying141 Tryd.underlying74 hj hsh liesBld]
    simp only [Result.andThen]
    rw [Oper.upon_value]
    go_wp2
    go_end0
    exact ⟨rfl, H.out.used _, (Below.refl B w).setCell (p := ⟨b, 0, none⟩) H.out.1 _, (KeepBut.refl _ _ _).set_ 0 _⟩
  · have h0 := h.cell0
    have H := Lib.hid h
    clear h
    go_enter Tryd.func76, Tryd.ntmps76
    go_wp2
    rw [Lib.run_neq_ptr_same w _ Tryd.underlying74 hj]
    go_wp2
    go_end0
    exact ⟨rfl, H.out, Below.refl B _, KeepBut.refl _ _ _⟩
set_option maxHeartbeats 1000000 in
set_option maxRecDepth 100000 in
theorem writeByte_any (B b : Nat) (xs : List Int) (c : Int) (w : World) (h : Bld w B b xs) (hlen : xs.length + 1 ≤ 140737488355328) (hBw : B ≤ w.heap.size) :
    Calls Tryd.prog 48 #[.pointer (some ⟨b, 0, none⟩), .int .u8 c] w fun e w' => e = .returned .nilIface ∧ Bld w' B b (xs ++ [c]) ∧ Below B w w' := by
  have Hc := Lib.hid (fun W h => copyCheck_any B b xs W h)
  have H := Lib.hid h
  clear h
  go_enter Tryd.func48, Tryd.ntmps48
  go_wp2_with (first
    | (go_at_call 76; (with_reducible refine (Hc.out _ H.out).mono ?_); rintro e w1 ⟨rfl, h1, hb1, hk1⟩; obtain ⟨hB, v, hbk, hown, hne⟩ := h1; rw [nums_length] at hown; have hlt : b < w1.heap.size := (Array.getElem?_eq_some_iff.1 hbk).1; have c1 : w1.cell? ⟨b, 1, none⟩ = some v := (by rw [Lib.cell_of_heap hbk]; rfl))
    | (at_builtin; (refine print_append_num (w0 := w) (W := w1) B rfl (.tmp 11) (.tmp 13) 70 5 .u8 1 rfl Tryd.underlying70 info_u8 (by decide) _ xs _ rfl rfl hown hb1 (by have := hb1.size; omega) (by omega) ?_; intro v1 w2 ho2 hb2 hg2 hat2; rw [List.length_append] at ho2; obtain ⟨ao2, cp2, rfl⟩ := own_slice ho2; have hbk2 : w2.heap[b]? = some (.cells #[.pointer (some ⟨b, 0, none⟩), v] 76 (0, 0)) := (hg2.block b hlt (fun e => hne e.symm)).trans hbk; have d1 : w2.cell? ⟨b, 1, none⟩ = some v := (by rw [Lib.cell_of_heap hbk2]; rfl); have f1 : w2.frozen? ⟨b, 1, none⟩ = false := Lib.frozen_of_heap hbk2 1; have Hb := Lib.hid hbk2; clear hbk hbk2)))
  go_ret
  rw [← List.length_append] at ho2
  refine ⟨rfl, Or.inr (Lib.BuilderAt.put hB Hb.out (by rw [nums_length, List.length_append] at *; exact ho2) (by decide)), hb2.setCell (p := ⟨b, 1, none⟩) hB _⟩
set_option maxHeartbeats 1000000 in
set_option maxRecDepth 100000 in
theorem writeString_any (B b : Nat) (xs : List Int) (s : ByteArray) (w : World) (h : Bld w B b xs) (hlen : xs.length + s.size ≤ 140737488355328) (hBw : B ≤ w.heap.size) :
    Calls Tryd.prog 46 #[.pointer (some ⟨b, 0, none⟩), .string s] w fun e w' => e = .returned (.tuple #[.int .i64 s.size, .nilIface]) ∧ Bld w' B b (xs ++ bytesOf s) ∧ Below B w w' := by
  obtain ⟨i0, hi, hz0, hz1, hz2⟩ := info_parts info_u8
  have Hc := Lib.hid (fun W h => copyCheck_any B b xs W h)
  have H := Lib.hid h
  clear h
  go_enter Tryd.func46, Tryd.ntmps46
  go_wp2_with (first
    | (go_at_call 76; (with_reducible refine (Hc.out _ H.out).mono ?_); rintro e w1 ⟨rfl, h1, hb1, hk1⟩; obtain ⟨hB, v, hbk, hown, hne⟩ := h1; rw [nums_length] at hown; have hlt : b < w1.heap.size := (Array.getElem?_eq_some_iff.1 hbk).1; have c1 : w1.cell? ⟨b, 1, none⟩ = some v := (by rw [Lib.cell_of_heap hbk]; rfl))
    | (at_builtin; (refine Lib.wpList_append_own_string _ rfl _ _ 70 9 rfl B 5 i0 Tryd.underlying70 Tryd.underlying9 hi hz0 hz1 hz2 _ _ _ rfl hown s rfl (by unfold maxLen; omega) (by omega) (by have := hb1.size; omega) ?_; intro v1 w2 ho2 hg2 hat2; obtain ⟨ao2, cp2, rfl⟩ := own_slice ho2; have hbk2 : w2.heap[b]? = some (.cells #[.pointer (some ⟨b, 0, none⟩), v] 76 (0, 0)) := (hg2.block b hlt (fun e => hne e.symm)).trans hbk; have d1 : w2.cell? ⟨b, 1, none⟩ = some v := (by rw [Lib.cell_of_heap hbk2]; rfl); have f1 : w2.frozen? ⟨b, 1, none⟩ = false := Lib.frozen_of_heap hbk2 1; have Hb : Hid (w2.heap[b]? = some (.cells #[.pointer (some ⟨b, 0, none⟩), v] 76 (0, 0))) := Lib.hid hbk2; clear hbk hbk2)))
  go_ret2
  have e : nums .u8 (xs ++ bytesOf s) = nums .u8 xs ++ Lib.strCells s := by
    rw [nums_append]
    congr 1
    simp [nums, bytesOf, Lib.strCells]
  refine ⟨rfl, Or.inr ?_, (hb1.grown hg2 (by have := hb1.size; omega) (fun k hk => (hown.lt k hk).1)).setCell (p := ⟨b, 1, none⟩) hB _⟩
  rw [e]
  exact Lib.BuilderAt.put hB Hb.out (by rw [List.length_append, nums_length, Lib.strCells_length]; exact ho2) (by decide)
theorem byteCells_nums (xs : List Int) (hr : ∀ x ∈ xs, 0 ≤ x ∧ x ≤ 255) : Lib.byteCells (xs.map fun x => UInt8.ofNat x.toNat) = nums .u8 xs := by
  unfold Lib.byteCells nums
  rw [List.map_map]
  refine List.map_congr_left fun x hx => ?_
  have := hr x hx
  simp only [Function.comp_apply, Value.int.injEq, true_and]
  have e : (UInt8.ofNat x.toNat).toNat = x.toNat := by
    rw [UInt8.toNat_ofNat']
    omega
  rw [e]
  omega
theorem string_any (B b : Nat) (xs : List Int) (w : World) (h : Bld w B b xs) (hr : ∀ x ∈ xs, 0 ≤ x ∧ x ≤ 255) (hBw : B ≤ w.heap.size) :
    Calls Tryd.prog 49 #[.pointer (some ⟨b, 0, none⟩)] w fun e w' => e = .returned (.string (strOfNums xs)) ∧ Below B w w' := by
  unfold Bld at h
  rw [← byteCells_nums xs hr] at h
  exact Tryd.Builder_String_any B b _ w h hBw
end Go.Proofs.YtfbgmlophkbejaaDoor.Z

set_option linter.unusedVariables false
set_option linter.unusedSimpArgs false
namespace Go.Proofs.YtfbgmlophkbejaaDoor.Z
open Go.RowKit Go.Proofs.YtfbgmlophkbejaaDoorW.PrintWords Go.Proofs.YtfbgmlophkbejaaDoorW.PrintLast
/-- a byte, coded -/
def codeL (b : Int) : List Int := [37, bt upT (b / 16), bt upT (b % 16)]
/-- a byte, coded if it is of a set -/
def encB (p : Int → Bool) (b : Int) : List Int := if p b = true then codeL b else [b]
def encL (p : Int → Bool) (l : List Int) : List Int := l.flatMap (encB p)
theorem encL_append (p : Int → Bool) (l r : List Int) : encL p (l ++ r) = encL p l ++ encL p r := by unfold encL; rw [List.flatMap_append]
theorem encB_len (p : Int → Bool) (b : Int) : 1 ≤ (encB p b).length ∧ (encB p b).length ≤ 3 := by unfold encB codeL; split <;> simp
theorem encL_len (p : Int → Bool) (l : List Int) : (encL p l).length ≤ 3 * l.length := by
  induction l with
  | nil => simp [encL]
  | cons b l ih =>
    have := (encB_len p b).2
    have e : encL p (b :: l) = encB p b ++ encL p l := by simp [encL]
    rw [e, List.length_append, List.length_cons]
    omega
theorem up_range (r : Int) : 0 ≤ bt upT r ∧ bt upT r ≤ 255 := bt_range upT r
theorem encB_range (p : Int → Bool) (b : Int) (h : 0 ≤ b ∧ b ≤ 255) : ∀ x ∈ encB p b, 0 ≤ x ∧ x ≤ 255 := by
  intro x hx
  unfold encB codeL at hx
  split at hx
  · simp only [List.mem_cons, List.not_mem_nil, or_false] at hx
    rcases hx with rfl | rfl | rfl
    · omega
    · exact up_range _
    · exact up_range _
  · simp only [List.mem_cons, List.not_mem_nil, or_false] at hx
    rw [hx]; exact h
theorem encL_range (p : Int → Bool) (l : List Int) (h : ∀ b ∈ l, 0 ≤ b ∧ b ≤ 255) : ∀ x ∈ encL p l, 0 ≤ x ∧ x ≤ 255 := by
  intro x hx
  unfold encL at hx
  obtain ⟨b, hb, hx⟩ := List.mem_flatMap.1 hx
  exact encB_range p b (h b hb) x hx
theorem take_byte (s : ByteArray) (k : Int) (h0 : 0 ≤ k) (h1 : k < s.size) : (bytesOf s).take (k + 1).toNat = (bytesOf s).take k.toNat ++ [bt s k] := by
  have hl : k.toNat < (bytesOf s).length := by rw [bytesOf_length]; omega
  rw [show (k + 1).toNat = k.toNat + 1 by omega, List.take_succ_eq_append_getElem hl]
  congr 2
  rw [← rd_bytesOf]
  simp [rd, List.getD_eq_getElem?_getD, List.getElem?_eq_getElem hl]
theorem take_all (s : ByteArray) : (bytesOf s).take (s.size : Int).toNat = bytesOf s := List.take_of_length_le (by rw [bytesOf_length]; omega)
theorem enc_step (p : Int → Bool) (s : ByteArray) (k : Int) (h0 : 0 ≤ k) (h1 : k < s.size) : encL p ((bytesOf s).take (k + 1).toNat) = encL p ((bytesOf s).take k.toNat) ++ encB p (bt s k) := by
  rw [take_byte s k h0 h1, encL_append]
  simp [encL]
theorem hexS_bytes (b : Int) : bytesOf (hexS b) = [bt upT (b / 16), bt upT (b % 16)] := bytesOf_strOfNums _ (by
  intro x hx
  simp only [List.mem_cons, List.not_mem_nil, or_false] at hx
  rcases hx with rfl | rfl <;> exact up_range _)
def codeS (b : Int) : ByteArray := strOfNums (codeL b)
theorem codeS_eq (b : Int) : (⟨#[37]⟩ : ByteArray) ++ hexS b = codeS b := strOfNums_append [37] _
theorem codeS_size (b : Int) : (codeS b).size = 3 := by unfold codeS codeL; rw [strOfNums_size]; rfl
theorem codeS_bytes (b : Int) : bytesOf (codeS b) = codeL b := bytesOf_strOfNums _ (by
  have := encB_range (fun _ => true) 0 ⟨by omega, by omega⟩
  intro x hx
  unfold codeL at hx
  simp only [List.mem_cons, List.not_mem_nil, or_false] at hx
  rcases hx with rfl | rfl | rfl
  · omega
  · exact up_range _
  · exact up_range _)
theorem hexS_size (b : Int) : (hexS b).size = 2 := by unfold hexS; rw [strOfNums_size]; rfl
set_option maxRecDepth 100000 in
theorem code_any (b : Int) (w : World) (h0 : 0 ≤ b) (h1 : b ≤ 255) : Calls Tryd.prog 47 #[.int .u8 b] w fun e w' => e = .returned (.string (codeS b)) ∧ Below w.heap.size w w' := by
  have hc := codeS_eq b
  have hz := Nat.le_of_eq (hexS_size b)
  go_enter Tryd.func47, Tryd.ntmps47
  go_wp2_with (go_at_call 77; (with_reducible refine (hex_any b _ h0 h1).mono ?_); rintro e w1 ⟨rfl, hb⟩)
  go_ret
  exact ⟨rfl, hb⟩
set_option maxHeartbeats 2000000 in
set_option maxRecDepth 100000 in
theorem encode_any (s : ByteArray) (x0 x1 x2 x3 : Int) (w : World) (hs : s.size * 3 ≤ 140737488351232) :
    Calls Tryd.prog 16 #[.string s, set4 x0 x1 x2 x3] w fun e w' => e = .returned (.string (strOfNums (encL (inSet [x0, x1, x2, x3]) (bytesOf s)))) ∧ Below w.heap.size w w' := by
  go_enter Tryd.func16, Tryd.ntmps16
  go_wp2
  go_loopw [9] (fun v wr => ∃ (k : Int), v = .int .i64 k ∧ 0 ≤ k ∧ k ≤ s.size ∧ Bld wr (w.heap.size + 1) (w.heap.size + 1) (encL (inSet [x0, x1, x2, x3]) ((bytesOf s).take k.toNat)) ∧ Below w.heap.size w wr ∧ Blk wr w.heap.size 27 (arr4 x0 x1 x2 x3)) (fun v _ => s.size - (intOf v).toNat)
  case atStart => exact ⟨0, rfl, by omega, by omega, Bld.at_new (by simp) (by omega), below_alloc (below_one _ _) _, (Blk.new _ _ _).alloc _⟩
  case round =>
    obtain ⟨k, rfl, hk0, hk1, hB, hbel, hblk⟩ := hrel
    have hen := encL_len (inSet [x0, x1, x2, x3]) ((bytesOf s).take k.toNat)
    rw [List.length_take, bytesOf_length] at hen
    by_cases hlt : k < s.size
    · have hes := enc_step (inSet [x0, x1, x2, x3]) s k hk0 hlt
      obtain ⟨c0, c1, c2, c3⟩ := hblk.cells4
      have hbt := bt_at s k
      have hbr := bt_range s k
      generalize encL (inSet [x0, x1, x2, x3]) ((bytesOf s).take k.toNat) = xs at *
      have Hes := Lib.hid hes
      clear hes
      go_upto_region 5 with (fail)
      go_still_tail 4, (by kernel_rfl)
      change wpList _ _ _ _ _ wr.drew
      have hbel2 : Below w.heap.size w wr.drew := hbel.drew
      have hblk2 : Blk wr.drew w.heap.size 27 (arr4 x0 x1 x2 x3) := hblk.drew
      have hB2 : Bld wr.drew (w.heap.size + 1) (w.heap.size + 1) xs := hB
      clear hbel hblk hB c0 c1 c2 c3
      generalize wr.drew = w2 at *
      have hsz := hB2.lt
      have hsz2 : w.heap.size + 1 ≤ w2.heap.size := by omega
      cases hp : inSet [x0, x1, x2, x3] (bt s k)
      · have Hey : Hid (encL (inSet [x0, x1, x2, x3]) ((bytesOf s).take (k + 1).toNat) = xs ++ [bt s k]) := Lib.hid (by rw [Hes.out]; unfold encB; rw [hp]; rfl)
        go_wp2_with (first
          | (go_at_call 45; (with_reducible refine (has_any x0 x1 x2 x3 (bt s k) _ hbr.1 hbr.2).mono ?_); rintro e w3 ⟨rfl, hb3⟩; have hB3 := hB2.after hb3)
          | (go_at_call 48; (with_reducible refine (writeByte_any _ _ xs (bt s k) _ hB3 (by omega) (by have := hb3.size; omega)).mono ?_); rintro e w4 ⟨rfl, hB4, hb4⟩))
        exact ⟨⟨k + 1, rfl, by omega, by omega, by rw [Hey.out]; exact hB4, (below_after hbel2 hb3).trans (hb4.mono (by omega)), (hblk2.after hb3).below hb4 (by omega)⟩, by simp [intOf]; omega⟩
      · have Hey : Hid (encL (inSet [x0, x1, x2, x3]) ((bytesOf s).take (k + 1).toNat) = xs ++ bytesOf (codeS (bt s k))) := Lib.hid (by rw [Hes.out, codeS_bytes]; unfold encB; rw [hp]; rfl)
        have hcs := Nat.le_of_eq (codeS_size (bt s k))
        go_wp2_with (first
          | (go_at_call 45; (with_reducible refine (has_any x0 x1 x2 x3 (bt s k) _ hbr.1 hbr.2).mono ?_); rintro e w3 ⟨rfl, hb3⟩; have hB3 := hB2.after hb3)
          | (go_at_call 47; (with_reducible refine (code_any (bt s k) _ hbr.1 hbr.2).mono ?_); rintro e w4 ⟨rfl, hb4⟩; have hB4 := hB3.after hb4)
          | (go_at_call 46; (with_reducible refine (writeString_any _ _ xs (codeS (bt s k)) _ hB4 (by omega) (by have := hb3.size; have := hb4.size; omega)).mono ?_); rintro e w5 ⟨rfl, hB5, hb5⟩))
        exact ⟨⟨k + 1, rfl, by omega, by omega, by rw [Hey.out]; exact hB5, (below_after (below_after hbel2 hb3) hb4).trans (hb5.mono (by omega)), ((hblk2.after hb3).after hb4).below hb5 (by omega)⟩, by simp [intOf]; omega⟩
    · obtain rfl : k = s.size := by omega
      rw [take_all] at hB
      have hr := encL_range (inSet [x0, x1, x2, x3]) (bytesOf s) (fun b hb => mem_bytesOf hb)
      have hsz := hB.lt
      have hS := fun W h h2 => string_any (w.heap.size + 1) (w.heap.size + 1) (encL (inSet [x0, x1, x2, x3]) (bytesOf s)) W h hr h2
      have HS := Lib.hid hS
      have HB := Lib.hid hB
      clear hS hr hB hen
      go_wp2_with (go_at_call 49; (with_reducible refine (HS.out _ HB.out (by omega)).mono ?_); rintro e w3 ⟨rfl, hb3⟩)
      go_ret
      exact ⟨rfl, hbel.trans (hb3.mono (by omega))⟩
theorem one_byte (s : ByteArray) (k : Int) (h0 : 0 ≤ k) (h1 : k < s.size) : s.extract k.toNat (k + 1).toNat = strOfNums [bt s k] := by
  refine ba_ext (by rw [size_ext _ _ _ (by omega), strOfNums_size, List.length_singleton]; omega) fun i g0 g1 => ?_
  rw [size_ext _ _ _ (by omega)] at g1
  obtain rfl : i = 0 := by omega
  rw [bt_strOfNums _ _ (by omega) (fun x hx => by obtain rfl := List.mem_singleton.1 hx; exact bt_range s k), bt_ext s _ _ (by omega) 0 (by omega), if_pos (by omega)]
  show bt s _ = bt s k
  congr 1
  omega
set_option maxHeartbeats 2000000 in
theorem rencode_any (s : ByteArray) (m : List Int) (p : Int → Bool) (w : World) (hs : s.size * 3 ≤ 140737488351232) (hm : m.length = 256) (hp : ∀ b, 0 ≤ b → b < 256 → (rd m b == 1) = p b) :
    Calls Tryd.prog 41 #[.string s, .agg (nums .u8 m).toArray] w fun e w' => e = .returned (.string (strOfNums (encL p (bytesOf s)))) ∧ Below w.heap.size w w' := by
  have Hp := Lib.hid hp
  clear hp
  go_enter Tryd.func41, Tryd.ntmps41
  go_wp2
  go_loopw [5, 6] (fun u v wr => ∃ (k : Int), u = .string (strOfNums (encL p ((bytesOf s).take k.toNat))) ∧ v = .int .i64 k ∧ 0 ≤ k ∧ k ≤ s.size ∧ Below w.heap.size w wr ∧ Blk wr w.heap.size 66 (nums .u8 m).toArray) (fun _ v _ => s.size - (intOf v).toNat)
  case atStart => exact ⟨0, rfl, rfl, by omega, by omega, below_one _ _, Blk.new _ _ _⟩
  case round =>
    obtain ⟨k, rfl, rfl, hk0, hk1, hbel, hblk⟩ := hrel
    by_cases hlt : k < s.size
    · have hes := enc_step p s k hk0 hlt
      have hbt := bt_at s k
      have hbr := bt_range s k
      have c0 := blk_num_at hblk (bt s k) hbr.1 (by omega)
      have hq := Hp.out (bt s k) hbr.1 (by omega)
      have hsx : (strOfNums (encL p ((bytesOf s).take k.toNat))).size ≤ 3 * s.size := by
        have := encL_len p ((bytesOf s).take k.toNat)
        rw [List.length_take, bytesOf_length] at this
        rw [strOfNums_size]
        omega
      cases hpb : p (bt s k)
      · rw [hpb] at hq
        have hfin : strOfNums (encL p ((bytesOf s).take (k + 1).toNat)) = strOfNums (encL p ((bytesOf s).take k.toNat)) ++ strOfNums [bt s k] := by rw [hes, strOfNums_append]; unfold encB; rw [hpb]; rfl
        have hob := one_byte s k hk0 hlt
        have hoz : (strOfNums [bt s k]).size ≤ 1 := by rw [strOfNums_size]; simp
        generalize strOfNums [bt s k] = Y at *
        generalize strOfNums (encL p ((bytesOf s).take k.toNat)) = X at *
        have Hfin := Lib.hid hfin
        clear hfin hes hpb
        go_wp2
        exact ⟨⟨k + 1, by rw [Hfin.out], rfl, by omega, by omega, hbel, hblk⟩, by simp [intOf]; omega⟩
      · rw [hpb] at hq
        have hfin : strOfNums (encL p ((bytesOf s).take (k + 1).toNat)) = strOfNums (encL p ((bytesOf s).take k.toNat)) ++ codeS (bt s k) := by rw [hes]; unfold encB codeS; rw [hpb, strOfNums_append]; rfl
        have hcc := codeS_eq (bt s k)
        have hhz := Nat.le_of_eq (hexS_size (bt s k))
        have hcz := Nat.le_of_eq (codeS_size (bt s k))
        generalize codeS (bt s k) = Y at *
        generalize strOfNums (encL p ((bytesOf s).take k.toNat)) = X at *
        have Hfin := Lib.hid hfin
        clear hfin hes hpb
        go_wp2_with (go_at_call 72; (with_reducible refine (rhex_any (bt s k) _ hbr.1 hbr.2).mono ?_); rintro e w1 ⟨rfl, hb1⟩)
        exact ⟨⟨k + 1, by rw [Hfin.out], rfl, by omega, by omega, below_after hbel hb1, hblk.after hb1⟩, by simp [intOf]; omega⟩
    · obtain rfl : k = s.size := by omega
      rw [take_all]
      go_wp2
      go_ret
      exact ⟨rfl, hbel⟩
/-- the one way to code: of what a text says -/
def one37 (p : Int → Bool) (b : Int) : Bool := b == 37 || p b
theorem norm_step (p : Int → Bool) (s : ByteArray) (k : Int) (xs T : List Int) (h : k < s.size) (hT : xs ++ encL (one37 p) ((itemsF s k).map (byteC s)) = T) : (xs ++ encB (one37 p) (byteC s k)) ++ encL (one37 p) ((itemsF s (nxtC s k)).map (byteC s)) = T := by
  rw [← hT, itemsF_go h, List.map_cons, List.append_assoc]
  rfl
theorem norm_len (p : Int → Bool) (s : ByteArray) (k : Int) (xs : List Int) (h0 : 0 ≤ k) (h : k < s.size) (hT : xs ++ encL (one37 p) ((itemsF s k).map (byteC s)) = encL (one37 p) (decL s)) : xs.length + 3 ≤ 3 * s.size + 2 := by
  have h1 := itemsF_len s _ 0 (by omega) (by omega) rfl
  have h2 := encL_len (one37 p) (decL s)
  have e := congrArg List.length hT
  rw [itemsF_go h, List.map_cons] at e
  have e3 : encL (one37 p) (byteC s k :: (itemsF s (nxtC s k)).map (byteC s)) = encB (one37 p) (byteC s k) ++ encL (one37 p) ((itemsF s (nxtC s k)).map (byteC s)) := rfl
  have h3 := (encB_len (one37 p) (byteC s k)).1
  rw [e3, List.length_append, List.length_append] at e
  unfold decL at h2 e
  rw [List.length_map] at h2
  omega
theorem byteC_range (s : ByteArray) (k : Int) : 0 ≤ byteC s k ∧ byteC s k ≤ 255 := by
  unfold byteC
  split
  · have h := ‹isC s k = true›
    unfold isC at h
    simp only [Bool.and_eq_true, decide_eq_true_eq] at h
    have h1 := dig16 (bt s (k + 1))
    have h2 := dig16 (bt s (k + 2))
    unfold sayC
    omega
  · exact bt_range s k
theorem decL_range (s : ByteArray) : ∀ x ∈ decL s, 0 ≤ x ∧ x ≤ 255 := by
  intro x hx
  unfold decL at hx
  obtain ⟨q, _, rfl⟩ := List.mem_map.1 hx
  exact byteC_range s q
def normS (p : Int → Bool) (s : ByteArray) : ByteArray := strOfNums (encL (one37 p) (decL s))
set_option maxHeartbeats 1000000 in
set_option maxRecDepth 100000 in
theorem nor1_any (x0 x1 x2 x3 at_ b : Int) (c : Bool) (g B : Nat) (xs : List Int) (w : World) (h0 : 0 ≤ b) (h1 : b ≤ 255) (hg : g < B) (hB : Bld w B B xs) (hblk : Blk w g 27 (arr4 x0 x1 x2 x3)) (hl : xs.length + 3 ≤ 140737488355328) :
    Calls Tryd.prog 44 #[.int .i64 at_, .int .u8 b, .bool c, .pointer (some ⟨g, 0, none⟩), .pointer (some ⟨B, 0, none⟩)] w fun e w' => e = .returned (.tuple #[]) ∧ Bld w' B B (xs ++ encB (one37 (inSet [x0, x1, x2, x3])) b) ∧ Below B w w' := by
  obtain ⟨c0, c1, c2, c3⟩ := hblk.cells4
  have hlt := hB.lt
  have hcs := Nat.le_of_eq (codeS_size b)
  have Hb := Lib.hid hB
  clear hblk hB
  have hcode : ∀ W, Below w.heap.size w W → one37 (inSet [x0, x1, x2, x3]) b = true → ∀ W2, Bld W2 B B (xs ++ bytesOf (codeS b)) → Bld W2 B B (xs ++ encB (one37 (inSet [x0, x1, x2, x3])) b) := fun _ _ hq W2 hW => by
    rw [codeS_bytes] at hW
    unfold encB
    rw [if_pos hq]
    exact hW
  have Hcode := Lib.hid hcode
  clear hcode
  cases h37 : (b == 37)
  · cases hp : inSet [x0, x1, x2, x3] b
    · have hq : Hid (one37 (inSet [x0, x1, x2, x3]) b = false) := Lib.hid (by unfold one37; rw [h37, hp]; rfl)
      go_enter Tryd.func44, Tryd.ntmps44
      go_wp2_with (first
        | (go_at_call 45; (with_reducible refine (has_any x0 x1 x2 x3 b _ h0 h1).mono ?_); rintro e w1 ⟨rfl, hb1⟩; have hB1 := Hb.out.after hb1)
        | (go_at_call 48; (with_reducible refine (writeByte_any _ _ xs b _ hB1 (by omega) (by have := hb1.size; omega)).mono ?_); rintro e w2 ⟨rfl, hB2, hb2⟩))
      go_end0
      exact ⟨rfl, by unfold encB; rw [hq.out]; exact hB2, (hb1.mono (by omega)).trans hb2⟩
    · have hq : Hid (one37 (inSet [x0, x1, x2, x3]) b = true) := Lib.hid (by unfold one37; rw [h37, hp]; rfl)
      go_enter Tryd.func44, Tryd.ntmps44
      go_wp2_with (first
        | (go_at_call 45; (with_reducible refine (has_any x0 x1 x2 x3 b _ h0 h1).mono ?_); rintro e w1 ⟨rfl, hb1⟩; have hB1 := Hb.out.after hb1)
        | (go_at_call 47; (with_reducible refine (code_any b _ h0 h1).mono ?_); rintro e w2 ⟨rfl, hb2⟩; have hB2 := hB1.after hb2)
        | (go_at_call 46; (with_reducible refine (writeString_any _ _ xs (codeS b) _ hB2 (by omega) (by have := hb1.size; have := hb2.size; omega)).mono ?_); rintro e w3 ⟨rfl, hB3, hb3⟩))
      go_end0
      exact ⟨rfl, Hcode.out _ hb1 hq.out _ hB3, ((hb1.mono (by omega)).trans (hb2.mono (by have := hb1.size; omega))).trans hb3⟩
  · have hq : Hid (one37 (inSet [x0, x1, x2, x3]) b = true) := Lib.hid (by unfold one37; rw [h37]; rfl)
    go_enter Tryd.func44, Tryd.ntmps44
    go_wp2_with (first
      | (go_at_call 47; (with_reducible refine (code_any b _ h0 h1).mono ?_); rintro e w2 ⟨rfl, hb2⟩; have hB2 := Hb.out.after hb2)
      | (go_at_call 46; (with_reducible refine (writeString_any _ _ xs (codeS b) _ hB2 (by omega) (by have := hb2.size; omega)).mono ?_); rintro e w3 ⟨rfl, hB3, hb3⟩))
    go_end0
    exact ⟨rfl, Hcode.out _ hb2 hq.out _ hB3, (hb2.mono (by omega)).trans hb3⟩
set_option maxHeartbeats 1000000 in
set_option maxRecDepth 100000 in
theorem normal_any (s : ByteArray) (x0 x1 x2 x3 : Int) (w : World) (hs : s.size * 3 ≤ 140737488351232) :
    Calls Tryd.prog 14 #[.string s, set4 x0 x1 x2 x3] w fun e w' => e = .returned (.string (normS (inSet [x0, x1, x2, x3]) s)) ∧ Below w.heap.size w w' := by
  have hw := walk_any 44 #[.pointer (some ⟨w.heap.size, 0, none⟩), .pointer (some ⟨w.heap.size + 1, 0, none⟩)] (enter_fn Tryd.func44 (by kernel_rfl) (by kernel_rfl)) s (by omega)
    (fun p wr => 0 ≤ p ∧ p ≤ s.size ∧ Below w.heap.size w wr ∧ Blk wr w.heap.size 27 (arr4 x0 x1 x2 x3) ∧ ∃ xs, xs ++ encL (one37 (inSet [x0, x1, x2, x3])) ((itemsF s p).map (byteC s)) = encL (one37 (inSet [x0, x1, x2, x3])) (decL s) ∧ Bld wr (w.heap.size + 1) (w.heap.size + 1) xs)
    (fun p w1 w2 ⟨h0, h1, h2, h3, xs, h4, h5⟩ hb => ⟨h0, h1, below_after h2 hb, h3.after hb, xs, h4, h5.after hb⟩)
    (fun p w1 h0 hlt ⟨_, h1, h2, h3, xs, h4, h5⟩ => (nor1_any x0 x1 x2 x3 p (byteC s p) (isC s p) w.heap.size (w.heap.size + 1) xs w1 (byteC_range s p).1 (byteC_range s p).2 (by omega) h5 h3 (by
        have := norm_len _ s p xs h0 hlt h4
        omega)).mono fun e w2 ⟨g1, g2, g3⟩ =>
      ⟨g1, by have := nxtC_gt s p; omega, nxtC_le s p hlt, h2.trans (g3.mono (by omega)), h3.below g3 (by omega), _, norm_step _ s p xs _ hlt h4, g2⟩)
  have Hw := Lib.hid hw
  clear hw
  go_enter Tryd.func14, Tryd.ntmps14
  go_wp2_with fail
  refine (Hw.out _ ⟨by omega, by omega, below_alloc (below_one _ _) _, (Blk.new _ _ _).alloc _, [], rfl, Bld.at_new (by simp) (by omega)⟩).mono ?_
  rintro e w1 ⟨rfl, _, _, hb, hbk, xs, hx, hB⟩
  rw [itemsF_end, List.map_nil] at hx
  have hx2 : xs = encL (one37 (inSet [x0, x1, x2, x3])) (decL s) := by rw [← hx]; simp [encL]
  subst hx2
  have hS := string_any (w.heap.size + 1) (w.heap.size + 1) _ w1 hB (encL_range _ _ (decL_range s)) (by have := hB.lt; omega)
  have HS := Lib.hid hS
  clear hS hx hB
  go_wp2_with (go_at_call 49; (with_reducible refine (HS.out).mono ?_); rintro e w3 ⟨rfl, hb3⟩)
  go_ret
  exact ⟨rfl, hb.trans (hb3.mono (by omega))⟩
end Go.Proofs.YtfbgmlophkbejaaDoor.Z

set_option linter.unusedVariables false
set_option linter.unusedSimpArgs false
namespace Go.Proofs.YtfbgmlophkbejaaDoor.Z
open Go.RowKit Go.Proofs.YtfbgmlophkbejaaDoorW.PrintWords Go.Proofs.YtfbgmlophkbejaaDoorW.PrintLast
/-- the state ahead of the item at k -/
def RNorAt (p : Int → Bool) (s : ByteArray) (k : Int) (xs : List Int) : Prop := xs ++ encL (one37 p) ((itemsF s k).map (byteC s)) = encL (one37 p) (decL s)
/-- one item: what the byte is, its coding or not -/
theorem rnor_item (p : Int → Bool) (s : ByteArray) (k : Int) (xs : List Int) (h0 : 0 ≤ k) (h : k < s.size) (hR : RNorAt p s k xs) :
    (strOfNums xs).size ≤ 3 * s.size ∧ RNorAt p s (nxtC s k) (xs ++ encB (one37 p) (byteC s k)) ∧ (one37 p (byteC s k) = true → strOfNums (xs ++ encB (one37 p) (byteC s k)) = strOfNums xs ++ codeS (byteC s k)) ∧ (one37 p (byteC s k) = false → strOfNums (xs ++ encB (one37 p) (byteC s k)) = strOfNums xs ++ strOfNums [byteC s k]) := by
  refine ⟨?_, norm_step p s k xs _ h hR, fun hq => ?_, fun hq => ?_⟩
  · rw [strOfNums_size]
    have := norm_len p s k xs h0 h hR
    omega
  · rw [← strOfNums_append]; unfold encB codeS; rw [if_pos hq]
  · rw [← strOfNums_append]; unfold encB; rw [if_neg (by rw [hq]; simp)]
theorem one_text (w : World) (b : Int) : (convert 70 9 (.slice (some ⟨w.heap.size, 0, none⟩) 1 1)).run Tryd.prog (w.alloc (.cells #[.int .u8 b] 5)) = .ok (.string (strOfNums [b])) (w.alloc (.cells #[.int .u8 b] 5)) := by
  have hb : Blk (w.alloc (.cells #[.int .u8 b] 5)) w.heap.size 5 (nums .u8 [b]).toArray := Blk.new _ _ _
  exact string_of_reads (c := 1) Tryd.underlying70 Tryd.underlying5 Tryd.underlying9 (reads_blk hb (by simp))
end Go.Proofs.YtfbgmlophkbejaaDoor.Z
