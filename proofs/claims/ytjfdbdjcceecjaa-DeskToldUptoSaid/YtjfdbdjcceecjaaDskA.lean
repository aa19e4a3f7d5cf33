/- Desk: a byte behind a backslash, small digits, what a quoted word says. -/
import Derived.Test.YtjfdbdjcceecjaaBase3
import Derived.Test.YtjfdbdjcceecjaaBaE
import Derived.Lib.Strings
import Derived.Lib.Slices
import Derived.Lib.Walk
import Derived.Lib.Bytealg
set_option linter.unusedVariables false
set_option linter.unusedSimpArgs false
namespace Go.Proofs.Ytjfdbdjcceecjaa
open Go.RowKit Go.Proofs.YtjfdbdjcceecjaaW.PrintWords Go.Proofs.YtjfdbdjcceecjaaW.PrintLast
set_option maxHeartbeats 1000000 in
set_option maxRecDepth 100000 in
theorem lIdx_any (s : ByteArray) (c : Int) (w : World) : Calls Try.prog 19 #[.string s, .int .u8 c] w fun e w' => e = .returned (.int .i64 (Lib.indexByte s.data.toList c.toNat.toUInt8)) ∧ w' = w := by
  go_enter Try.func19, Try.ntmps19
  go_wp2
  rw [run_callFunc_extern Try.func20 (by kernel_rfl) (by kernel_rfl) (by kernel_rfl) (e := Extern.BytealgIndexByte.indexByte) (by kernel_rfl), Lib.run_indexByteString]
  simp only [Result.andThen]
  rw [Oper.upon_value]
  go_wp2
  go_ret
  exact ⟨rfl, rfl⟩
theorem sIdx_any (s : ByteArray) (c : Int) (w : World) : Calls Try.prog 18 #[.string s, .int .u8 c] w fun e w' => e = .returned (.int .i64 (Lib.indexByte s.data.toList c.toNat.toUInt8)) ∧ w' = w := by
  go_enter Try.func18, Try.ntmps18
  go_wp2_with (go_at_call 19; refine (lIdx_any _ _ _).mono ?_; rintro e w' ⟨rfl, rfl⟩)
  go_ret
  exact ⟨rfl, rfl⟩
theorem each256 {α : Type} [BEq α] [LawfulBEq α] {p q : Int → α} (h : ((List.range 256).all fun n => p (n : Int) == q (n : Int)) = true) : ∀ b, 0 ≤ b → b < 256 → p b = q b := by
  intro b h0 h1
  have := List.all_eq_true.1 h b.toNat (by simp; omega)
  have e : ((b.toNat : Nat) : Int) = b := by omega
  rw [e] at this
  exact eq_of_beq this
/-- what a byte behind a backslash says; -1: nothing -/
def escV (c : Int) : Int := if c = 34 then 34 else if c = 92 then 92 else if c = 110 then 10 else if c = 114 then 13 else if c = 116 then 9 else -1
theorem escaped_some (c : Int) (w : World) (h0 : 0 ≤ c) (h1 : c ≤ 255) (h : 0 ≤ escV c) : Calls Try.prog 15 #[.int .u8 c] w fun e w' => e = .returned (.tuple #[.int .u8 (escV c), .bool true]) ∧ w = w' := by
  have hc : c = 34 ∨ c = 92 ∨ c = 110 ∨ c = 114 ∨ c = 116 := by
    unfold escV at h
    split at h; · omega
    split at h; · omega
    split at h; · omega
    split at h; · omega
    split at h; · omega
    omega
  clear h
  rcases hc with rfl | rfl | rfl | rfl | rfl
  all_goals
    go_enter Try.func15, Try.ntmps15
    go_wp2
    go_ret2
    exact ⟨rfl, rfl⟩
theorem escaped_none (c : Int) (w : World) (h0 : 0 ≤ c) (h1 : c ≤ 255) (h : escV c < 0) : Calls Try.prog 15 #[.int .u8 c] w fun e w' => e = .returned (.tuple #[.int .u8 0, .bool false]) ∧ w = w' := by
  unfold escV at h
  have a1 : (c == 34) = false := beq_eq_false_iff_ne.2 fun e => by rw [if_pos e] at h; omega
  have a2 : (c == 92) = false := beq_eq_false_iff_ne.2 fun e => by subst e; simp at h
  have a3 : (c == 110) = false := beq_eq_false_iff_ne.2 fun e => by subst e; simp at h
  have a4 : (c == 114) = false := beq_eq_false_iff_ne.2 fun e => by subst e; simp at h
  have a5 : (c == 116) = false := beq_eq_false_iff_ne.2 fun e => by subst e; simp at h
  clear h
  go_enter Try.func15, Try.ntmps15
  go_wp2
  go_ret2
  exact ⟨rfl, rfl⟩
/-- what a small digit says; -1: it is none -/
def hexV (c : Int) : Int := if 48 ≤ c ∧ c ≤ 57 then c - 48 else if 97 ≤ c ∧ c ≤ 102 then c - 87 else -1
theorem hexV_range (c : Int) : -1 ≤ hexV c ∧ hexV c < 16 := by unfold hexV; split; omega; split <;> omega
theorem small_any (c : Int) (w : World) (h0 : 0 ≤ c) (h1 : c ≤ 255) : Calls Try.prog 16 #[.int .u8 c] w fun e w' => e = .returned (.int .i64 (hexV c)) ∧ w = w' := by
  have h : ∀ W, Calls Try.prog 18 #[.string ⟨#[48, 49, 50, 51, 52, 53, 54, 55, 56, 57, 97, 98, 99, 100, 101, 102]⟩, .int .u8 c] W fun e w' => e = .returned (.int .i64 (hexV c)) ∧ w' = W := fun W => by
    have h := sIdx_any ⟨#[48, 49, 50, 51, 52, 53, 54, 55, 56, 57, 97, 98, 99, 100, 101, 102]⟩ c W
    have e : Lib.indexByte (ByteArray.mk #[48, 49, 50, 51, 52, 53, 54, 55, 56, 57, 97, 98, 99, 100, 101, 102]).data.toList c.toNat.toUInt8 = hexV c := each256 (p := fun c => Lib.indexByte (ByteArray.mk #[48, 49, 50, 51, 52, 53, 54, 55, 56, 57, 97, 98, 99, 100, 101, 102]).data.toList c.toNat.toUInt8) (q := hexV) (by kernel_rfl) c h0 (by omega)
    rw [e] at h
    exact h
  go_enter Try.func16, Try.ntmps16
  go_wp2_with (go_at_call 18; (with_reducible refine (h _).mono ?_); rintro e w' ⟨rfl, rfl⟩)
  go_ret
  exact ⟨rfl, rfl⟩
theorem hex_any (c : Int) (w : World) (h0 : 0 ≤ c) (h1 : c ≤ 255) : Calls Try.prog 17 #[.int .u8 c] w fun e w' => e = .returned (.int .i64 (hexV c)) ∧ w = w' := by
  rcases (by omega : (0 ≤ c ∧ c ≤ 47) ∨ (48 ≤ c ∧ c ≤ 57) ∨ (58 ≤ c ∧ c ≤ 96) ∨ (97 ≤ c ∧ c ≤ 102) ∨ (103 ≤ c ∧ c ≤ 255)) with h | h | h | h | h <;> clear h0 h1
  all_goals
    obtain ⟨h0, h1⟩ := h
    first | have q3 : decide (c ≤ 57) = true := decide_eq_true (by omega) | have q3 : decide (c ≤ 57) = false := decide_eq_false (by omega)
    first | have q4 : decide (c ≤ 102) = true := decide_eq_true (by omega) | have q4 : decide (c ≤ 102) = false := decide_eq_false (by omega)
    go_enter Try.func17, Try.ntmps17
    go_wp2
    go_ret
    refine ⟨ret_int ?_, rfl⟩
    unfold hexV
    repeat (first | rw [if_pos (by omega)] | rw [if_neg (by omega)])
    all_goals omega
/-- the next byte of a quoted word that isn't at its end, and where the one behind it begins; none: it is wrong -/
def itemQ (s : ByteArray) (i : Int) : Option (Int × Int) :=
  if bt s i < 32 ∨ 126 < bt s i then none
  else if bt s i ≠ 92 then some (bt s i, i + 1)
  else if s.size ≤ i + 1 then none
  else if 0 ≤ escV (bt s (i + 1)) then some (escV (bt s (i + 1)), i + 2)
  else if bt s (i + 1) ≠ 120 ∨ s.size ≤ i + 3 ∨ hexV (bt s (i + 2)) < 0 ∨ hexV (bt s (i + 3)) < 0 then none
  else some (16 * hexV (bt s (i + 2)) + hexV (bt s (i + 3)), i + 4)
theorem itemQ_le {s : ByteArray} {i b j : Int} (h : itemQ s i = some (b, j)) (hi : i < s.size) (h0 : 0 ≤ i) : i < j ∧ j ≤ s.size ∧ 0 ≤ b ∧ b ≤ 255 := by
  have r0 := bt_range s i
  have r2 := hexV_range (bt s (i + 2))
  have r3 := hexV_range (bt s (i + 3))
  unfold itemQ at h
  split at h
  · cases h
  split at h
  · simp only [Option.some.injEq, Prod.mk.injEq] at h; omega
  split at h
  · cases h
  split at h
  · simp only [Option.some.injEq, Prod.mk.injEq] at h
    have : escV (bt s (i + 1)) ≤ 255 := by unfold escV; repeat' split
                                           all_goals omega
    omega
  split at h
  · cases h
  · simp only [Option.some.injEq, Prod.mk.injEq] at h; omega
/-- what a quoted word says from i on, and where what is behind its end begins -/
def qR (s : ByteArray) (i : Int) : Option (List Int × Int) :=
  if h : i < s.size then
    if bt s i = 34 then some ([], i + 1)
    else match itemQ s i with
      | none => none
      | some (b, j) => if h2 : i < j then (qR s j).map fun r => (b :: r.1, r.2) else none
  else none
termination_by (s.size - i).toNat
decreasing_by omega
theorem qR_out {s : ByteArray} {i : Int} (h : ¬ i < s.size) : qR s i = none := by rw [qR, dif_neg h]
theorem qR_end {s : ByteArray} {i : Int} (h : i < s.size) (h2 : bt s i = 34) : qR s i = some ([], i + 1) := by rw [qR, dif_pos h, if_pos h2]
theorem qR_bad {s : ByteArray} {i : Int} (h : i < s.size) (h2 : bt s i ≠ 34) (h3 : itemQ s i = none) : qR s i = none := by rw [qR, dif_pos h, if_neg h2, h3]
theorem qR_go {s : ByteArray} {i b j : Int} (h : i < s.size) (h0 : 0 ≤ i) (h2 : bt s i ≠ 34) (h3 : itemQ s i = some (b, j)) : qR s i = (qR s j).map fun r => (b :: r.1, r.2) := by
  have := (itemQ_le h3 h h0).1
  rw [qR, dif_pos h, if_neg h2, h3]
  simp only [dif_pos this]
/-- the state of a reader: what it has read, at i, of what is told in all -/
def QAt (s : ByteArray) (R : Option (List Int × Int)) (i : Int) (xs : List Int) : Prop := (qR s i).map (fun r => (xs ++ r.1, r.2)) = R ∧ (xs.length : Int) ≤ i
theorem QAt.start (s : ByteArray) (i : Int) (h0 : 0 ≤ i) : QAt s (qR s i) i [] := ⟨by simp, by simpa using h0⟩
theorem QAt.out {s : ByteArray} {R : Option (List Int × Int)} {i : Int} {xs : List Int} (h : QAt s R i xs) (hi : ¬ i < s.size) : R = none := by rw [← h.1, qR_out hi]; rfl
theorem QAt.fin {s : ByteArray} {R : Option (List Int × Int)} {i : Int} {xs : List Int} (h : QAt s R i xs) (hi : i < s.size) (h2 : bt s i = 34) : R = some (xs, i + 1) := by rw [← h.1, qR_end hi h2]; simp
theorem QAt.bad {s : ByteArray} {R : Option (List Int × Int)} {i : Int} {xs : List Int} (h : QAt s R i xs) (hi : i < s.size) (h2 : bt s i ≠ 34) (h3 : itemQ s i = none) : R = none := by rw [← h.1, qR_bad hi h2 h3]; rfl
theorem QAt.go {s : ByteArray} {R : Option (List Int × Int)} {i b j : Int} {xs : List Int} (h : QAt s R i xs) (hi : i < s.size) (h0 : 0 ≤ i) (h2 : bt s i ≠ 34) (h3 : itemQ s i = some (b, j)) : QAt s R j (xs ++ [b]) := by
  have hl := itemQ_le h3 hi h0
  refine ⟨?_, by have := h.2; rw [List.length_append, List.length_singleton]; omega⟩
  rw [← h.1, qR_go hi h0 h2 h3]
  cases qR s j <;> simp
end Go.Proofs.Ytjfdbdjcceecjaa
