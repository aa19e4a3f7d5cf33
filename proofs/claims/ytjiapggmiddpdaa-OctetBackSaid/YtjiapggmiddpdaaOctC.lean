/- Package octet: the class of a byte, and the document's; the statements' own awake. -/
import Derived.Test.YtjiapggmiddpdaaBase
set_option linter.unusedVariables false
set_option linter.unusedSimpArgs false
namespace Go.Proofs.Ytjiapggmiddpdaa
open Go.RowKit Go.Proofs.YtjiapggmiddpdaaW.PrintWords Go.Proofs.YtjiapggmiddpdaaW.PrintLast
/-- the class of a byte -/
def cls (b : Int) : Int :=
  if 48 ≤ b ∧ b ≤ 57 then 9 else if 65 ≤ b ∧ b ≤ 70 then 10 else if 97 ≤ b ∧ b ≤ 102 then 12 else if 65 ≤ b ∧ b ≤ 90 then 2 else if 97 ≤ b ∧ b ≤ 122 then 4
  else if b < 32 ∨ b = 127 then 16 else if 127 < b then 32 else if b = 32 then 128 else 64
set_option maxHeartbeats 4000000 in
theorem class_any (b : Int) (w : World) (h0 : 0 ≤ b) (h1 : b ≤ 255) : Calls Try.prog 15 #[.int .u8 b] w fun e w' => e = .returned (.int .i64 (cls b)) ∧ w = w' := by
  go_enter Try.func15, Try.ntmps15
  go_wp2
  all_goals
    go_ret
    refine ⟨ret_int ?_, rfl⟩
    try simp only [beq_iff_eq, beq_eq_false_iff_ne, ne_eq] at *
    unfold cls
    repeat (first | rw [if_pos (by omega)] | rw [if_neg (by omega)])
    all_goals omega
theorem byte_ranges (b : Int) (h0 : 0 ≤ b) (h1 : b ≤ 255) : (0 ≤ b ∧ b ≤ 31) ∨ (32 ≤ b ∧ b ≤ 32) ∨ (33 ≤ b ∧ b ≤ 47) ∨ (48 ≤ b ∧ b ≤ 57) ∨ (58 ≤ b ∧ b ≤ 64) ∨ (65 ≤ b ∧ b ≤ 70) ∨ (71 ≤ b ∧ b ≤ 90) ∨ (91 ≤ b ∧ b ≤ 96) ∨ (97 ≤ b ∧ b ≤ 102) ∨ (103 ≤ b ∧ b ≤ 122) ∨ (123 ≤ b ∧ b ≤ 126) ∨ (127 ≤ b ∧ b ≤ 127) ∨ (128 ≤ b ∧ b ≤ 255) := by omega
set_option maxHeartbeats 8000000 in
set_option maxRecDepth 100000 in
theorem rclass_any (b : Int) (w : World) (h0 : 0 ≤ b) (h1 : b ≤ 255) : Calls Try.prog 16 #[.int .u8 b] w fun e w' => e = .returned (.int .i64 (cls b)) ∧ w = w' := by
  rcases byte_ranges b h0 h1 with h | h | h | h | h | h | h | h | h | h | h | h | h <;> clear h0 h1
  all_goals
    obtain ⟨h0, h1⟩ := h
    first | have q1 : (b == 127) = true := beq_iff_eq.2 (by omega) | have q1 : (b == 127) = false := beq_eq_false_iff_ne.2 (by omega)
    first | have q2 : (b == 32) = true := beq_iff_eq.2 (by omega) | have q2 : (b == 32) = false := beq_eq_false_iff_ne.2 (by omega)
    first | have q3 : decide (b ≤ 57) = true := decide_eq_true (by omega) | have q3 : decide (b ≤ 57) = false := decide_eq_false (by omega)
    first | have q4 : decide (b ≤ 90) = true := decide_eq_true (by omega) | have q4 : decide (b ≤ 90) = false := decide_eq_false (by omega)
    first | have q5 : decide (b ≤ 122) = true := decide_eq_true (by omega) | have q5 : decide (b ≤ 122) = false := decide_eq_false (by omega)
    go_enter Try.func16, Try.ntmps16
    go_wp2
    go_ret
    refine ⟨ret_int ?_, rfl⟩
    unfold cls
    repeat (first | rw [if_pos (by omega)] | rw [if_neg (by omega)])
    all_goals omega
theorem awake_any (w : World) : Calls Try.prog 11 #[] w fun e w' => e = .returned (.bool true) ∧ w = w' := by
  go_enter Try.func11, Try.ntmps11
  go_wp2_with (go_at_call 15; refine (class_any _ _ (by omega) (by omega)).mono ?_; rintro e w' ⟨rfl, rfl⟩)
  go_ret
  exact ⟨by rw [show cls 97 = 12 from rfl]; rfl, rfl⟩
end Go.Proofs.Ytjiapggmiddpdaa
