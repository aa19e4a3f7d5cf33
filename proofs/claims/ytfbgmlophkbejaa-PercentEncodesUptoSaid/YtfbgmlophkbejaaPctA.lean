/- Percent: coded bytes, the document's side: coded, says. -/
import Derived.Test.YtfbgmlophkbejaaDigA
set_option linter.unusedVariables false
set_option linter.unusedSimpArgs false
namespace Go.Proofs.Ytfbgmlophkbejaa
open Go.RowKit Go.Proofs.YtfbgmlophkbejaaW.PrintWords Go.Proofs.YtfbgmlophkbejaaW.PrintLast
/-- a coded byte stands at k -/
def isC (s : ByteArray) (k : Int) : Bool := decide (k + 2 < s.size) && (bt s k == 37) && decide (0 ≤ dig (bt s (k + 1)) 16) && decide (0 ≤ dig (bt s (k + 2)) 16)
/-- what it says -/
def sayC (s : ByteArray) (k : Int) : Int := 16 * dig (bt s (k + 1)) 16 + dig (bt s (k + 2)) 16
theorem dig16 (b : Int) : -1 ≤ dig b 16 ∧ dig b 16 < 16 := by
  unfold dig d36
  rw [if_neg (by omega)]
  repeat' split
  all_goals omega
theorem rcoded_any (s : ByteArray) (k : Int) (w : World) (hs : s.size ≤ 140737488351232) (h0 : 0 ≤ k) (h1 : k < s.size) : Calls Try.prog 24 #[.string s, .int .i64 k] w fun e w' => e = .returned (.bool (isC s k)) ∧ w' = w := by
  have b0 := bt_at s k
  have r0 := bt_range s k
  have b1 := bt_at s (k + 1)
  have r1 := bt_range s (k + 1)
  have b2 := bt_at s (k + 2)
  have r2 := bt_range s (k + 2)
  unfold isC
  by_cases hl : k + 2 < s.size
  · rw [decide_eq_true hl, Bool.true_and]
    cases hp : (bt s k == 37)
    · rw [Bool.false_and, Bool.false_and]
      go_enter Try.func24, Try.ntmps24
      go_wp2
      go_ret
      exact ⟨rfl, rfl⟩
    · rw [Bool.true_and]
      by_cases hd : 0 ≤ dig (bt s (k + 1)) 16
      · rw [decide_eq_true hd, Bool.true_and]
        go_enter Try.func24, Try.ntmps24
        go_wp2_with (go_at_call 31; first | (with_reducible refine (rdigit_any (bt s (k + 1)) 16 _ r1.1 r1.2).mono ?_; rintro e w' ⟨rfl, rfl⟩) | (with_reducible refine (rdigit_any (bt s (k + 2)) 16 _ r2.1 r2.2).mono ?_; rintro e w' ⟨rfl, rfl⟩))
        go_ret
        exact ⟨rfl, rfl⟩
      · rw [decide_eq_false hd, Bool.false_and]
        go_enter Try.func24, Try.ntmps24
        go_wp2_with (go_at_call 31; with_reducible refine (rdigit_any (bt s (k + 1)) 16 _ r1.1 r1.2).mono ?_; rintro e w' ⟨rfl, rfl⟩)
        go_ret
        exact ⟨rfl, rfl⟩
  · rw [decide_eq_false hl, Bool.false_and, Bool.false_and, Bool.false_and]
    go_enter Try.func24, Try.ntmps24
    go_wp2
    go_ret
    exact ⟨rfl, rfl⟩
theorem rsays_any (s : ByteArray) (k : Int) (w : World) (hs : s.size ≤ 140737488351232) (h0 : 0 ≤ k) (h1 : isC s k = true) : Calls Try.prog 25 #[.string s, .int .i64 k] w fun e w' => e = .returned (.int .u8 (sayC s k)) ∧ Below w.heap.size w w' := by
  unfold isC at h1
  simp only [Bool.and_eq_true, decide_eq_true_eq] at h1
  obtain ⟨⟨⟨hl, _⟩, d1⟩, d2⟩ := h1
  have b1 := bt_at s (k + 1)
  have r1 := bt_range s (k + 1)
  have b2 := bt_at s (k + 2)
  have r2 := bt_range s (k + 2)
  have e1 := dig16 (bt s (k + 1))
  have e2 := dig16 (bt s (k + 2))
  unfold sayC
  go_enter Try.func25, Try.ntmps25
  go_upto_region 1 with (fail)
  go_quiet ((first | (go_at_call 31; with_reducible exact Calls.quiet_of_same (rdigit_any (bt s (k + 1)) 16 _ r1.1 r1.2)) | (go_at_call 31; with_reducible exact Calls.quiet_of_same (rdigit_any (bt s (k + 2)) 16 _ r2.1 r2.2))))
  go_wp2
  go_ret
  exact ⟨rfl, below_drewN (Below.refl _ _) _⟩
end Go.Proofs.Ytfbgmlophkbejaa
