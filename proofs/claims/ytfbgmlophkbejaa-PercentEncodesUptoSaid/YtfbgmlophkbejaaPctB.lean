/- Percent: the program's coded. -/
import Derived.Test.YtfbgmlophkbejaaPctA
set_option linter.unusedVariables false
set_option linter.unusedSimpArgs false
namespace Go.Proofs.Ytfbgmlophkbejaa
open Go.RowKit Go.Proofs.YtfbgmlophkbejaaW.PrintWords Go.Proofs.YtfbgmlophkbejaaW.PrintLast
/-- what percent.coded tells of the front of a text -/
def CodedAt (t : ByteArray) (w : World) (e : Ending) (w' : World) : Prop := ∃ v : Int, (isC t 0 = true → v = sayC t 0) ∧ e = .returned (.tuple #[.int .u8 v, .bool (isC t 0)]) ∧ Below w.heap.size w w'
theorem or16 (a b : Int) (ha : -1 ≤ a ∧ a < 16) (hb : -1 ≤ b ∧ b < 16) (h : 0 ≤ a ∧ 0 ≤ b) : IntKind.u8.wrap (bits BinOp.or IntKind.i64 (a * 16) b) = 16 * a + b := by
  have key : ∀ i : Nat, i < 16 → ∀ j : Nat, j < 16 → IntKind.u8.wrap (bits BinOp.or IntKind.i64 ((i : Int) * 16) (j : Int)) = 16 * (i : Int) + (j : Int) := by decide +kernel
  obtain ⟨i, rfl⟩ := Int.eq_ofNat_of_zero_le h.1
  obtain ⟨j, rfl⟩ := Int.eq_ofNat_of_zero_le h.2
  exact key i (by omega) j (by omega)
set_option maxHeartbeats 4000000 in
theorem coded_any (t : ByteArray) (w : World) (hs : t.size ≤ 140737488351232) : Calls Try.prog 39 #[.string t] w (CodedAt t w) := by
  by_cases hl : t.size < 3
  · have hc : isC t 0 = false := by unfold isC; rw [decide_eq_false (by omega)]; rfl
    have hr : ∀ w' : World, Below w.heap.size w w' → CodedAt t w (.returned (.tuple #[.int .u8 0, .bool false])) w' := fun w' h => ⟨0, fun h => (by rw [hc] at h; cases h), by rw [hc], h⟩
    have Hr := Lib.hid hr
    clear hr hc
    go_enter Try.func39, Try.ntmps39
    go_wp2
    go_ret2
    exact Hr.out _ (Below.refl _ _)
  · have b0 := bt_at t 0
    have r0 := bt_range t 0
    have b1 := bt_at t 1
    have r1 := bt_range t 1
    have b2 := bt_at t 2
    have r2 := bt_range t 2
    simp only [show (0 : Int).toNat = 0 from rfl, show (1 : Int).toNat = 1 from rfl, show (2 : Int).toNat = 2 from rfl] at b0 b1 b2
    cases hp : (bt t 0 == 37)
    · have hp2 : (bt t 0 != 37) = true := by simp [bne, hp]
      have hc : isC t 0 = false := by unfold isC; rw [hp]; simp
      have hr : ∀ w' : World, Below w.heap.size w w' → CodedAt t w (.returned (.tuple #[.int .u8 0, .bool false])) w' := fun w' h => ⟨0, fun h => (by rw [hc] at h; cases h), by rw [hc], h⟩
      have Hr := Lib.hid hr
      clear hr hc
      go_enter Try.func39, Try.ntmps39
      go_wp2
      go_ret2
      exact Hr.out _ (Below.refl _ _)
    · have hp2 : (bt t 0 != 37) = false := by simp [bne, hp]
      have e1 := dig16 (bt t 1)
      have e2 := dig16 (bt t 2)
      have ho := or16 (dig (bt t 1) 16) (dig (bt t 2) 16) e1 e2
      have hc : isC t 0 = (decide (0 ≤ dig (bt t 1) 16) && decide (0 ≤ dig (bt t 2) 16)) := by unfold isC; rw [hp, decide_eq_true (by omega)]; rfl
      have hsay : sayC t 0 = 16 * dig (bt t 1) 16 + dig (bt t 2) 16 := rfl
      have hr : ∀ (v : Int) (w' : World), (0 ≤ dig (bt t 1) 16 ∧ 0 ≤ dig (bt t 2) 16 → v = 16 * dig (bt t 1) 16 + dig (bt t 2) 16) → Below w.heap.size w w' → CodedAt t w (.returned (.tuple #[.int .u8 v, .bool (decide (0 ≤ dig (bt t 1) 16) && decide (0 ≤ dig (bt t 2) 16))])) w' := fun v w' h hb => ⟨v, fun g => by rw [hc] at g; simp at g; rw [hsay]; exact h g, by rw [hc], hb⟩
      have Hr := Lib.hid hr
      have Ho := Lib.hid ho
      clear hr hc hsay ho
      have n1 : 1 < t.size := by omega
      have n2 : 2 < t.size := by omega
      replace b1 := b1 n1
      replace b2 := b2 n2
      go_enter Try.func39, Try.ntmps39
      go_upto_region 3 with (fail)
      go_quiet ((first | (go_at_call 40; with_reducible exact Calls.quiet_of_same (digit_any (bt t 1) 16 _ r1.1 r1.2)) | (go_at_call 40; with_reducible exact Calls.quiet_of_same (digit_any (bt t 2) 16 _ r2.1 r2.2))))
      by_cases h1 : 0 ≤ dig (bt t 1) 16
      · go_wp2
        go_ret2
        have hfin : ∀ W : World, Below w.heap.size w W → CodedAt t w (.returned (.tuple #[.int .u8 (bits BinOp.or IntKind.i64 (dig (bt t 1) 16 * 16) (dig (bt t 2) 16) % 256), .bool (decide (0 ≤ dig (bt t 2) 16))])) W := fun W hW => by
          have := Hr.out (bits BinOp.or IntKind.i64 (dig (bt t 1) 16 * 16) (dig (bt t 2) 16) % 256) W (fun h => by have := Ho.out h; rw [IntKind.wrap_u8] at this; exact this) hW
          rw [decide_eq_true h1, Bool.true_and] at this
          exact this
        exact hfin _ (below_drewN (Below.refl _ _) _)
      · have hr2 : ∀ (v : Int) (w' : World), Below w.heap.size w w' → CodedAt t w (.returned (.tuple #[.int .u8 v, .bool false])) w' := fun v w' hb => by
          have := Hr.out v w' (fun h => absurd h.1 h1) hb
          rw [decide_eq_false h1, Bool.false_and] at this
          exact this
        have Hr2 := Lib.hid hr2
        clear hr2
        go_wp2
        go_ret2
        exact Hr2.out _ _ (below_drewN (Below.refl _ _) _)
end Go.Proofs.Ytfbgmlophkbejaa
