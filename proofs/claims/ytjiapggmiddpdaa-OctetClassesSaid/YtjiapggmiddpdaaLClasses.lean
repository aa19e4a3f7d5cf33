/- OctetClasses: the walk of the statement. -/
import Derived.Test.YtjiapggmiddpdaaOctB
set_option linter.unusedVariables false
set_option linter.unusedSimpArgs false
namespace Go.Proofs.Ytjiapggmiddpdaa
open Go.RowKit Go.Proofs.YtjiapggmiddpdaaW.PrintWords Go.Proofs.YtjiapggmiddpdaaW.PrintLast
/-- all classes of the first k bytes put together -/
def ofK (s : ByteArray) : Nat → Int
  | 0 => 0
  | k + 1 => bits .or .i64 (ofK s k) (cls (bt s k))
theorem ofK_zero (s : ByteArray) : ofK s 0 = 0 := by simp only [ofK]
theorem ofK_succ (s : ByteArray) (k : Nat) : ofK s (k + 1) = bits .or .i64 (ofK s k) (cls (bt s k)) := by simp only [ofK]
theorem ofK_step (s : ByteArray) (k : Int) (h : 0 ≤ k) : ofK s (k + 1).toNat = bits .or .i64 (ofK s k.toNat) (cls (bt s k)) := by
  obtain ⟨n, rfl⟩ := Int.eq_ofNat_of_zero_le h
  exact ofK_succ s n
theorem of_any (s : ByteArray) (w : World) (hs : s.size ≤ 140737488351232) : Calls Try.prog 17 #[.string s] w fun e w' => e = .returned (.int .i64 (ofK s s.size)) ∧ w = w' := by
  go_enter Try.func17, Try.ntmps17
  go_wp2
  go_loop [3, 7] (fun u v => ∃ k : Int, 0 ≤ k ∧ k ≤ s.size ∧ v = .int .i64 k ∧ u = .int .i64 (ofK s k.toNat)) (fun _ v => s.size - (intOf v).toNat)
  case atStart => exact ⟨0, by omega, by omega, rfl, by rw [show (0 : Int).toNat = 0 from rfl, ofK_zero]⟩
  case round =>
    obtain ⟨k, hk0, hk, rfl, rfl⟩ := hrel
    by_cases hlt : k < s.size
    · have hbt := bt_at s k
      have hbr := bt_range s k
      go_wp2_with (go_at_call 15; refine (class_any _ _ hbr.1 hbr.2).mono ?_; rintro e w' ⟨rfl, rfl⟩)
      go_round
      case rel => exact ⟨k + 1, by omega, by omega, rfl, by rw [ofK_step s k hk0]⟩
      case measure => simp [intOf]; omega
    · obtain rfl : k = s.size := by omega
      go_wp2
      go_ret
      exact ⟨rfl, rfl⟩
theorem rof_any (s : ByteArray) (w : World) (hs : s.size ≤ 140737488351232) : Calls Try.prog 18 #[.string s] w fun e w' => e = .returned (.int .i64 (ofK s s.size)) ∧ w = w' := by
  go_enter Try.func18, Try.ntmps18
  go_wp2
  go_loop [3, 4] (fun u v => ∃ k : Int, 0 ≤ k ∧ k ≤ s.size ∧ v = .int .i64 k ∧ u = .int .i64 (ofK s k.toNat)) (fun _ v => s.size - (intOf v).toNat)
  case atStart => exact ⟨0, by omega, by omega, rfl, by rw [show (0 : Int).toNat = 0 from rfl, ofK_zero]⟩
  case round =>
    obtain ⟨k, hk0, hk, rfl, rfl⟩ := hrel
    by_cases hlt : k < s.size
    · have hbt := bt_at s k
      have hbr := bt_range s k
      go_wp2_with (go_at_call 16; refine (rclass_any _ _ hbr.1 hbr.2).mono ?_; rintro e w' ⟨rfl, rfl⟩)
      go_round
      case rel => exact ⟨k + 1, by omega, by omega, rfl, by rw [ofK_step s k hk0]⟩
      case measure => simp [intOf]; omega
    · obtain rfl : k = s.size := by omega
      go_wp2
      go_ret
      exact ⟨rfl, rfl⟩
theorem fold_any (s t : ByteArray) (w : World) (hs : s.size ≤ 140737488351232) (ht : t.size ≤ 140737488351232) : Calls Try.prog 23 #[.string s, .string t] w fun e w' => e = .returned (.bool ((lowS s).toList == (lowS t).toList)) ∧ Below w.heap.size w w' := by
  go_enter Try.func23, Try.ntmps23
  have hb : Below w.heap.size w w := Below.refl _ _
  go_wp2_with (go_at_call 19; refine (Lower_any _ _ (by omega)).mono ?_; rintro e w1 ⟨rfl, hb1⟩; replace hb := below_after hb hb1; clear hb1)
  go_ret
  exact ⟨rfl, hb⟩
set_option maxHeartbeats 4000000 in
theorem octetClasses_any (s t : ByteArray) (w : World) (hs : s.size ≤ 140737488351232) (ht : t.size ≤ 140737488351232) :
    Calls Try.prog 4 #[.string s, .string t] w fun e w' => e = .returned (.bool true) ∧ Below w.heap.size w w' := by
  go_enter Try.func4, Try.ntmps4
  go_wp2
  go_loopw [5] (fun v wr => ∃ k : Int, v = .int .i64 k ∧ 0 ≤ k ∧ k ≤ s.size ∧ Below w.heap.size w wr) (fun v _ => s.size - (intOf v).toNat)
  case atStart => exact ⟨0, rfl, by omega, by omega, Below.refl _ _⟩
  case round =>
    obtain ⟨k, rfl, hk0, hk1, hbel⟩ := hrel
    by_cases hlt : k < s.size
    · have hbt := bt_at s k
      have hbr := bt_range s k
      go_upto_region 4 with (fail)
      go_quiet ((first | (go_at_call 15; exact Calls.quiet_of_same ((class_any _ _ hbr.1 hbr.2).mono fun _ _ h => ⟨h.1, h.2.symm⟩)) | (go_at_call 16; exact Calls.quiet_of_same ((rclass_any _ _ hbr.1 hbr.2).mono fun _ _ h => ⟨h.1, h.2.symm⟩))))
      go_wp2
      exact ⟨⟨k + 1, rfl, by omega, by omega, below_drewN hbel _⟩, by simp [intOf]; omega⟩
    · go_wp2_with (first
        | (go_at_call 11; refine (awake_any _).mono ?_; rintro e w1 ⟨rfl, rfl⟩)
        | (go_at_call 17; refine (of_any _ _ (by omega)).mono ?_; rintro e w1 ⟨rfl, rfl⟩)
        | (go_at_call 18; refine (rof_any _ _ (by omega)).mono ?_; rintro e w1 ⟨rfl, rfl⟩)
        | (go_at_call 19; refine (Lower_any _ _ (by omega)).mono ?_; rintro e w1 ⟨rfl, hb⟩; replace hbel := below_after hbel hb; clear hb)
        | (go_at_call 20; refine (RLower_any _ _ (by omega)).mono ?_; rintro e w1 ⟨rfl, hb⟩; replace hbel := below_after hbel hb; clear hb)
        | (go_at_call 21; refine (Upper_any _ _ (by omega)).mono ?_; rintro e w1 ⟨rfl, hb⟩; replace hbel := below_after hbel hb; clear hb)
        | (go_at_call 22; refine (RUpper_any _ _ (by omega)).mono ?_; rintro e w1 ⟨rfl, hb⟩; replace hbel := below_after hbel hb; clear hb)
        | (go_at_call 23; refine (fold_any _ _ _ (by omega) (by omega)).mono ?_; rintro e w1 ⟨rfl, hb⟩; replace hbel := below_after hbel hb; clear hb))
      go_ret
      exact ⟨rfl, hbel⟩
end Go.Proofs.Ytjiapggmiddpdaa
