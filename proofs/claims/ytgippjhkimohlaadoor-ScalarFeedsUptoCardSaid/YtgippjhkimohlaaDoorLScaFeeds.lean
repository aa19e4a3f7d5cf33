/- ScalarFeeds: the walk. -/
import Derived.Test.YtgippjhkimohlaaDoorFedW
set_option linter.unusedVariables false
set_option linter.unusedSimpArgs false
namespace Go.Proofs.YtgippjhkimohlaaDoor
open Go.RowKit Go.Proofs.YtgippjhkimohlaaDoorW.PrintWords Go.Proofs.YtgippjhkimohlaaDoorW.PrintLast
theorem feed_nil (p : ByteArray) (w : World) : Calls Tryd.prog 39 #[.pointer none, .string p] w fun e w' => e = .returned (.slice none 0 0) ∧ w = w' := by
  go_enter Tryd.func39, Tryd.ntmps39
  go_wp2
  go_ret
  exact ⟨rfl, rfl⟩
theorem end_nil (w : World) : Calls Tryd.prog 40 #[.pointer none] w fun e w' => e = .returned (.slice none 0 0) ∧ w = w' := by
  go_enter Tryd.func40, Tryd.ntmps40
  go_wp2
  go_ret
  exact ⟨rfl, rfl⟩
theorem held_nil (w : World) : Calls Tryd.prog 44 #[.pointer none] w fun e w' => e = .returned (.string (⟨#[]⟩ : ByteArray)) ∧ w = w' := by
  go_enter Tryd.func44, Tryd.ntmps44
  go_wp2
  go_ret
  exact ⟨rfl, rfl⟩
theorem reads_strs_below {w w' : World} {A : Option Addr} {n : Nat} {l : List ByteArray} (h : ReadsOf Value.string ByteArray.empty w A n l) (hb : Below w.heap.size w w') : ReadsOf Value.string ByteArray.empty w' A n l := h.below hb
set_option maxRecDepth 100000 in
set_option maxHeartbeats 4000000 in
theorem scalarFeeds_any (l m : List ByteArray) (Ap Bp : Option Addr) (cp dp : Nat) (w : World) (hR : ReadsOf Value.string ByteArray.empty w Ap l.length l) (hQ : ReadsOf Value.string ByteArray.empty w Bp m.length m) (hs : sizeS l ≤ 1048576) (hn : l.length ≤ 1048576) (hs2 : sizeS m ≤ 1048576) (hn2 : m.length ≤ 1048576) (T : Tabs w) :
    Calls Tryd.prog 11 #[.slice Ap l.length cp, .slice Bp m.length dp] w fun e w' => e = .returned (.bool true) ∧ Below w.heap.size w w' := by
  obtain ⟨g, hg⟩ : ∃ g, w.heap.size = g := ⟨_, rfl⟩
  have Haw := Lib.hid (fun W (h : Below w.heap.size w W) => awake_any W (Utf8Tabs_below T h))
  have Hf1 := Lib.hid (fun W hB hL => fed_any l Ap cp g w W hR hs hn hB hL (Nat.le_of_eq hg) T)
  have Hf2 := Lib.hid (fun W hB hL => fed_any m Bp dp g w W hQ hs2 hn2 hB hL (Nat.le_of_eq hg) T)
  have HR := Lib.hid hR
  clear hR hQ
  have hnew := Blk.new w 102 #[.string ByteArray.empty]
  have hbel := below_one w (.cells #[.string ByteArray.empty] 102)
  rw [hg] at hnew
  have Hg := Lib.hid hg
  go_enter Tryd.func11, Tryd.ntmps11
  go_wp2_with (first
    | (go_at_call 38; (with_reducible refine (NewDecoder_any _).mono ?_); rintro e w1 ⟨rfl, rfl⟩)
    | (go_at_call 17; (with_reducible refine (Haw.out _ hbel).mono ?_); rintro e w2 ⟨rfl, hb2⟩; have hB2 := (fun h => Blk.after h hb2) hnew; have hL2 := below_after hbel hb2)
    | (go_at_call 43; (first
        | ((with_reducible refine (Hf1.out _ hB2 hL2).mono ?_); rintro e w3 ⟨rfl, hB3, hL3⟩)
        | ((with_reducible refine (Hf2.out _ hB3 hL3).mono ?_); rintro e w4 ⟨rfl, hB4, hL4⟩))))
  go_loopw [26] (fun i wr => ∃ k : Nat, i = .int .i64 (k : Int) ∧ k ≤ l.length ∧ wr = w4) (fun i _ => l.length - (intOf i).toNat)
  case atStart => exact ⟨0, rfl, by omega, by first | rfl | trivial⟩
  case round =>
    obtain ⟨k, rfl, hk, rfl⟩ := hrel
    by_cases hlt : k < l.length
    · obtain ⟨ad, rfl, c0⟩ := (HR.out.below hL4).at_ k (by omega) (by omega)
      simp only [rdOf, Int.toNat_natCast] at c0
      go_wp2_with (go_at_call 39; (with_reducible refine (feed_nil _ _).mono ?_); rintro e w5 ⟨rfl, rfl⟩)
      exact ⟨⟨k + 1, rfl, by omega, by first | rfl | trivial⟩, by simp [intOf]; omega⟩
    · obtain rfl : k = l.length := by omega
      go_wp2_with (first
        | (go_at_call 40; (with_reducible refine (end_nil _).mono ?_); rintro e w5 ⟨rfl, rfl⟩)
        | (go_at_call 44; (with_reducible refine (held_nil _).mono ?_); rintro e w6 ⟨rfl, rfl⟩))
      go_ret
      exact ⟨by first | rfl | simp, hL4⟩
end Go.Proofs.YtgippjhkimohlaaDoor
