/- Scalar: the first piece of a text, by the program. -/
import Derived.Test.YtgippjhkimohlaaDoorScaE
import Derived.Test.YtgippjhkimohlaaDoorShelf
set_option linter.unusedVariables false
set_option linter.unusedSimpArgs false
namespace Go.Proofs.YtgippjhkimohlaaDoor
open Go.RowKit Go.Proofs.YtgippjhkimohlaaDoorW.PrintWords Go.Proofs.YtgippjhkimohlaaDoorW.PrintLast
/-- the two tables of Go's library lie as its text lays them -/
abbrev Tabs (w : World) : Prop := Lib.Utf8Tabs 0 1 w
def bgM (c : Int) : Int := if bgN c = 0 then 0 else bgN c - 1
set_option maxHeartbeats 1000000 in
theorem second_any (c : Int) (w : World) (h : 128 ≤ c ∧ c ≤ 255) : Calls Tryd.prog 76 #[.int .u8 c] w fun e w' => e = .returned (.tuple #[.int .u8 (bgLo c), .int .u8 (bgHi c), .int .i64 (bgM c)]) ∧ w' = w := by
  obtain ⟨x, hx⟩ : ∃ x, bgLo c = x := ⟨_, rfl⟩
  obtain ⟨y, hy⟩ : ∃ y, bgHi c = y := ⟨_, rfl⟩
  obtain ⟨z, hz⟩ : ∃ z, bgM c = z := ⟨_, rfl⟩
  rw [hx, hy, hz]
  have key : ∀ a b d : Int, (bgLo c = a ∧ bgHi c = b ∧ bgM c = d) → x = a ∧ y = b ∧ z = d := fun a b d ⟨h1, h2, h3⟩ => ⟨hx.symm.trans h1, hy.symm.trans h2, hz.symm.trans h3⟩
  have Key := Lib.hid key
  clear key hx hy hz
  go_enter Tryd.func76, Tryd.ntmps76
  go_wp2
  all_goals go_ret3
  all_goals
    refine ⟨?_, rfl⟩
    have fin : ∀ a b d : Int, (bgLo c = a ∧ bgHi c = b ∧ bgM c = d) → Ending.returned (.tuple #[.int .u8 a, .int .u8 b, .int .i64 d]) = .returned (.tuple #[.int .u8 x, .int .u8 y, .int .i64 z]) := fun a b d hh => by obtain ⟨rfl, rfl, rfl⟩ := Key.out a b d hh; rfl
    refine fin _ _ _ ?_
    try simp only [beq_iff_eq, beq_eq_false_iff_ne, ne_eq] at *
    refine ⟨?_, ?_, ?_⟩
    · unfold bgLo
      repeat' split
      all_goals omega
    · unfold bgHi
      repeat' split
      all_goals omega
    · unfold bgM bgN
      repeat' split
      all_goals omega
end Go.Proofs.YtgippjhkimohlaaDoor
