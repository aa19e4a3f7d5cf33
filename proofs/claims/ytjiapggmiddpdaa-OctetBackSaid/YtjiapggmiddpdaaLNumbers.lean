/- OctetNumbers: the walk of the statement. -/
import Derived.Test.YtjiapggmiddpdaaOctK
set_option linter.unusedVariables false
set_option linter.unusedSimpArgs false
namespace Go.Proofs.Ytjiapggmiddpdaa
open Go.RowKit Go.Proofs.YtjiapggmiddpdaaW.PrintWords Go.Proofs.YtjiapggmiddpdaaW.PrintLast
def prS (n base : Int) : ByteArray := if base < 2 ∨ 36 < base then ⟨#[]⟩ else strOfNums (lowD base 64 n).reverse
def prE (base : Int) : Int := if base < 2 ∨ 36 < base then 11 else 0
theorem print_all (n base : Int) (w : World) (hn : U64 n) : Calls Try.prog 34 #[.int .u64 n, .int .i64 base] w fun e w' => e = .returned (.tuple #[.string (prS n base), .int .i64 (prE base)]) ∧ Below w.heap.size w w' := by
  by_cases hb : base < 2 ∨ 36 < base
  · unfold prS prE
    rw [if_pos hb, if_pos hb]
    exact print_bad n base w hb
  · unfold prS prE
    rw [if_neg hb, if_neg hb]
    exact print_any n base w hn (by omega) (by omega)
theorem rprint_all (n base : Int) (w : World) (hn : U64 n) : Calls Try.prog 37 #[.int .u64 n, .int .i64 base] w fun e w' => e = .returned (.tuple #[.string (prS n base), .int .i64 (prE base)]) ∧ w' = w := by
  by_cases hb : base < 2 ∨ 36 < base
  · unfold prS prE
    rw [if_pos hb, if_pos hb]
    exact rprint_bad n base w hb
  · unfold prS prE
    rw [if_neg hb, if_neg hb]
    exact rprint_any n base w hn (by omega) (by omega)
set_option maxRecDepth 100000 in
set_option maxHeartbeats 8000000 in
theorem octetNumbers_any (s : ByteArray) (base n : Int) (w : World) (hs : s.size ≤ 140737488351232) (hn : U64 n) :
    Calls Try.prog 9 #[.string s, .int .i64 base, .int .u64 n] w fun e w' => e = .returned (.bool true) ∧ Below w.heap.size w w' := by
  have hbel : Below w.heap.size w w := Below.refl _ _
  have hn0 := hn.1
  have hn1 := hn.2
  go_enter Try.func9, Try.ntmps9
  go_wp2_with (first
    | (go_at_call 35; refine (number_any _ _ _ (by omega)).mono ?_; rintro e w1 ⟨a, i, c, hN, rfl, rfl⟩; have HN := Lib.hid hN; clear hN)
    | (go_at_call 36; refine (rnumber_any _ _ _ (by omega)).mono ?_; rintro e w1 ⟨b, j, f, hM, rfl, rfl⟩; obtain ⟨rfl, rfl, rfl⟩ := HN.out.unique hM; clear HN hM)
    | (go_at_call 34; refine (print_all _ _ _ hn).mono ?_; rintro e w1 ⟨rfl, hb1⟩; replace hbel := below_after hbel hb1; clear hb1)
    | (go_at_call 37; refine (rprint_all _ _ _ hn).mono ?_; rintro e w1 ⟨rfl, rfl⟩)
    | (go_at_call 11; refine (awake_any _).mono ?_; rintro e w1 ⟨rfl, rfl⟩)
    | (go_at_call 38; refine (digit_any _ _ _ (by omega) (by omega)).mono ?_; rintro e w1 ⟨rfl, rfl⟩)
    | (go_at_call 39; refine (rdigit_any _ _ _ (by omega) (by omega)).mono ?_; rintro e w1 ⟨rfl, rfl⟩)
    | (go_at_call 40; refine (hex_any _ _ (by omega) (by omega)).mono ?_; rintro e w1 ⟨rfl, hb1⟩; replace hbel := below_after hbel hb1; clear hb1)
    | (go_at_call 41; refine (rhex_any _ _ (by omega) (by omega)).mono ?_; rintro e w1 ⟨rfl, hb1⟩; replace hbel := below_after hbel hb1; clear hb1))
  go_ret
  exact ⟨rfl, hbel⟩
end Go.Proofs.Ytjiapggmiddpdaa
