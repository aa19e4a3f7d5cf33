/- Percent: Strict, the statements' awake and ints. -/
import Derived.Test.YtfbgmlophkbejaaPctE
set_option linter.unusedVariables false
set_option linter.unusedSimpArgs false
namespace Go.Proofs.Ytfbgmlophkbejaa
open Go.RowKit Go.Proofs.YtfbgmlophkbejaaW.PrintWords Go.Proofs.YtfbgmlophkbejaaW.PrintLast
theorem dec_41 : decS ⟨#[37, 52, 49]⟩ = ⟨#[65]⟩ := by
  have hc : isC ⟨#[37, 52, 49]⟩ 0 = true := by decide +kernel
  have hn : nxtC ⟨#[37, 52, 49]⟩ 0 = ((ByteArray.mk #[37, 52, 49]).size : Nat) := by unfold nxtC; rw [hc]; rfl
  have hb : byteC ⟨#[37, 52, 49]⟩ 0 = 65 := by unfold byteC; rw [hc]; decide +kernel
  unfold decS decL
  rw [itemsF_go (by decide), hn, itemsF_end, List.map_cons, hb]
  rfl
theorem awake_any (w : World) : Calls Try.prog 9 #[] w fun e w' => e = .returned (.bool true) ∧ Below w.heap.size w w' := by
  have h := decode_any ⟨#[37, 52, 49]⟩ w (by decide)
  rw [dec_41] at h
  go_enter Try.func9, Try.ntmps9
  go_wp2_with (go_at_call 10; (with_reducible refine h.mono ?_); rintro e w1 ⟨rfl, hb⟩)
  go_ret
  exact ⟨rfl, hb⟩
theorem ints_same (l : List Int) (A B : Option Addr) (ca cb : Nat) (w : World) (ha : ReadsInt w .i64 A l.length l) (hb : ReadsInt w .i64 B l.length l) :
    Calls Try.prog 12 #[.slice A l.length ca, .slice B l.length cb] w fun e w' => e = .returned (.bool true) ∧ ∃ n, w' = w.drewN n := by
  have hm := ha.2.1
  go_enter Try.func12, Try.ntmps12
  go_wp2
  go_loopw [5] (fun i wr => ∃ (k : Int) (n : Nat), i = .int .i64 k ∧ 0 ≤ k ∧ k ≤ l.length ∧ wr = w.drewN n) (fun i _ => l.length - (intOf i).toNat)
  case atStart => exact ⟨0, 0, rfl, by omega, by omega, rfl⟩
  case round =>
    obtain ⟨k, n, rfl, hk0, hk1, rfl⟩ := hrel
    by_cases hlt : k < l.length
    · obtain ⟨ad, rfl, c0⟩ := ha.at_ k hk0 hlt
      obtain ⟨bd, rfl, d0⟩ := hb.at_ k hk0 hlt
      go_upto_region 6 with (fail)
      go_quiet (fail)
      go_wp2
      exact ⟨⟨k + 1, _, rfl, by omega, by omega, rfl⟩, by simp [intOf]; omega⟩
    · obtain rfl : k = l.length := by omega
      go_wp2
      go_ret
      exact ⟨rfl, _, rfl⟩
theorem strict_none (s : ByteArray) (w : World) (hs : s.size * 8 ≤ 140737488351232) (h : strF s 0 = []) : Calls Try.prog 8 #[.string s] w fun e w' => e = .returned (.tuple #[.string (decS s), .int .i64 0, .int .i64 0]) ∧ Below w.heap.size w w' := by
  have hst := strays_any s w hs
  rw [h] at hst
  have Hst := Lib.hid hst
  clear hst h
  go_enter Try.func8, Try.ntmps8
  go_wp2_with (first
    | (go_at_call 13; (with_reducible refine Hst.out.mono ?_); rintro e w1 ⟨v, rfl, ho, hb⟩; obtain ⟨A, c, rfl, hr⟩ := own_reads ho)
    | (go_at_call 10; (with_reducible refine (decode_any s _ (by omega)).mono ?_); rintro e w2 ⟨rfl, hb2⟩))
  go_ret3
  exact ⟨rfl, below_after hb hb2⟩
theorem strict_some (s : ByteArray) (w : World) (hs : s.size * 8 ≤ 140737488351232) (h : 0 < (strF s 0).length) : Calls Try.prog 8 #[.string s] w fun e w' => e = .returned (.tuple #[.string ByteArray.empty, .int .i64 (rd (strF s 0) 0), .int .i64 30]) ∧ Below w.heap.size w w' := by
  have hst := strays_any s w hs
  have Hst := Lib.hid hst
  clear hst
  generalize strF s 0 = l at *
  go_enter Try.func8, Try.ntmps8
  go_wp2_with (first
    | (go_at_call 13; (with_reducible refine Hst.out.mono ?_); rintro e w1 ⟨v, rfl, ho, hb⟩; obtain ⟨A, c, rfl, hr⟩ := own_reads ho; obtain ⟨ad, rfl, c0⟩ := hr.at_ 0 (by omega) (by omega); rw [show (0 : Int).toNat = 0 from rfl, Addr.add_zero'] at c0))
  go_upto_region 3 with (fail)
  go_quiet (fail)
  go_wp2
  go_ret3
  exact ⟨rfl, below_drewN hb _⟩
end Go.Proofs.Ytfbgmlophkbejaa
