/- PercentDecodes: the walk of the statement. -/
import Derived.Test.YtfbgmlophkbejaaPctF
set_option linter.unusedVariables false
set_option linter.unusedSimpArgs false
namespace Go.Proofs.Ytfbgmlophkbejaa
open Go.RowKit Go.Proofs.YtfbgmlophkbejaaW.PrintWords Go.Proofs.YtfbgmlophkbejaaW.PrintLast
set_option maxHeartbeats 2000000 in
theorem percentDecodes_any (s : ByteArray) (w : World) (hs : s.size * 8 ≤ 140737488351232) : Calls Try.prog 3 #[.string s] w fun e w' => e = .returned (.bool true) ∧ Below w.heap.size w w' := by
  by_cases h0 : strF s 0 = []
  · have hsc := fun W => strict_none s W hs h0
    have hrd := fun W => rdecode_any s W hs
    have hst := fun W => strays_any s W hs
    have hin : ∀ A B ca cb W, ReadsInt W .i64 A 0 [] → ReadsInt W .i64 B 0 [] → Calls Try.prog 12 #[.slice A 0 ca, .slice B 0 cb] W fun e w' => e = .returned (.bool true) ∧ ∃ n, w' = W.drewN n := fun A B ca cb W ha hb => ints_same [] A B ca cb W ha hb
    unfold RDecSuch at hrd
    rw [h0] at hrd hst
    have Hrd := Lib.hid hrd
    have Hst := Lib.hid hst
    have Hsc := Lib.hid hsc
    have Hin := Lib.hid hin
    clear hrd hst hsc hin h0
    go_enter Try.func3, Try.ntmps3
    go_wp2_with (first
      | (go_at_call 7; (with_reducible refine (Hrd.out _).mono ?_); rintro e w1 ⟨v, rfl, ho, hb⟩; obtain ⟨A1, c1, rfl, hr⟩ := own_reads ho)
      | (go_at_call 8; (with_reducible refine (Hsc.out _).mono ?_); rintro e w2 ⟨rfl, hb2⟩)
      | (go_at_call 9; (with_reducible refine (awake_any _).mono ?_); rintro e w3 ⟨rfl, hb3⟩)
      | (go_at_call 10; (with_reducible refine (decode_any s _ (by omega)).mono ?_); rintro e w4 ⟨rfl, hb4⟩)
      | (go_at_call 11; (with_reducible refine (coded_cnt s _ (by omega)).mono ?_); rintro e w5 ⟨rfl, hb5⟩)
      | (go_at_call 13; (with_reducible refine (Hst.out _).mono ?_); rintro e w6 ⟨v6, rfl, ho6, hb6⟩; obtain ⟨A6, c6, rfl, hr6⟩ := own_reads ho6)
      | (go_at_call 12; (with_reducible refine (Hin.out _ _ _ _ _ hr6 ((((((hr.below hb2).below hb3).below hb4).below hb5).below hb6))).mono ?_); rintro e w7 ⟨rfl, n7, rfl⟩))
    go_ret
    exact ⟨rfl, below_drewN (below_after (below_after (below_after (below_after (below_after hb hb2) hb3) hb4) hb5) hb6) _⟩
  · have hpos : 0 < (strF s 0).length := List.length_pos_iff.2 h0
    have hsc := fun W => strict_some s W hs hpos
    have hrd := fun W => rdecode_any s W hs
    have hst := fun W => strays_any s W hs
    unfold RDecSuch at hrd
    generalize strF s 0 = l at *
    have Hrd := Lib.hid hrd
    have Hst := Lib.hid hst
    have Hsc := Lib.hid hsc
    clear hrd hst hsc h0
    go_enter Try.func3, Try.ntmps3
    go_wp2_with (first
      | (go_at_call 7; (with_reducible refine (Hrd.out _).mono ?_); rintro e w1 ⟨v, rfl, ho, hb⟩; obtain ⟨A1, c1, rfl, hr⟩ := own_reads ho; obtain ⟨ad, rfl, -⟩ := hr.at_ 0 (by omega) (by omega))
      | (go_at_call 8; (with_reducible refine (Hsc.out _).mono ?_); rintro e w2 ⟨rfl, hb2⟩)
      | (go_at_call 9; (with_reducible refine (awake_any _).mono ?_); rintro e w3 ⟨rfl, hb3⟩)
      | (go_at_call 10; (with_reducible refine (decode_any s _ (by omega)).mono ?_); rintro e w4 ⟨rfl, hb4⟩)
      | (go_at_call 11; (with_reducible refine (coded_cnt s _ (by omega)).mono ?_); rintro e w5 ⟨rfl, hb5⟩)
      | (go_at_call 13; (with_reducible refine (Hst.out _).mono ?_); rintro e w6 ⟨v6, rfl, ho6, hb6⟩; obtain ⟨A6, c6, rfl, hr6⟩ := own_reads ho6; have hr5 := ((((hr.below hb2).below hb3).below hb4).below hb5).below hb6; obtain ⟨ad', he, c0⟩ := hr5.at_ 0 (by omega) (by omega); obtain rfl : ad = ad' := Option.some.inj he; rw [show (0 : Int).toNat = 0 from rfl, Addr.add_zero'] at c0; clear he)
      | (go_at_call 12; (with_reducible refine (ints_same l _ _ _ _ _ hr6 hr5).mono ?_); rintro e w7 ⟨rfl, n7, rfl⟩))
    go_ret
    exact ⟨rfl, below_drewN (below_after (below_after (below_after (below_after (below_after hb hb2) hb3) hb4) hb5) hb6) _⟩
end Go.Proofs.Ytfbgmlophkbejaa
