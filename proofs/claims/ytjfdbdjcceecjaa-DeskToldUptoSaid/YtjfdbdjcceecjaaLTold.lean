/- DeskTold: the walk of the statement. -/
import Derived.Test.YtjfdbdjcceecjaaDskI
set_option linter.unusedVariables false
set_option linter.unusedSimpArgs false
namespace Go.Proofs.Ytjfdbdjcceecjaa
open Go.RowKit Go.Proofs.YtjfdbdjcceecjaaW.PrintWords Go.Proofs.YtjfdbdjcceecjaaW.PrintLast
set_option maxHeartbeats 2000000 in
theorem deskTold_any (s : ByteArray) (w : World) (hs : s.size ≤ 1048576) : Calls Try.prog 4 #[.string s] w fun e w' => e = .returned (.bool true) ∧ Below w.heap.size w w' := by
  have hz : (toldS s).size ≤ 4 * s.size + 2 := by
    have := toldU_len (bytesOf s)
    rw [bytesOf_length] at this
    rw [toldS_size]
    unfold toldL
    rw [List.length_append, List.length_singleton]
    omega
  have h := fun W => Words_any (toldS s) W (by omega) (by rw [told_words]; show 1 ≤ _; rw [toldS_size]; unfold toldL; simp)
  simp only [told_words] at h
  have H := Lib.hid h
  clear h
  generalize hT : toldS s = T at *
  have ht := fun W => told_any s W (by omega)
  have hrt := fun W => rtold_any s W (by omega)
  rw [hT] at ht hrt
  have Ht := Lib.hid ht
  have Hrt := Lib.hid hrt
  clear ht hrt hT
  go_enter Try.func4, Try.ntmps4
  go_wp2_with (first
    | (go_at_call 8; (with_reducible refine (Ht.out _).mono ?_); rintro e w1 ⟨rfl, hb1⟩)
    | (go_at_call 5; (with_reducible refine (H.out _).mono ?_); rintro e w2 ⟨hb2, v, rfl, ho⟩; obtain ⟨A2, c2, rfl, hr⟩ := own_strs ho; obtain ⟨ad, rfl, -⟩ := hr.at_ 0 (by decide) (show (0 : Int) < 1 by decide))
    | (go_at_call 7; (with_reducible refine (awake_any _).mono ?_); rintro e w3 ⟨rfl, hb3⟩)
    | (go_at_call 9; (with_reducible refine (Hrt.out _).mono ?_); rintro e w4 ⟨rfl, hb4⟩; have hr4 := (hr.below hb3).below hb4; obtain ⟨ad', he, c0⟩ := hr4.at_ 0 (by decide) (show (0 : Int) < 1 by decide); obtain rfl : ad = ad' := Option.some.inj he; rw [show (0 : Int).toNat = 0 from rfl, Addr.add_zero'] at c0; clear he; replace c0 : w4.cell? ad = some (.string s) := c0))
  go_ret
  exact ⟨rfl, below_after (below_after (below_after hb1 hb2) hb3) hb4⟩
end Go.Proofs.Ytjfdbdjcceecjaa
