/- DeskWords: the walk of the statement. -/
import Derived.Test.YtjfdbdjcceecjaaDskI
set_option linter.unusedVariables false
set_option linter.unusedSimpArgs false
namespace Go.Proofs.Ytjfdbdjcceecjaa
open Go.RowKit Go.Proofs.YtjfdbdjcceecjaaW.PrintWords Go.Proofs.YtjfdbdjcceecjaaW.PrintLast
theorem wR_len (s : ByteArray) (n : Nat) : ((wR n s).getD []).length ≤ s.size := by
  induction n generalizing s with
  | zero => simp [wR]
  | succ n ih =>
    rw [wR]
    cases hr : rdW s with
    | none => simp
    | some x =>
      obtain ⟨t, q, r⟩ := x
      have hl := rdW_lt hr
      simp only
      split
      · simp; omega
      · split
        · simp
        · have := ih (r.extract 1 r.size)
          rw [size_ext _ _ _ (Nat.le_refl _)] at this
          cases hw : wR n (r.extract 1 r.size) with
          | none => simp
          | some l => rw [hw] at this; simp at this ⊢; omega
set_option maxHeartbeats 2000000 in
theorem deskWords_any (s : ByteArray) (w : World) (hs : s.size ≤ 1048576) : Calls Try.prog 3 #[.string s] w fun e w' => e = .returned (.bool true) ∧ Below w.heap.size w w' := by
  have h1 := fun W => Words_any s W (by omega) (wR_len s _)
  have h2 := fun W => RWords_any s W (by omega) (wR_len s _)
  generalize wR (s.size + 1) s = R at *
  unfold SPost at h1 h2
  generalize (R.getD []).map (·.1) = l at *
  generalize R.isSome = b at *
  have H1 := Lib.hid h1
  have H2 := Lib.hid h2
  clear h1 h2
  go_enter Try.func3, Try.ntmps3
  go_wp2_with (first
    | (go_at_call 5; (with_reducible refine (H1.out _).mono ?_); rintro e w1 ⟨hb1, v, rfl, ho⟩; obtain ⟨A1, c1, rfl, hr⟩ := own_strs ho)
    | (go_at_call 6; (with_reducible refine (H2.out _).mono ?_); rintro e w2 ⟨hb2, v, rfl, ho2⟩; obtain ⟨A2, c2, rfl, hr2⟩ := own_strs ho2)
    | (go_at_call 7; (with_reducible refine (awake_any _).mono ?_); rintro e w3 ⟨rfl, hb3⟩))
  have Hr1 := Lib.hid ((hr.below hb2).below hb3)
  have Hr2 := Lib.hid (hr2.below hb3)
  have hbel := below_after (below_after hb1 hb2) hb3
  have hm := hr.2.1
  clear hr hr2 ho ho2 hb1 hb2 hb3
  go_loopw [34] (fun i wr => ∃ (k : Int) (n : Nat), i = .int .i64 k ∧ 0 ≤ k ∧ k ≤ l.length ∧ wr = w3.drewN n) (fun i _ => l.length - (intOf i).toNat)
  case atStart => exact ⟨0, 0, rfl, by omega, by omega, rfl⟩
  case round =>
    obtain ⟨k, n, rfl, hk0, hk1, rfl⟩ := hrel
    by_cases hlt : k < l.length
    · obtain ⟨ad, rfl, c0⟩ := Hr1.out.at_ k hk0 hlt
      obtain ⟨bd, rfl, d0⟩ := Hr2.out.at_ k hk0 hlt
      go_upto_region 8 with (fail)
      go_quiet (fail)
      go_wp2
      exact ⟨⟨k + 1, _, rfl, by omega, by omega, rfl⟩, by simp [intOf]; omega⟩
    · obtain rfl : k = l.length := by omega
      go_wp2
      go_ret
      exact ⟨rfl, below_drewN hbel _⟩
end Go.Proofs.Ytjfdbdjcceecjaa
