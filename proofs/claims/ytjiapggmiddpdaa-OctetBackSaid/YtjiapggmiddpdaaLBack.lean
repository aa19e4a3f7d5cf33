/- OctetBack: the walk of the statement. -/
import Derived.Test.YtjiapggmiddpdaaOctL
set_option linter.unusedVariables false
set_option linter.unusedSimpArgs false
namespace Go.Proofs.Ytjiapggmiddpdaa
open Go.RowKit Go.Proofs.YtjiapggmiddpdaaW.PrintWords Go.Proofs.YtjiapggmiddpdaaW.PrintLast
theorem number_is {s : ByteArray} {base n : Int} (w : World) (hs : s.size ≤ 9223372036854775807) (h : Num s base n 0 0) : Calls Try.prog 35 #[.string s, .int .i64 base] w fun e w' => e = .returned (.tuple #[.int .u64 n, .int .i64 0, .int .i64 0]) ∧ w' = w := by
  refine (number_any s base w hs).mono ?_
  rintro e w' ⟨a, i, c, hN, rfl, rfl⟩
  obtain ⟨rfl, rfl, rfl⟩ := hN.unique h
  exact ⟨rfl, rfl⟩
theorem lowD_len (base : Int) : ∀ (f : Nat) (m : Int), (lowD base f m).length ≤ f
  | 0, m => by simp [lowD]
  | f + 1, m => by
    have := lowD_len base f (m / base)
    rw [lowD_step]
    split <;> simp <;> omega
set_option maxRecDepth 100000 in
set_option maxHeartbeats 8000000 in
theorem octetBack_any (n base z : Int) (w : World) (hn : U64 n) : Calls Try.prog 8 #[.int .u64 n, .int .i64 base, .int .i64 z] w fun e w' => e = .returned (.bool true) ∧ Below w.heap.size w w' := by
  by_cases hb : base < 2 ∨ 36 < base
  · by_cases hb2 : base < 2
    · go_enter Try.func8, Try.ntmps8
      go_wp2_with (first
        | (go_at_call 34; refine (print_bad _ _ _ hb).mono ?_; rintro e w1 ⟨rfl, hb1⟩)
        | (go_at_call 11; refine (awake_any _).mono ?_; rintro e w1 ⟨rfl, rfl⟩))
      go_ret
      exact ⟨rfl, hb1⟩
    · have hb3 : 36 < base := by omega
      go_enter Try.func8, Try.ntmps8
      go_wp2_with (first
        | (go_at_call 34; refine (print_bad _ _ _ hb).mono ?_; rintro e w1 ⟨rfl, hb1⟩)
        | (go_at_call 11; refine (awake_any _).mono ?_; rintro e w1 ⟨rfl, rfl⟩))
      go_ret
      exact ⟨rfl, hb1⟩
  · have hb2 : 2 ≤ base := by omega
    have hb3 : base ≤ 36 := by omega
    have hl := lowD_len base 64 n
    have hS : (strOfNums (lowD base 64 n).reverse).size ≤ 64 := by rw [strOfNums_size, List.length_reverse]; exact hl
    have HB := Lib.hid (fun k => num_back n base k hn ⟨hb2, hb3⟩)
    have HU := Lib.hid (num_upper n base hn ⟨hb2, hb3⟩)
    have hP : ∀ W : World, Calls Try.prog 34 #[.int .u64 n, .int .i64 base] W fun e w' => e = .returned (.tuple #[.string (strOfNums (lowD base 64 n).reverse), .int .i64 0]) ∧ Below W.heap.size W w' := fun W => print_any n base W hn hb2 hb3
    generalize strOfNums (lowD base 64 n).reverse = t at *
    have hUs : (uppS t).size = t.size := by unfold uppS; rw [strOfNums_size, List.length_map, bytesOf_length]
    have HP := Lib.hid hP
    have hn0 := hn.1
    have hn1 := hn.2
    clear hb hP hl hn
    go_enter Try.func8, Try.ntmps8
    go_wp2_with (go_at_call 34; refine (HP.out _).mono ?_; rintro e w1 ⟨rfl, hb1⟩)
    go_loopw [9, 10] (fun u v wr => ∃ k : Nat, u = .string (strOfNums (List.replicate k 48)) ∧ v = .int .i64 k ∧ k ≤ 40 ∧ wr = w1) (fun _ v _ => 40 - (intOf v).toNat)
    case atStart => exact ⟨0, rfl, rfl, by omega, rfl⟩
    case round =>
      obtain ⟨k, rfl, rfl, hk, rfl⟩ := hrel
      have hz : (strOfNums (List.replicate k 48)).size = k := by rw [strOfNums_size, List.length_replicate]
      have he : strOfNums (List.replicate k 48) ++ ByteArray.mk #[48] = strOfNums (List.replicate (k + 1) 48) := by rw [List.replicate_succ', ← strOfNums_append]; rfl
      have He := Lib.hid he
      clear he
      by_cases hkz : (k : Int) < z
      · by_cases hk40 : (k : Int) < 40
        · go_wp2
          exact ⟨⟨k + 1, by rw [He.out], by simp, by omega, trivial⟩, by simp [intOf]; omega⟩
        · go_wp2_with (first
            | (go_at_call 35; first | (with_reducible refine (number_is _ (by have := ByteArray.size_append (a := strOfNums (List.replicate k 48)) (b := t); omega) (HB.out k)).mono ?_; rintro e w2 ⟨rfl, rfl⟩) | (with_reducible refine (number_is _ (by omega) HU.out).mono ?_; rintro e w2 ⟨rfl, rfl⟩))
            | (go_at_call 21; refine (Upper_any _ _ (by omega)).mono ?_; rintro e w2 ⟨rfl, hb2'⟩; replace hb1 := below_after hb1 hb2'; clear hb2')
            | (go_at_call 11; refine (awake_any _).mono ?_; rintro e w2 ⟨rfl, rfl⟩))
          go_ret
          exact ⟨rfl, hb1⟩
      · go_wp2_with (first
          | (go_at_call 35; first | (with_reducible refine (number_is _ (by have := ByteArray.size_append (a := strOfNums (List.replicate k 48)) (b := t); omega) (HB.out k)).mono ?_; rintro e w2 ⟨rfl, rfl⟩) | (with_reducible refine (number_is _ (by omega) HU.out).mono ?_; rintro e w2 ⟨rfl, rfl⟩))
          | (go_at_call 21; refine (Upper_any _ _ (by omega)).mono ?_; rintro e w2 ⟨rfl, hb2'⟩; replace hb1 := below_after hb1 hb2'; clear hb2')
          | (go_at_call 11; refine (awake_any _).mono ?_; rintro e w2 ⟨rfl, rfl⟩))
        go_ret
        exact ⟨rfl, hb1⟩
end Go.Proofs.Ytjiapggmiddpdaa
