/- Scalar: Encode by the program, where all are scalar values; the statements' awake. -/
import Derived.Test.YtgippjhkimohlaaDoorScaL
import Derived.Test.YtgippjhkimohlaaDoorBldF
set_option linter.unusedVariables false
set_option linter.unusedSimpArgs false
namespace Go.Proofs.YtgippjhkimohlaaDoor
open Go.RowKit Go.Proofs.YtgippjhkimohlaaDoorW.PrintWords Go.Proofs.YtgippjhkimohlaaDoorW.PrintLast
theorem Scalar_any (r : Int) (w : World) : Calls Tryd.prog 32 #[.int .i32 r] w fun e w' => e = .returned (.bool (scal r)) ∧ Below w.heap.size w w' := by
  have h := Tryd.utf8_ValidRune r w
  have e : Lib.validRune r = scal r := rfl
  rw [e] at h
  have H := Lib.hid h
  clear h
  go_enter Tryd.func32, Tryd.ntmps32
  go_wp2_with (go_at_call 65; (with_reducible refine (H.out).mono ?_); rintro e w1 ⟨rfl, hw⟩; obtain rfl : w = w1 := hw.symm)
  go_ret
  exact ⟨rfl, by first | exact Below.refl _ _ | exact below_drewN (Below.refl _ _) _⟩
theorem encL_len (l : List Int) : (encL l).length ≤ 4 * l.length := by
  induction l with
  | nil => simp [encL]
  | cons r l ih => rw [encL_cons, List.length_append, List.length_cons]; have := encB_len4 r; omega
theorem take_rd (l : List Int) (k : Nat) (h : k < l.length) : l.take (k + 1) = l.take k ++ [rd l k] := by
  rw [List.take_succ_eq_append_getElem h]
  simp [rd, List.getD_eq_getElem?_getD, List.getElem?_eq_getElem h]
set_option maxRecDepth 100000 in
set_option maxHeartbeats 1000000 in
theorem Encode_ok (l : List Int) (A : Option Addr) (c : Nat) (w : World) (hl : l.length ≤ 4611686018427) (hr : ReadsInt w .i32 A l.length l) (hsc : ∀ r ∈ l, scal r = true) :
    Calls Tryd.prog 27 #[.slice A l.length c] w fun e w' => e = .returned (.tuple #[.string (encS l), .int .i64 0, .int .i64 0]) ∧ Below w.heap.size w w' := by
  have Hsc := Lib.hid (fun r w => Scalar_any r w)
  have Hwr := Lib.hid writeRune_any
  have Hst := Lib.hid stringF_any
  go_enter Tryd.func27, Tryd.ntmps27
  go_wp2
  go_loopw [10] (fun i wr => ∃ k : Nat, i = .int .i64 (k : Int) ∧ k ≤ l.length ∧ BldF wr w.heap.size w.heap.size (encL (l.take k)) ∧ Below w.heap.size w wr) (fun i _ => l.length - (intOf i).toNat)
  case atStart => exact ⟨0, rfl, by omega, BldF.new w w.heap.size (Nat.le_refl _), below_one _ _⟩
  case round =>
    obtain ⟨k, rfl, hk, hB, hbel⟩ := hrel
    have hz := hbel.size
    by_cases hlt : k < l.length
    · obtain ⟨ad, rfl, d0⟩ := (hr.below hbel).at_ k (by omega) (by omega)
      simp only [Int.toNat_natCast] at d0
      have ht := take_rd l k hlt
      have hs : scal (rd l k) = true := hsc _ (by
        have e : rd l k = l[k] := by simp [rd, List.getD_eq_getElem?_getD, List.getElem?_eq_getElem hlt]
        rw [e]; exact List.getElem_mem _)
      have hlen := encL_len (l.take k)
      have htl : (l.take k).length ≤ k := List.length_take_le _ _
      have he : encL (l.take (k + 1)) = encL (l.take k) ++ encB (rd l k) := by rw [ht, encL_app, encL_one]
      have Hrel := Lib.hid he
      generalize rd l k = r at *
      have hs2 := (Hsc.out r)
      rw [hs] at hs2
      have HS := Lib.hid hs2
      have HW := Lib.hid (fun W h => Hwr.out w.heap.size w.heap.size (encL (l.take k)) r hs W h (by omega))
      clear ht he hs2 hs
      go_wp2_with (first
        | (go_at_call 32; (with_reducible refine (HS.out _).mono ?_); rintro e w1 ⟨rfl, hb1⟩; have hB1 := (fun h => BldF.after h hb1) hB; have hbel1 := below_after hbel hb1; have hz1 := hbel1.size)
        | (go_at_call 63; (with_reducible refine (HW.out _ hB1 (by omega)).mono ?_); rintro e w2 ⟨⟨v2, rfl⟩, hB2, hb2⟩))
      rw [← Hrel.out] at hB2
      exact ⟨⟨k + 1, rfl, by omega, hB2, hbel1.trans hb2⟩, by simp [intOf]; omega⟩
    · obtain rfl : k = l.length := by omega
      rw [List.take_length] at hB
      go_wp2_with (go_at_call 64; (with_reducible refine (Hst.out _ _ _ _ hB (encL_range l hsc) hz).mono ?_); rintro e w1 ⟨rfl, hb1⟩)
      go_ret3
      exact ⟨rfl, hbel.trans hb1⟩
end Go.Proofs.YtgippjhkimohlaaDoor
