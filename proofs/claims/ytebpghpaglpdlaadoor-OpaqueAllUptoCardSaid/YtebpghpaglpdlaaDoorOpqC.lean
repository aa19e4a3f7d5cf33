/- Opaque: First by the program. -/
import Derived.Test.YtebpghpaglpdlaaDoorOpqB
set_option linter.unusedVariables false
set_option linter.unusedSimpArgs false
namespace Go.Proofs.YtebpghpaglpdlaaDoor
open Go.RowKit Go.Proofs.YtebpghpaglpdlaaDoorW.PrintWords Go.Proofs.YtebpghpaglpdlaaDoorW.PrintLast
theorem Domain_any (p : Int) (w : World) : Calls Tryd.prog 16 #[.int .i32 p] w fun e w' => e = .returned (.bool (inT p 10)) ∧ Below w.heap.size w w' := by
  have H := Lib.hid (fun W => in_any p 10 W)
  go_enter Tryd.func16, Tryd.ntmps16
  go_wp2_with (go_at_call 37; (with_reducible refine (H.out _).mono ?_); rintro e w1 ⟨rfl, hb⟩)
  go_ret
  exact ⟨rfl, hb⟩
/-- the first place of a number of a kind, from place i on; -1: there is none -/
def fixF (f : Int → Bool) : List Int → Int → Int
  | [], _ => -1
  | x :: l, i => if f x then i else fixF f l (i + 1)
theorem fixF_drop {f : Int → Bool} {l : List Int} {k : Nat} (h : k < l.length) (i : Int) : fixF f (l.drop k) i = if f (rd l k) then i else fixF f (l.drop (k + 1)) (i + 1) := by
  rw [List.drop_eq_getElem_cons h]
  have hg : rd l k = l[k] := by simp [rd, List.getD_eq_getElem?_getD, List.getElem?_eq_getElem h]
  rw [hg]
  rfl
set_option maxRecDepth 100000 in
theorem First_dom (l : List Int) (A : Option Addr) (c : Nat) (w : World) (hl : l.length ≤ 1000000000000) (hr : ReadsInt w .i32 A l.length l) : Calls Tryd.prog 18 #[.slice A l.length c, .bool true] w fun e w' => e = .returned (.int .i64 (fixF (fun r => inT r 10) l 0)) ∧ Below w.heap.size w w' := by
  obtain ⟨F, hF⟩ : ∃ F, fixF (fun r => inT r 10) (l.drop 0) 0 = F := ⟨_, rfl⟩
  have hF' : fixF (fun r => inT r 10) l 0 = F := hF
  rw [hF']
  have HF : Hid (fixF (fun r => inT r 10) (l.drop 0) ((0 : Nat) : Int) = F) := Lib.hid hF
  have Hd := Lib.hid (fun r W => Domain_any r W)
  clear hF hF'
  go_enter Tryd.func18, Tryd.ntmps18
  go_wp2
  go_loopw [8] (fun i wr => ∃ k : Nat, i = .int .i64 (k : Int) ∧ k ≤ l.length ∧ Hid (fixF (fun r => inT r 10) (l.drop k) (k : Int) = F) ∧ Below w.heap.size w wr) (fun i _ => l.length - (intOf i).toNat)
  case atStart => exact ⟨0, rfl, by omega, HF, Below.refl _ _⟩
  case round =>
    clear HF
    obtain ⟨k, rfl, hk, hw, hbel⟩ := hrel
    by_cases hlt : k < l.length
    · obtain ⟨ad, rfl, d0⟩ := (hr.below hbel).at_ k (by omega) (by omega)
      simp only [Int.toNat_natCast] at d0
      have hw2 := hw.out
      rw [fixF_drop hlt] at hw2
      generalize rd l k = q at *
      have hd := Hd.out q
      cases hc : inT q 10 with
      | true =>
        rw [hc] at hw2 hd
        simp only [if_true] at hw2
        have HW := Lib.hid hw2
        have HH := Lib.hid hd
        clear hd hc hw hw2
        go_wp2_with (go_at_call 16; (with_reducible refine (HH.out _).mono ?_); rintro e w2 ⟨rfl, hb2⟩)
        go_ret
        exact ⟨by rw [← HW.out]; rfl, below_after hbel hb2⟩
      | false =>
        rw [hc] at hw2 hd
        simp only [Bool.false_eq_true, if_false] at hw2
        have HW : Hid (fixF (fun r => inT r 10) (l.drop (k + 1)) ((k + 1 : Nat) : Int) = F) := Lib.hid hw2
        have HH := Lib.hid hd
        clear hd hc hw hw2
        go_wp2_with (go_at_call 16; (with_reducible refine (HH.out _).mono ?_); rintro e w2 ⟨rfl, hb2⟩)
        exact ⟨⟨k + 1, rfl, by omega, HW, below_after hbel hb2⟩, by simp [intOf]; omega⟩
    · obtain rfl : k = l.length := by omega
      have hw2 := hw.out
      rw [List.drop_length] at hw2
      have HW := Lib.hid (show F = -1 from hw2.symm)
      clear hw hw2
      go_wp2
      go_ret
      exact ⟨by rw [HW.out]; rfl, hbel⟩
set_option maxRecDepth 100000 in
theorem First_host (l : List Int) (A : Option Addr) (c : Nat) (w : World) (hl : l.length ≤ 1000000000000) (hr : ReadsInt w .i32 A l.length l) : Calls Tryd.prog 18 #[.slice A l.length c, .bool false] w fun e w' => e = .returned (.int .i64 (fixF (fun r => inT r 9) l 0)) ∧ Below w.heap.size w w' := by
  obtain ⟨F, hF⟩ : ∃ F, fixF (fun r => inT r 9) (l.drop 0) 0 = F := ⟨_, rfl⟩
  have hF' : fixF (fun r => inT r 9) l 0 = F := hF
  rw [hF']
  have HF : Hid (fixF (fun r => inT r 9) (l.drop 0) ((0 : Nat) : Int) = F) := Lib.hid hF
  have Hd := Lib.hid (fun r W => Host_any r W)
  clear hF hF'
  go_enter Tryd.func18, Tryd.ntmps18
  go_wp2
  go_loopw [8] (fun i wr => ∃ k : Nat, i = .int .i64 (k : Int) ∧ k ≤ l.length ∧ Hid (fixF (fun r => inT r 9) (l.drop k) (k : Int) = F) ∧ Below w.heap.size w wr) (fun i _ => l.length - (intOf i).toNat)
  case atStart => exact ⟨0, rfl, by omega, HF, Below.refl _ _⟩
  case round =>
    clear HF
    obtain ⟨k, rfl, hk, hw, hbel⟩ := hrel
    by_cases hlt : k < l.length
    · obtain ⟨ad, rfl, d0⟩ := (hr.below hbel).at_ k (by omega) (by omega)
      simp only [Int.toNat_natCast] at d0
      have hw2 := hw.out
      rw [fixF_drop hlt] at hw2
      generalize rd l k = q at *
      have hd := Hd.out q
      cases hc : inT q 9 with
      | true =>
        rw [hc] at hw2 hd
        simp only [if_true] at hw2
        have HW := Lib.hid hw2
        have HH := Lib.hid hd
        clear hd hc hw hw2
        go_wp2_with (go_at_call 14; (with_reducible refine (HH.out _).mono ?_); rintro e w2 ⟨rfl, hb2⟩)
        go_ret
        exact ⟨by rw [← HW.out]; rfl, below_after hbel hb2⟩
      | false =>
        rw [hc] at hw2 hd
        simp only [Bool.false_eq_true, if_false] at hw2
        have HW : Hid (fixF (fun r => inT r 9) (l.drop (k + 1)) ((k + 1 : Nat) : Int) = F) := Lib.hid hw2
        have HH := Lib.hid hd
        clear hd hc hw hw2
        go_wp2_with (go_at_call 14; (with_reducible refine (HH.out _).mono ?_); rintro e w2 ⟨rfl, hb2⟩)
        exact ⟨⟨k + 1, rfl, by omega, HW, below_after hbel hb2⟩, by simp [intOf]; omega⟩
    · obtain rfl : k = l.length := by omega
      have hw2 := hw.out
      rw [List.drop_length] at hw2
      have HW := Lib.hid (show F = -1 from hw2.symm)
      clear hw hw2
      go_wp2
      go_ret
      exact ⟨by rw [HW.out]; rfl, hbel⟩
end Go.Proofs.YtebpghpaglpdlaaDoor
