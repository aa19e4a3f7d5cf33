/- Percent: the decoder: unsure, Feed, End, Held, NewDecoder; the document's Held. -/
import Derived.Test.YtfbgmlophkbejaaPctH
set_option linter.unusedVariables false
set_option linter.unusedSimpArgs false
namespace Go.Proofs.Ytfbgmlophkbejaa
open Go.RowKit Go.Proofs.YtfbgmlophkbejaaW.PrintWords Go.Proofs.YtfbgmlophkbejaaW.PrintLast
theorem bt_last (s : ByteArray) : ∀ h : s.size - 1 < s.size, ((s[s.size - 1]'h).toNat : Int) = bt s (s.size - 1) := fun h => by
  have := bt_at s (s.size - 1)
  have e : ((s.size : Int) - 1).toNat = s.size - 1 := by omega
  simp only [e] at this
  exact this h
set_option maxHeartbeats 1000000 in
theorem unsure_any (s : ByteArray) (w : World) (hs : s.size ≤ 140737488351232) : Calls Try.prog 30 #[.string s] w fun e w' => e = .returned (.int .i64 (usz s)) ∧ w' = w := by
  have b1 := bt_last s
  have r1 := bt_range s (s.size - 1)
  have b2 := bt_at s (s.size - 2)
  unfold usz
  by_cases h0 : 0 < s.size
  · have h0' : 1 ≤ (s.size : Int) := by omega
    cases h37 : (bt s (s.size - 1) == 37)
    · rw [if_neg (by rintro ⟨_, h⟩; rw [beq_eq_false_iff_ne] at h37; exact h37 h)]
      by_cases h1 : 1 < s.size
      · have h1' : 2 ≤ (s.size : Int) := by omega
        cases g37 : (bt s (s.size - 2) == 37)
        · rw [if_neg (by rintro ⟨_, h, _⟩; rw [beq_eq_false_iff_ne] at g37; exact g37 h)]
          go_enter Try.func30, Try.ntmps30
          go_wp2
          go_ret
          exact ⟨rfl, rfl⟩
        · by_cases hd : 0 ≤ dig (bt s (s.size - 1)) 16
          · rw [if_pos ⟨h1, beq_iff_eq.1 g37, hd⟩]
            go_enter Try.func30, Try.ntmps30
            go_wp2_with ((go_at_call 40; with_reducible refine (digit_any (bt s (s.size - 1)) 16 _ r1.1 r1.2).mono ?_; rintro e w' ⟨rfl, rfl⟩))
            go_ret
            exact ⟨rfl, rfl⟩
          · rw [if_neg (by rintro ⟨_, _, h⟩; exact hd h)]
            go_enter Try.func30, Try.ntmps30
            go_wp2_with ((go_at_call 40; with_reducible refine (digit_any (bt s (s.size - 1)) 16 _ r1.1 r1.2).mono ?_; rintro e w' ⟨rfl, rfl⟩))
            go_ret
            exact ⟨rfl, rfl⟩
      · rw [if_neg (by rintro ⟨h, _, _⟩; exact h1 h)]
        have h1' : ¬ 1 < (s.size : Int) := by omega
        go_enter Try.func30, Try.ntmps30
        go_wp2
        go_ret
        exact ⟨rfl, rfl⟩
    · rw [if_pos ⟨h0, beq_iff_eq.1 h37⟩]
      go_enter Try.func30, Try.ntmps30
      go_wp2
      go_ret
      exact ⟨rfl, rfl⟩
  · rw [if_neg (by rintro ⟨h, _⟩; exact h0 h), if_neg (by rintro ⟨h, _⟩; omega)]
    have h0' : ¬ 0 < (s.size : Int) := by omega
    have h1' : ¬ 1 < (s.size : Int) := by omega
    go_enter Try.func30, Try.ntmps30
    go_wp2
    go_ret
    exact ⟨rfl, rfl⟩

theorem ext_none (s : ByteArray) : s.extract ((s.size : Int) - 0).toNat s.size = ByteArray.empty := by
  refine ba_ext (by rw [size_ext _ _ _ (Nat.le_refl _)]; have : ByteArray.empty.size = 0 := rfl; omega) fun i h0 h1 => ?_
  rw [size_ext _ _ _ (Nat.le_refl _)] at h1
  omega
set_option maxHeartbeats 1000000 in
theorem rheld_any (s : ByteArray) (w : World) (hs : s.size ≤ 140737488351232) : Calls Try.prog 18 #[.string s] w fun e w' => e = .returned (.string (heldP s)) ∧ w' = w := by
  have b1 := bt_last s
  have r1 := bt_range s (s.size - 1)
  have b2 := bt_at s (s.size - 2)
  unfold heldP usz
  by_cases h0 : 0 < s.size
  · have h0' : 1 ≤ (s.size : Int) := by omega
    cases h37 : (bt s (s.size - 1) == 37)
    · rw [if_neg (by rintro ⟨_, h⟩; rw [beq_eq_false_iff_ne] at h37; exact h37 h)]
      by_cases h1 : 1 < s.size
      · have h1' : 2 ≤ (s.size : Int) := by omega
        cases g37 : (bt s (s.size - 2) == 37)
        · rw [if_neg (by rintro ⟨_, h, _⟩; rw [beq_eq_false_iff_ne] at g37; exact g37 h), ext_none]
          go_enter Try.func18, Try.ntmps18
          go_wp2
          go_ret
          exact ⟨rfl, rfl⟩
        · by_cases hd : 0 ≤ dig (bt s (s.size - 1)) 16
          · rw [if_pos ⟨h1, beq_iff_eq.1 g37, hd⟩, show ((s.size : Int) - 2).toNat = s.size - 2 by omega]
            go_enter Try.func18, Try.ntmps18
            go_wp2_with ((go_at_call 31; with_reducible refine (rdigit_any (bt s (s.size - 1)) 16 _ r1.1 r1.2).mono ?_; rintro e w' ⟨rfl, rfl⟩))
            go_ret
            exact ⟨rfl, rfl⟩
          · rw [if_neg (by rintro ⟨_, _, h⟩; exact hd h), ext_none]
            go_enter Try.func18, Try.ntmps18
            go_wp2_with ((go_at_call 31; with_reducible refine (rdigit_any (bt s (s.size - 1)) 16 _ r1.1 r1.2).mono ?_; rintro e w' ⟨rfl, rfl⟩))
            go_ret
            exact ⟨rfl, rfl⟩
      · rw [if_neg (by rintro ⟨h, _, _⟩; exact h1 h), ext_none]
        have h1' : ¬ 1 < (s.size : Int) := by omega
        go_enter Try.func18, Try.ntmps18
        go_wp2
        go_ret
        exact ⟨rfl, rfl⟩
    · rw [if_pos ⟨h0, beq_iff_eq.1 h37⟩, show ((s.size : Int) - 1).toNat = s.size - 1 by omega]
      go_enter Try.func18, Try.ntmps18
      go_wp2
      go_ret
      exact ⟨rfl, rfl⟩
  · rw [if_neg (by rintro ⟨h, _⟩; exact h0 h), if_neg (by rintro ⟨h, _⟩; omega), ext_none]
    have h0' : ¬ 0 < (s.size : Int) := by omega
    have h1' : ¬ 1 < (s.size : Int) := by omega
    go_enter Try.func18, Try.ntmps18
    go_wp2
    go_ret
    exact ⟨rfl, rfl⟩


theorem held_any (g : Nat) (h : ByteArray) (w : World) (hb : Blk w g 55 #[.string h]) : Calls Try.prog 17 #[.pointer (some ⟨g, 0, none⟩)] w fun e w' => e = .returned (.string h) ∧ w = w' := by
  have c0 : w.cell? ⟨g, 0, none⟩ = some (.string h) := hb.cell 0
  go_enter Try.func17, Try.ntmps17
  go_wp2
  go_ret
  exact ⟨rfl, rfl⟩
theorem held_nil (w : World) : Calls Try.prog 17 #[.pointer none] w fun e w' => e = .returned (.string ByteArray.empty) ∧ w = w' := by
  go_enter Try.func17, Try.ntmps17
  go_wp2
  go_ret
  exact ⟨rfl, rfl⟩
theorem end_keep (g : Nat) (h : ByteArray) (w : World) (hb : Blk w g 55 #[.string h]) : Calls Try.prog 16 #[.pointer (some ⟨g, 0, none⟩)] w fun e w' => e = .returned (.string h) ∧ Blk w' g 55 #[.string ByteArray.empty] ∧ Below g w w' ∧ KeepBut w w' g none := by
  have c0 : w.cell? ⟨g, 0, none⟩ = some (.string h) := hb.cell 0
  have f0 := hb.frozen 0
  have Hb := Lib.hid hb
  go_enter Try.func16, Try.ntmps16
  go_wp2_with (go_at_call 17; (with_reducible refine (held_any g h _ Hb.out).mono ?_); rintro e w' ⟨rfl, rfl⟩)
  go_ret
  exact ⟨rfl, Hb.out.set_ 0 _, Below.setCell (p := ⟨g, 0, none⟩) (Below.refl _ _) (Nat.le_refl g) _, (KeepBut.refl _ _ _).set_ 0 _⟩
theorem end_any (g : Nat) (h : ByteArray) (w : World) (hb : Blk w g 55 #[.string h]) : Calls Try.prog 16 #[.pointer (some ⟨g, 0, none⟩)] w fun e w' => e = .returned (.string h) ∧ Blk w' g 55 #[.string ByteArray.empty] ∧ Below g w w' := (end_keep g h w hb).mono fun e w' ⟨a, b, c, _⟩ => ⟨a, b, c⟩
theorem end_nil (w : World) : Calls Try.prog 16 #[.pointer none] w fun e w' => e = .returned (.string ByteArray.empty) ∧ w = w' := by
  go_enter Try.func16, Try.ntmps16
  go_wp2_with (go_at_call 17; (with_reducible refine (held_nil _).mono ?_); rintro e w' ⟨rfl, rfl⟩)
  go_ret
  exact ⟨rfl, rfl⟩
theorem new_any (w : World) : Calls Try.prog 14 #[] w fun e w' => e = .returned (.pointer (some ⟨w.heap.size, 0, none⟩)) ∧ w' = w.alloc (.cells #[.string ByteArray.empty] 55) := by
  go_enter Try.func14, Try.ntmps14
  go_wp2
  go_ret
  exact ⟨rfl, rfl⟩
theorem feed_nil (t : ByteArray) (w : World) : Calls Try.prog 15 #[.pointer none, .string t] w fun e w' => e = .returned (.string ByteArray.empty) ∧ w = w' := by
  go_enter Try.func15, Try.ntmps15
  go_wp2
  go_ret
  exact ⟨rfl, rfl⟩
theorem size_sure (s : ByteArray) : (sureP s).size ≤ s.size := by
  obtain ⟨u0, u1, u2⟩ := usz_range s
  unfold sureP
  rw [size_ext _ _ _ (by omega)]
  omega
theorem feed_keep (g : Nat) (h t : ByteArray) (w : World) (hb : Blk w g 55 #[.string h]) (hs : h.size + t.size ≤ 140737488351232) : Calls Try.prog 15 #[.pointer (some ⟨g, 0, none⟩), .string t] w fun e w' => e = .returned (.string (decS (sureP (h ++ t)))) ∧ Blk w' g 55 #[.string (heldP (h ++ t))] ∧ Below g w w' ∧ KeepBut w w' g none := by
  have hsz : (h ++ t).size = h.size + t.size := ByteArray.size_append
  obtain ⟨u0, u1, u2⟩ := usz_range (h ++ t)
  have hD : ∀ W, Calls Try.prog 10 #[.string ((h ++ t).extract 0 (↑h.size + ↑t.size - usz (h ++ t)).toNat)] W fun e w' => e = .returned (.string (decS (sureP (h ++ t)))) ∧ Below W.heap.size W w' := fun W => by
    have e1 : sureP (h ++ t) = (h ++ t).extract 0 (↑h.size + ↑t.size - usz (h ++ t)).toNat := by unfold sureP; rw [hsz, Int.natCast_add]
    rw [← e1]
    exact decode_any _ W (by have := size_sure (h ++ t); omega)
  have hH : heldP (h ++ t) = (h ++ t).extract (↑h.size + ↑t.size - usz (h ++ t)).toNat (h.size + t.size) := by unfold heldP; rw [hsz, Int.natCast_add]
  have HD := Lib.hid hD
  have HH := Lib.hid hH
  clear hD hH
  have c0 : w.cell? ⟨g, 0, none⟩ = some (.string h) := hb.cell 0
  have f0 := hb.frozen 0
  have Hb := Lib.hid hb
  go_enter Try.func15, Try.ntmps15
  go_wp2_with (first
    | (go_at_call 30; (with_reducible refine (unsure_any (h ++ t) _ (by omega)).mono ?_); rintro e w' ⟨rfl, rfl⟩)
    | (go_at_call 10; (with_reducible refine (HD.out _).mono ?_); rintro e w2 ⟨rfl, hb2⟩))
  go_ret
  have hb3 := Hb.out.set_ 0 (.string (heldP (h ++ t)))
  rw [HH.out] at hb3 ⊢
  exact ⟨rfl, hb3.after hb2, (Below.setCell (p := ⟨g, 0, none⟩) (Below.refl _ _) (Nat.le_refl g) _).trans (hb2.mono (Nat.le_of_lt hb3.lt)), ((KeepBut.refl _ _ _).set_ 0 _).trans (KeepBut.of_below hb2 g none) (.inl rfl)⟩
theorem feed_any (g : Nat) (h t : ByteArray) (w : World) (hb : Blk w g 55 #[.string h]) (hs : h.size + t.size ≤ 140737488351232) : Calls Try.prog 15 #[.pointer (some ⟨g, 0, none⟩), .string t] w fun e w' => e = .returned (.string (decS (sureP (h ++ t)))) ∧ Blk w' g 55 #[.string (heldP (h ++ t))] ∧ Below g w w' := (feed_keep g h t w hb hs).mono fun e w' ⟨a, b, c, _⟩ => ⟨a, b, c⟩
end Go.Proofs.Ytfbgmlophkbejaa
