/- PercentTwo: the walk of the statement. -/
import Derived.Test.YtfbgmlophkbejaaLFeeds
import Derived.Test.YtfbgmlophkbejaaBase2
set_option linter.unusedVariables false
set_option linter.unusedSimpArgs false
namespace Go.Proofs.Ytfbgmlophkbejaa
open Go.RowKit Go.Proofs.YtfbgmlophkbejaaW.PrintWords Go.Proofs.YtfbgmlophkbejaaW.PrintLast
theorem FedAt.stay {l : List ByteArray} {w wr : World} {g k : Nat} {all out : ByteArray} (h : FedAt l w g k all out wr) (hk : l.length ≤ k) : FedAt l w g (k + 1) all out wr := by
  have e : catS l (k + 1) = catS l k := by unfold catS; rw [List.take_of_length_le (by omega), List.take_of_length_le hk]
  unfold FedAt at *
  rw [e]
  exact h
theorem FedAt.keep {l : List ByteArray} {w wr wr' : World} {g g' k : Nat} {all out : ByteArray} (h : FedAt l w g k all out wr) (hk : KeepBut wr wr' g' none) (hne : g ≠ g') (hb : Below w.heap.size w wr') : FedAt l w g k all out wr' :=
  ⟨h.1, h.2.1, hk.blk h.2.2.1 hne (by simp), hb⟩
/-- a piece more, by a call -/
theorem fed_call (l : List ByteArray) (w : World) (g k : Nat) (all out : ByteArray) (wr : World) (hg : w.heap.size ≤ g) (hk : k < l.length) (hs : sizeS l ≤ 1099511627776) (h : FedAt l w g k all out wr) :
    ∃ A X D : ByteArray, all ++ l.getD k ByteArray.empty = A ∧ out ++ X = D ∧ all.size + (l.getD k ByteArray.empty).size ≤ 1099511627776 ∧ out.size + X.size ≤ 1099511627776 ∧
      (∀ W, FedAt l w g k all out W → Calls Try.prog 15 #[.pointer (some ⟨g, 0, none⟩), .string (l.getD k ByteArray.empty)] W fun e w' => e = .returned (.string X) ∧ FedAt l w g (k + 1) A D w' ∧ KeepBut W w' g none ∧ Below w.heap.size w w') := by
  obtain ⟨A, H, H', X, D, hA, hX, hH, hfeed, _, _, _, hfin, hsz, hsh, hs1, hs2⟩ := fed_facts l w g k all out wr hk hs h
  obtain ⟨rfl, rfl, hb, hbel⟩ := h
  refine ⟨catS l (k + 1), decS (sureP (heldP (catS l k) ++ l.getD k ByteArray.empty)), decS (sureP (catS l (k + 1))), (catS_succ l k hk).symm, by rw [dec_step, ← catS_succ l k hk], hs1, ?_, fun W ⟨_, _, hW, hWb⟩ => ?_⟩
  · rw [← ByteArray.size_append, dec_step, ← catS_succ l k hk]
    have := decS_size (sureP (catS l (k + 1)))
    have := size_sure (catS l (k + 1))
    have := catS_size l (k + 1)
    omega
  · have hz2 : (heldP (catS l k) ++ l.getD k ByteArray.empty).size ≤ (catS l k ++ l.getD k ByteArray.empty).size := by
      obtain ⟨u0, u1, u2⟩ := usz_range (catS l k)
      have : ((heldP (catS l k)).size : Int) = usz (catS l k) := by unfold heldP; rw [size_ext _ _ _ (Nat.le_refl _)]; omega
      rw [ByteArray.size_append, ByteArray.size_append]
      omega
    rw [← catS_succ l k hk] at hz2
    have hcz := catS_size l (k + 1)
    refine (feed_keep g (heldP (catS l k)) (l.getD k ByteArray.empty) W hW (by rw [← ByteArray.size_append]; omega)).mono fun e w' ⟨h1, h2, h3, h4⟩ => ⟨h1, ⟨rfl, rfl, ?_, hWb.trans (h3.mono hg)⟩, h4, hWb.trans (h3.mono hg)⟩
    rw [← held_step, ← catS_succ l k hk] at h2
    exact h2
/-- the end, by a call -/
theorem fed_end (l : List ByteArray) (w : World) (g k : Nat) (all out : ByteArray) (wr : World) (hg : w.heap.size ≤ g) (hs : sizeS l ≤ 1099511627776) (h : FedAt l w g k all out wr) :
    ∃ X D : ByteArray, out ++ X = D ∧ out.size + X.size ≤ 1099511627776 ∧
      (∀ W, Calls Try.prog 7 #[.string all] W fun e w' => ∃ n v, e = .returned (.tuple #[.string D, .int .i64 n, v]) ∧ Below W.heap.size W w') ∧
      (∀ W, FedAt l w g k all out W → Calls Try.prog 16 #[.pointer (some ⟨g, 0, none⟩)] W fun e w' => e = .returned (.string X) ∧ KeepBut W w' g none ∧ Below w.heap.size w w') := by
  obtain ⟨rfl, rfl, hb, hbel⟩ := h
  have hz := catS_size l k
  refine ⟨heldP (catS l k), decS (catS l k), dec_end _, ?_, fun W => (rdecode_any _ W (by omega)).mono fun e w' ⟨v, h1, h2, h3⟩ => ⟨_, v, h1, h3⟩, fun W ⟨_, _, hW, hWb⟩ => (end_keep g _ W hW).mono fun e w' ⟨h1, h2, h3, h4⟩ => ⟨h1, h4, hWb.trans (h3.mono hg)⟩⟩
  rw [← ByteArray.size_append, dec_end]
  have := decS_size (catS l k)
  omega
set_option maxRecDepth 100000 in
set_option maxHeartbeats 4000000 in
theorem percentTwo_any (l m : List ByteArray) (Ap Bp : Option Addr) (cp dp : Nat) (w : World) (hR : ReadsOf Value.string ByteArray.empty w Ap l.length l) (hQ : ReadsOf Value.string ByteArray.empty w Bp m.length m) (hs : sizeS l ≤ 1099511627776) (ht : sizeS m ≤ 1099511627776) (hn : l.length ≤ 1099511627776) (hm : m.length ≤ 1099511627776) :
    Calls Try.prog 5 #[.slice Ap l.length cp, .slice Bp m.length dp] w fun e w' => e = .returned (.bool true) ∧ Below w.heap.size w w' := by
  have HR := Lib.hid hR
  have HQ := Lib.hid hQ
  clear hR hQ
  go_enter Try.func5, Try.ntmps5
  go_wp2_with (first
    | (go_at_call 14; (with_reducible refine (new_any _).mono ?_); rintro e w1 ⟨rfl, rfl⟩)
    | (go_at_call 9; (with_reducible refine (awake_any _).mono ?_); rintro e w2 ⟨rfl, hb2⟩))
  have hB1 : Blk w2 w.heap.size 55 #[.string ByteArray.empty] := ((Blk.new _ _ _).alloc _).after hb2
  have hB2 : Blk w2 (w.heap.size + 1) 55 #[.string ByteArray.empty] := (Blk.at_new (by simp)).after hb2
  have hL0 : Below w.heap.size w w2 := below_after (below_alloc (below_one _ _) _) hb2
  clear hb2
  obtain ⟨g, hg⟩ : ∃ g, w.heap.size = g := ⟨_, rfl⟩
  have Hg := Lib.hid hg
  have hgle : w.heap.size ≤ g := by omega
  rw [hg] at hB1 hB2
  simp only [hg]
  clear hg
  go_loopw [7, 8, 9, 10, 11] (fun a b c d i wr => ∃ (k : Nat) (p q x y : ByteArray), i = .int .i64 (k : Int) ∧ (k ≤ l.length ∨ k ≤ m.length) ∧ a = .string p ∧ b = .string q ∧ c = .string x ∧ d = .string y ∧ FedAt l w g k p x wr ∧ FedAt m w (g + 1) k q y wr) (fun _ _ _ _ i _ => l.length + m.length - (intOf i).toNat)
  case atStart => exact ⟨0, _, _, _, _, rfl, by omega, rfl, rfl, rfl, rfl, ⟨rfl, by rw [catS_zero, sure_empty, dec_empty]; rfl, by rw [catS_zero, held_empty]; exact hB1, hL0⟩, ⟨rfl, by rw [catS_zero, sure_empty, dec_empty]; rfl, by rw [catS_zero, held_empty]; exact hB2, hL0⟩⟩
  case round =>
    obtain ⟨k, p, q, x, y, rfl, hk, rfl, rfl, rfl, rfl, hF1, hF2⟩ := hrel
    clear hB1 hB2 hL0
    by_cases h1 : k < l.length
    · obtain ⟨A, X, D, hA, hX, hs1, hs2, hf1⟩ := fed_call l w g k p x wr (by omega) h1 hs hF1
      obtain ⟨ad, rfl, c0⟩ := (HR.out.below hF1.2.2.2).at_ k (by omega) (by omega)
      simp only [rdOf, Int.toNat_natCast] at c0
      have Hf1 := Lib.hid hf1
      clear hf1
      generalize l.getD k ByteArray.empty = t1 at *
      by_cases h2 : k < m.length
      · obtain ⟨B, Y, E, hB, hY, hs3, hs4, hf2⟩ := fed_call m w (g + 1) k q y wr (by omega) h2 ht hF2
        obtain ⟨bd, rfl, -⟩ := (HQ.out.below hF2.2.2.2).at_ k (by omega) (by omega)
        have hQ2 : ∀ W, Below w.heap.size w W → W.cell? (bd.add k) = some (.string (m.getD k ByteArray.empty)) := fun W hW => by
          obtain ⟨bd', he, hc⟩ := (HQ.out.below hW).at_ k (by omega) (by omega)
          obtain rfl := Option.some.inj he
          simpa only [rdOf, Int.toNat_natCast] using hc
        have Hf2 := Lib.hid hf2
        have HQ2 := Lib.hid hQ2
        have HF1 := Lib.hid hF1
        have HF2 := Lib.hid hF2
        clear hf2 hQ2 hF1 hF2
        generalize m.getD k ByteArray.empty = t2 at *
        go_wp2_with (first
          | (go_at_call 15; (with_reducible refine (Hf1.out _ HF1.out).mono ?_); rintro e w1 ⟨rfl, hG1, hk1, hb1⟩; have hG2 := HF2.out.keep hk1 (by omega) hb1; have d0 := HQ2.out _ hb1; have Hk1 := Lib.hid hk1; clear hk1)
          | (go_at_call 15; (with_reducible refine (Hf2.out _ hG2).mono ?_); rintro e w3 ⟨rfl, hG3, hk3, hb3⟩; have hG4 := hG1.keep hk3 (by omega) hb3))
        exact ⟨⟨k + 1, _, _, _, _, rfl, by omega, rfl, rfl, rfl, rfl, hG4, hG3⟩, by simp [intOf]; omega⟩
      · have HF1 := Lib.hid hF1
        have HF2 := Lib.hid hF2
        clear hF1 hF2
        go_wp2_with (first
          | (go_at_call 15; (with_reducible refine (Hf1.out _ HF1.out).mono ?_); rintro e w1 ⟨rfl, hG1, hk1, hb1⟩; have hG2 := (HF2.out.keep hk1 (by omega) hb1).stay (by omega); have Hk1 := Lib.hid hk1; clear hk1))
        exact ⟨⟨k + 1, _, _, _, _, rfl, by omega, rfl, rfl, rfl, rfl, hG1, hG2⟩, by simp [intOf]; omega⟩
    · by_cases h2 : k < m.length
      · obtain ⟨B, Y, E, hB, hY, hs3, hs4, hf2⟩ := fed_call m w (g + 1) k q y wr (by omega) h2 ht hF2
        obtain ⟨bd, rfl, d0⟩ := (HQ.out.below hF2.2.2.2).at_ k (by omega) (by omega)
        simp only [rdOf, Int.toNat_natCast] at d0
        have Hf2 := Lib.hid hf2
        have HF1 := Lib.hid hF1
        have HF2 := Lib.hid hF2
        clear hf2 hF1 hF2
        generalize m.getD k ByteArray.empty = t2 at *
        go_wp2_with (first
          | (go_at_call 15; (with_reducible refine (Hf2.out _ HF2.out).mono ?_); rintro e w3 ⟨rfl, hG3, hk3, hb3⟩; have hG4 := (HF1.out.keep hk3 (by omega) hb3).stay (by omega); have Hk3 := Lib.hid hk3; clear hk3))
        exact ⟨⟨k + 1, _, _, _, _, rfl, by omega, rfl, rfl, rfl, rfl, hG4, hG3⟩, by simp [intOf]; omega⟩
      · obtain ⟨X, D, hX, hs1, hr1, he1⟩ := fed_end l w g k p x wr (by omega) hs hF1
        obtain ⟨Y, E, hY, hs2, hr2, he2⟩ := fed_end m w (g + 1) k q y wr (by omega) ht hF2
        have HF1 := Lib.hid hF1
        have HF2 := Lib.hid hF2
        have Hr1 := Lib.hid hr1
        have Hr2 := Lib.hid hr2
        have He1 := Lib.hid he1
        have He2 := Lib.hid he2
        clear hF1 hF2 hr1 hr2 he1 he2 hk
        go_wp2_with (first
          | (go_at_call 7; (with_reducible refine (Hr1.out _).mono ?_); rintro e w1 ⟨n1, v1, rfl, hb1⟩; have hG1 := HF1.out.keep (KeepBut.of_below hb1 (g + 2) none) (by omega) (below_after HF1.out.2.2.2 hb1); have hG2 := HF2.out.keep (KeepBut.of_below hb1 (g + 2) none) (by omega) (below_after HF1.out.2.2.2 hb1))
          | (go_at_call 7; (with_reducible refine (Hr2.out _).mono ?_); rintro e w3 ⟨n2, v2, rfl, hb3⟩; have hG3 := hG1.keep (KeepBut.of_below hb3 (g + 2) none) (by omega) (below_after hG1.2.2.2 hb3); have hG4 := hG2.keep (KeepBut.of_below hb3 (g + 2) none) (by omega) (below_after hG1.2.2.2 hb3))
          | (go_at_call 16; (with_reducible refine (He1.out _ hG3).mono ?_); rintro e w4 ⟨rfl, hk4, hb4⟩; have hG5 := hG4.keep hk4 (by omega) hb4)
          | (go_at_call 16; (with_reducible refine (He2.out _ hG5).mono ?_); rintro e w5 ⟨rfl, hk5, hb5⟩))
        go_ret
        exact ⟨rfl, hb5⟩
end Go.Proofs.Ytfbgmlophkbejaa
