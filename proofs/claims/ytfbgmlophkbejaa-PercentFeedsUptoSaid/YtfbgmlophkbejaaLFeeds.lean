/- PercentFeeds: the walk of the statement. -/
import Derived.Test.YtfbgmlophkbejaaPctI
set_option linter.unusedVariables false
set_option linter.unusedSimpArgs false
namespace Go.Proofs.Ytfbgmlophkbejaa
open Go.RowKit Go.Proofs.YtfbgmlophkbejaaW.PrintWords Go.Proofs.YtfbgmlophkbejaaW.PrintLast
/-- the state of the feeding behind k pieces -/
def FedAt (l : List ByteArray) (w : World) (g : Nat) (k : Nat) (all out : ByteArray) (wr : World) : Prop :=
  all = catS l k ∧ out = decS (sureP (catS l k)) ∧ Blk wr g 55 #[.string (heldP (catS l k))] ∧ Below w.heap.size w wr
theorem below_after' {B : Nat} {w w1 w2 : World} (h : Below B w w1) (k : Below w1.heap.size w1 w2) (hB : B ≤ w1.heap.size := by omega) : Below B w w2 := h.trans (k.mono hB)
theorem decS_size (s : ByteArray) : (decS s).size ≤ s.size := by
  have := itemsF_len s _ 0 (by omega) (by omega) rfl
  unfold decS decL
  rw [strOfNums_size, List.length_map]
  omega
theorem fed_facts (l : List ByteArray) (w : World) (g k : Nat) (all out : ByteArray) (wr : World) (hk : k < l.length) (hs : sizeS l ≤ 1099511627776) (h : FedAt l w g k all out wr) :
    ∃ A H H' X D : ByteArray, all ++ l.getD k ByteArray.empty = A ∧ out ++ X = D ∧ Blk wr g 55 #[.string H] ∧
      (∀ W, Blk W g 55 #[.string H] → Calls Try.prog 15 #[.pointer (some ⟨g, 0, none⟩), .string (l.getD k ByteArray.empty)] W fun e w' => e = .returned (.string X) ∧ Blk w' g 55 #[.string H'] ∧ Below g W w') ∧
      (∀ W, Calls Try.prog 18 #[.string A] W fun e w' => e = .returned (.string H') ∧ W = w') ∧
      (∀ W, Calls Try.prog 7 #[.string (A.extract 0 (A.size - H'.size))] W fun e w' => ∃ n v, e = .returned (.tuple #[.string D, .int .i64 n, v]) ∧ Below W.heap.size W w') ∧
      (∀ W, Blk W g 55 #[.string H'] → Calls Try.prog 17 #[.pointer (some ⟨g, 0, none⟩)] W fun e w' => e = .returned (.string H') ∧ W = w') ∧
      (∀ W, Blk W g 55 #[.string H'] → Below w.heap.size w W → FedAt l w g (k + 1) A D W) ∧ A.size ≤ 1099511627776 ∧ H'.size ≤ A.size ∧ all.size + (l.getD k ByteArray.empty).size ≤ 1099511627776 ∧ out.size + X.size ≤ 1099511627776 := by
  obtain ⟨rfl, rfl, hb, hbel⟩ := h
  have hz := catS_size l (k + 1)
  have hsu := catS_succ l k hk
  have hst := dec_step (catS l k) (l.getD k ByteArray.empty)
  have hhe := held_step (catS l k) (l.getD k ByteArray.empty)
  obtain ⟨u0, u1, u2⟩ := usz_range (catS l (k + 1))
  have hhz : ((heldP (catS l (k + 1))).size : Int) = usz (catS l (k + 1)) := by unfold heldP; rw [size_ext _ _ _ (Nat.le_refl _)]; omega
  have hz2 : (heldP (catS l k) ++ l.getD k ByteArray.empty).size ≤ (catS l k ++ l.getD k ByteArray.empty).size := by
    obtain ⟨u0, u1, u2⟩ := usz_range (catS l k)
    have : ((heldP (catS l k)).size : Int) = usz (catS l k) := by unfold heldP; rw [size_ext _ _ _ (Nat.le_refl _)]; omega
    rw [ByteArray.size_append, ByteArray.size_append]
    omega
  rw [← hsu] at hst hhe hz2
  refine ⟨catS l (k + 1), heldP (catS l k), heldP (catS l (k + 1)), decS (sureP (heldP (catS l k) ++ l.getD k ByteArray.empty)), decS (sureP (catS l (k + 1))), hsu.symm, hst, hb, fun W hW => ?_, fun W => ?_, fun W => ?_, fun W hW => held_any g _ W hW, fun W h1 h2 => ⟨rfl, rfl, h1, h2⟩, by omega, by omega, by rw [← ByteArray.size_append, ← hsu]; omega, by rw [← ByteArray.size_append, hst]; have := decS_size (sureP (catS l (k + 1))); have := size_sure (catS l (k + 1)); omega⟩
  · have := feed_any g (heldP (catS l k)) (l.getD k ByteArray.empty) W hW (by rw [← ByteArray.size_append]; omega)
    rw [← hhe] at this
    exact this
  · exact (rheld_any _ W (by omega)).mono fun e w' ⟨a, b⟩ => ⟨a, b.symm⟩
  · have e : (catS l (k + 1)).extract 0 ((catS l (k + 1)).size - (heldP (catS l (k + 1))).size) = sureP (catS l (k + 1)) := by
      have : (catS l (k + 1)).size - (heldP (catS l (k + 1))).size = ((catS l (k + 1)).size - usz (catS l (k + 1)) : Int).toNat := by omega
      rw [this]
      rfl
    rw [e]
    exact (rdecode_any _ W (by have := size_sure (catS l (k + 1)); omega)).mono fun e w' ⟨v, h1, h2, h3⟩ => ⟨_, v, h1, h3⟩
set_option maxRecDepth 100000 in
set_option maxHeartbeats 2000000 in
theorem percentFeeds_any (l : List ByteArray) (Ap : Option Addr) (cp : Nat) (w : World) (hR : ReadsOf Value.string ByteArray.empty w Ap l.length l) (hs : sizeS l ≤ 1099511627776) (hn : l.length ≤ 1099511627776) :
    Calls Try.prog 4 #[.slice Ap l.length cp] w fun e w' => e = .returned (.bool true) ∧ Below w.heap.size w w' := by
  have HR := Lib.hid hR
  clear hR
  go_enter Try.func4, Try.ntmps4
  go_wp2_with (first
    | (go_at_call 14; (with_reducible refine (new_any _).mono ?_); rintro e w1 ⟨rfl, rfl⟩)
    | (go_at_call 9; (with_reducible refine (awake_any _).mono ?_); rintro e w2 ⟨rfl, hb2⟩)
    | (go_at_call 15; (with_reducible refine (feed_nil _ _).mono ?_); rintro e w3 ⟨rfl, rfl⟩)
    | (go_at_call 16; (with_reducible refine (end_nil _).mono ?_); rintro e w4 ⟨rfl, rfl⟩)
    | (go_at_call 17; (with_reducible refine (held_nil _).mono ?_); rintro e w5 ⟨rfl, rfl⟩))
  have hB0 : Blk w2 w.heap.size 55 #[.string ByteArray.empty] := (Blk.new _ _ _).after hb2
  have hL0 : Below w.heap.size w w2 := below_after (below_one _ _) hb2
  clear hb2
  obtain ⟨g, hg⟩ : ∃ g, w.heap.size = g := ⟨_, rfl⟩
  have Hg := Lib.hid hg
  simp only [hg] at hB0 ⊢
  clear hg
  go_loopw [5] (fun i wr => ∃ r : Int, i = .int .i64 r ∧ 0 ≤ r ∧ r ≤ 2 ∧ Blk wr g 55 #[.string ByteArray.empty] ∧ Below g w wr) (fun i _ => 2 - (intOf i).toNat)
  case atStart => exact ⟨0, rfl, by omega, by omega, hB0, Hg.out ▸ hL0⟩
  case round =>
    obtain ⟨r, rfl, hr0, hr1, hB, hL⟩ := hrel
    clear hB0 hL0
    obtain ⟨wo, rfl⟩ : ∃ wo : World, wo = wr := ⟨_, rfl⟩
    by_cases hlt : r < 2
    · go_wp2
      go_loopw [6, 7, 8] (fun a o i wr => ∃ (k : Nat) (all out : ByteArray), i = .int .i64 (k : Int) ∧ k ≤ l.length ∧ a = .string all ∧ o = .string out ∧ FedAt l w g k all out wr) (fun _ _ i _ => l.length - (intOf i).toNat)
      case atStart => exact ⟨0, _, _, rfl, by omega, rfl, rfl, rfl, by rw [catS_zero, sure_empty, dec_empty]; rfl, by rw [catS_zero, held_empty]; exact hB, Hg.out ▸ hL⟩
      case round =>
        obtain ⟨k, all, out, rfl, hk, rfl, rfl, hF⟩ := hrel
        by_cases hkl : k < l.length
        · obtain ⟨ha, ho, hb, hbel⟩ := hF
          obtain ⟨A, H, H', X, D, hA, hX, hH, hfeed, hheld, hrd, hhl, hfin, hsz, hsh, hs1, hs2⟩ := fed_facts l w g k all out wr hkl hs ⟨ha, ho, hb, hbel⟩
          obtain ⟨ad, rfl, c0⟩ := (HR.out.below hbel).at_ k (by omega) (by omega)
          simp only [rdOf, Int.toNat_natCast] at c0
          generalize l.getD k ByteArray.empty = t at *
          have Hfeed := Lib.hid hfeed
          have Hheld := Lib.hid hheld
          have Hrd := Lib.hid hrd
          have Hhl := Lib.hid hhl
          have Hfin := Lib.hid hfin
          have Hb := Lib.hid hH
          have Hbel := Lib.hid hbel
          clear hfeed hheld hrd hhl hfin hH ha ho hb hbel hB hL
          go_wp2_with (first
            | (go_at_call 15; (with_reducible refine (Hfeed.out _ Hb.out).mono ?_); rintro e w1 ⟨rfl, hb1, hl1⟩)
            | (go_at_call 18; (with_reducible refine (Hheld.out _).mono ?_); rintro e w2 ⟨rfl, rfl⟩)
            | (go_at_call 7; (with_reducible refine (Hrd.out _).mono ?_); rintro e w3 ⟨n, v, rfl, hl3⟩; have hb3 := hb1.after hl3)
            | (go_at_call 17; (with_reducible refine (Hhl.out _ hb3).mono ?_); rintro e w4 ⟨rfl, rfl⟩))
          exact ⟨⟨k + 1, _, _, rfl, by omega, rfl, rfl, Hfin.out _ hb3 (below_after (Hbel.out.trans (hl1.mono (Nat.le_of_eq Hg.out))) hl3)⟩, by simp [intOf]; omega⟩
        · obtain rfl : k = l.length := by omega
          obtain ⟨ha, ho, hb, hbel⟩ := hF
          have hz := catS_size l l.length
          rw [← ha] at hb hz ho
          have hend : out ++ heldP all = decS all := by rw [ho]; exact dec_end all
          have hs1 : out.size + (heldP all).size ≤ 1099511627776 := by rw [← ByteArray.size_append, hend]; have := decS_size all; omega
          have hrd : ∀ W, Calls Try.prog 7 #[.string all] W fun e w' => ∃ n v, e = .returned (.tuple #[.string (decS all), .int .i64 n, v]) ∧ Below W.heap.size W w' := fun W => (rdecode_any _ W (by omega)).mono fun e w' ⟨v, h1, h2, h3⟩ => ⟨_, v, h1, h3⟩
          clear ho ha
          generalize heldP all = H at *
          generalize decS all = D at *
          have Hrd := Lib.hid hrd
          have Hb := Lib.hid hb
          have Hbel := Lib.hid hbel
          clear hrd hb hbel hB hL
          go_wp2_with (first
            | (go_at_call 7; (with_reducible refine (Hrd.out _).mono ?_); rintro e w3 ⟨n, v, rfl, hl3⟩; have hb3 := Hb.out.after hl3)
            | (go_at_call 16; (with_reducible refine (end_any g H _ hb3).mono ?_); rintro e w4 ⟨rfl, hb4, hl4⟩)
            | (go_at_call 17; (with_reducible refine (held_any g ByteArray.empty _ hb4).mono ?_); rintro e w5 ⟨rfl, rfl⟩))
          exact ⟨⟨r + 1, rfl, by omega, by omega, hb4, (below_after' (Hg.out ▸ Hbel.out) hl3 (by have := Hbel.out.size; have := Hg.out; omega)).trans hl4⟩, by simp [intOf]; omega⟩
    · obtain rfl : r = 2 := by omega
      go_wp2
      go_ret
      exact ⟨rfl, Hg.out ▸ hL⟩
end Go.Proofs.Ytfbgmlophkbejaa
