/- Percent: the document's Normal. -/
import Derived.Test.YtfbgmlophkbejaaPctJ
import Derived.Test.YtfbgmlophkbejaaPctE
set_option linter.unusedVariables false
set_option linter.unusedSimpArgs false
namespace Go.Proofs.Ytfbgmlophkbejaa
open Go.RowKit Go.Proofs.YtfbgmlophkbejaaW.PrintWords Go.Proofs.YtfbgmlophkbejaaW.PrintLast
/-- the state ahead of the item at k -/
def RNorAt (p : Int → Bool) (s : ByteArray) (k : Int) (xs : List Int) : Prop := xs ++ encL (one37 p) ((itemsF s k).map (byteC s)) = encL (one37 p) (decL s)
/-- one item: what the byte is, its coding or not -/
theorem rnor_item (p : Int → Bool) (s : ByteArray) (k : Int) (xs : List Int) (h0 : 0 ≤ k) (h : k < s.size) (hR : RNorAt p s k xs) :
    (strOfNums xs).size ≤ 3 * s.size ∧ RNorAt p s (nxtC s k) (xs ++ encB (one37 p) (byteC s k)) ∧ (one37 p (byteC s k) = true → strOfNums (xs ++ encB (one37 p) (byteC s k)) = strOfNums xs ++ codeS (byteC s k)) ∧ (one37 p (byteC s k) = false → strOfNums (xs ++ encB (one37 p) (byteC s k)) = strOfNums xs ++ strOfNums [byteC s k]) := by
  refine ⟨?_, norm_step p s k xs _ h hR, fun hq => ?_, fun hq => ?_⟩
  · rw [strOfNums_size]
    have := norm_len p s k xs h0 h hR
    omega
  · rw [← strOfNums_append]; unfold encB codeS; rw [if_pos hq]
  · rw [← strOfNums_append]; unfold encB; rw [if_neg (by rw [hq]; simp)]
theorem one_text (w : World) (b : Int) : (convert 49 9 (.slice (some ⟨w.heap.size, 0, none⟩) 1 1)).run Try.prog (w.alloc (.cells #[.int .u8 b] 5)) = .ok (.string (strOfNums [b])) (w.alloc (.cells #[.int .u8 b] 5)) := by
  have hb : Blk (w.alloc (.cells #[.int .u8 b] 5)) w.heap.size 5 (nums .u8 [b]).toArray := Blk.new _ _ _
  exact string_of_reads (c := 1) Try.underlying49 Try.underlying5 Try.underlying9 (reads_blk hb (by simp))
set_option maxHeartbeats 4000000 in
theorem rnormal_any (s : ByteArray) (m : List Int) (p : Int → Bool) (w : World) (hs : s.size * 3 ≤ 140737488351232) (hm : m.length = 256) (hp : ∀ b, 0 ≤ b → b < 256 → (rd m b == 1) = p b) :
    Calls Try.prog 23 #[.string s, .agg (nums .u8 m).toArray] w fun e w' => e = .returned (.string (normS p s)) ∧ Below w.heap.size w w' := by
  have Hp := Lib.hid hp
  clear hp
  go_enter Try.func23, Try.ntmps23
  go_wp2
  go_loopw [5, 6] (fun u v wr => ∃ (k : Int) (xs : List Int), u = .string (strOfNums xs) ∧ v = .int .i64 k ∧ 0 ≤ k ∧ k ≤ s.size ∧ Hid (RNorAt p s k xs) ∧ Below w.heap.size w wr ∧ Blk wr w.heap.size 44 (nums .u8 m).toArray) (fun _ v _ => s.size - (intOf v).toNat)
  case atStart => exact ⟨0, [], rfl, rfl, by omega, by omega, Lib.hid (by unfold RNorAt; rfl), below_one _ _, Blk.new _ _ _⟩
  case round =>
    obtain ⟨k, xs, rfl, rfl, hk0, hk1, hR, hbel, hblk⟩ := hrel
    by_cases hlt : k < s.size
    · obtain ⟨hsx, hR2, hy, hn⟩ := rnor_item p s k xs hk0 hlt hR.out
      have hbt := bt_at s k
      have hbr := byteC_range s k
      have c0 := blk_num_at hblk (byteC s k) hbr.1 (by omega)
      have hq := Hp.out (byteC s k) hbr.1 (by omega)
      have hcall := fun W => (rcoded_any s k W (by omega) hk0 hlt).mono fun e w' h => (⟨h.1, h.2.symm⟩ : e = .returned (.bool (isC s k)) ∧ W = w')
      have hbc : isC s k = false → byteC s k = bt s k := fun h => by unfold byteC; rw [h]; rfl
      have hbs : isC s k = true → byteC s k = sayC s k := fun h => by unfold byteC; rw [h]; rfl
      have hnx : nxtC s k = if isC s k = true then k + 3 else k + 1 := rfl
      have hsay := fun W h => rsays_any s k W (by omega) hk0 h
      have hob : one37 p (byteC s k) = (byteC s k == 37 || p (byteC s k)) := rfl
      generalize byteC s k = b at *
      have HR2 := Lib.hid hR2
      clear hR hR2
      cases hc : isC s k
      · rw [hc] at hcall hnx
        rw [if_neg (by simp)] at hnx
        rw [← hbc hc] at hbt
        have Hcall := Lib.hid hcall
        have Hnx := Lib.hid hnx
        clear hcall hsay hbs hbc hnx
        cases hpb : p b
        · rw [hpb] at hq
          cases h37 : (b == 37)
          · rw [hpb, h37] at hob
            have Hfin := Lib.hid (hn hob)
            clear hn hy hob
            have ht := one_text
            have hoz : (strOfNums [b]).size ≤ 1 := by rw [strOfNums_size]; simp
            go_wp2_with (first
              | (go_at_call 24; with_reducible refine (Hcall.out _).mono ?_; rintro e w' ⟨rfl, rfl⟩))
            exact ⟨⟨k + 1, _, by rw [Hfin.out], rfl, by omega, by omega, by rw [← Hnx.out]; exact HR2, (below_alloc hbel _), (hblk.alloc _)⟩, by simp [intOf]; omega⟩
          · rw [hpb, h37] at hob
            have Hfin := Lib.hid (hy hob)
            clear hn hy hob
            have hcc := codeS_eq b
            have hhz := Nat.le_of_eq (hexS_size b)
            have hcz := Nat.le_of_eq (codeS_size b)
            go_wp2_with (first
              | (go_at_call 24; with_reducible refine (Hcall.out _).mono ?_; rintro e w' ⟨rfl, rfl⟩)
              | (go_at_call 37; (with_reducible refine (rhex_any b _ hbr.1 hbr.2).mono ?_); rintro e w2 ⟨rfl, hb2⟩))
            exact ⟨⟨k + 1, _, by rw [Hfin.out], rfl, by omega, by omega, by rw [← Hnx.out]; exact HR2, (below_after hbel hb2), (hblk.after hb2)⟩, by simp [intOf]; omega⟩
        · rw [hpb, Bool.or_true] at hob
          rw [hpb] at hq
          have Hfin := Lib.hid (hy hob)
          clear hn hy hob
          have hcc := codeS_eq b
          have hhz := Nat.le_of_eq (hexS_size b)
          have hcz := Nat.le_of_eq (codeS_size b)
          go_wp2_with (first
            | (go_at_call 24; with_reducible refine (Hcall.out _).mono ?_; rintro e w' ⟨rfl, rfl⟩)
            | (go_at_call 37; (with_reducible refine (rhex_any b _ hbr.1 hbr.2).mono ?_); rintro e w2 ⟨rfl, hb2⟩))
          exact ⟨⟨k + 1, _, by rw [Hfin.out], rfl, by omega, by omega, by rw [← Hnx.out]; exact HR2, (below_after hbel hb2), (hblk.after hb2)⟩, by simp [intOf]; omega⟩
      · have hroom := isC_room hc
        have hsay := fun W => hsay W hc
        rw [← hbs hc] at hsay
        rw [hc] at hcall hnx
        rw [if_pos rfl] at hnx
        have Hsay := Lib.hid hsay
        have Hcall := Lib.hid hcall
        have Hnx := Lib.hid hnx
        clear hcall hsay hbs hbc hnx
        cases hpb : p b
        · rw [hpb] at hq
          cases h37 : (b == 37)
          · rw [hpb, h37] at hob
            have Hfin := Lib.hid (hn hob)
            clear hn hy hob
            have ht := one_text
            have hoz : (strOfNums [b]).size ≤ 1 := by rw [strOfNums_size]; simp
            go_wp2_with (first
              | (go_at_call 24; with_reducible refine (Hcall.out _).mono ?_; rintro e w' ⟨rfl, rfl⟩)
              | (go_at_call 25; (with_reducible refine (Hsay.out _).mono ?_); rintro e w1 ⟨rfl, hb1⟩; have hblk1 := hblk.after hb1; have c1 := blk_num_at hblk1 b hbr.1 (by omega)))
            exact ⟨⟨k + 3, _, by rw [Hfin.out], by go_num, by omega, by omega, by rw [← Hnx.out]; exact HR2, (below_alloc (below_after hbel hb1) _), ((hblk.after hb1).alloc _)⟩, by simp [intOf]; omega⟩
          · rw [hpb, h37] at hob
            have Hfin := Lib.hid (hy hob)
            clear hn hy hob
            have hcc := codeS_eq b
            have hhz := Nat.le_of_eq (hexS_size b)
            have hcz := Nat.le_of_eq (codeS_size b)
            go_wp2_with (first
              | (go_at_call 24; with_reducible refine (Hcall.out _).mono ?_; rintro e w' ⟨rfl, rfl⟩)
              | (go_at_call 25; (with_reducible refine (Hsay.out _).mono ?_); rintro e w1 ⟨rfl, hb1⟩; have hblk1 := hblk.after hb1; have c1 := blk_num_at hblk1 b hbr.1 (by omega))
              | (go_at_call 37; (with_reducible refine (rhex_any b _ hbr.1 hbr.2).mono ?_); rintro e w2 ⟨rfl, hb2⟩))
            exact ⟨⟨k + 3, _, by rw [Hfin.out], by go_num, by omega, by omega, by rw [← Hnx.out]; exact HR2, (below_after (below_after hbel hb1) hb2), ((hblk.after hb1).after hb2)⟩, by simp [intOf]; omega⟩
        · rw [hpb, Bool.or_true] at hob
          rw [hpb] at hq
          have Hfin := Lib.hid (hy hob)
          clear hn hy hob
          have hcc := codeS_eq b
          have hhz := Nat.le_of_eq (hexS_size b)
          have hcz := Nat.le_of_eq (codeS_size b)
          go_wp2_with (first
            | (go_at_call 24; with_reducible refine (Hcall.out _).mono ?_; rintro e w' ⟨rfl, rfl⟩)
            | (go_at_call 25; (with_reducible refine (Hsay.out _).mono ?_); rintro e w1 ⟨rfl, hb1⟩; have hblk1 := hblk.after hb1; have c1 := blk_num_at hblk1 b hbr.1 (by omega))
            | (go_at_call 37; (with_reducible refine (rhex_any b _ hbr.1 hbr.2).mono ?_); rintro e w2 ⟨rfl, hb2⟩))
          exact ⟨⟨k + 3, _, by rw [Hfin.out], by go_num, by omega, by omega, by rw [← Hnx.out]; exact HR2, (below_after (below_after hbel hb1) hb2), ((hblk.after hb1).after hb2)⟩, by simp [intOf]; omega⟩
    · obtain rfl : k = s.size := by omega
      have hR := hR.out
      unfold RNorAt at hR
      rw [itemsF_end, List.map_nil] at hR
      have hx2 : strOfNums xs = normS p s := by unfold normS; rw [← hR]; simp [encL]
      rw [hx2]
      clear hR hx2
      go_wp2
      go_ret
      exact ⟨rfl, hbel⟩
end Go.Proofs.Ytfbgmlophkbejaa
