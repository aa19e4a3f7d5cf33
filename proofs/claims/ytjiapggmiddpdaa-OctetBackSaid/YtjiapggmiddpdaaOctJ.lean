/- Numbers printed: the program's Print and the document's. -/
import Derived.Test.YtjiapggmiddpdaaOctI
import Derived.Test.YtjiapggmiddpdaaBase3
import Derived.Test.YtjiapggmiddpdaaBase2
set_option linter.unusedVariables false
set_option linter.unusedSimpArgs false
namespace Go.Proofs.Ytjiapggmiddpdaa
open Go.RowKit Go.Proofs.YtjiapggmiddpdaaW.PrintWords Go.Proofs.YtjiapggmiddpdaaW.PrintLast
/-- the digits of a number, the lowest first -/
def lowD (base : Int) : Nat → Int → List Int
  | 0, _ => []
  | f + 1, n => bt lowT (n % base) :: (if n / base = 0 then [] else lowD base f (n / base))
theorem lowD_step (base n : Int) (f : Nat) : lowD base (f + 1) n = bt lowT (n % base) :: (if n / base = 0 then [] else lowD base f (n / base)) := by rw [lowD]
/-- the state of the loop: what is left, what is laid down -/
def PrSt (base n m : Int) (xs : List Int) : Prop := ∃ f : Nat, xs.length + f = 63 ∧ 0 ≤ m ∧ m < 2 ^ (f + 1) ∧ lowD base 64 n = xs ++ lowD base (f + 1) m
theorem made_nums (k : IntKind) (m : Nat) : madeCells #[Value.int k 0] m = (nums k (List.replicate m 0)).toArray := by
  apply Array.ext
  · simp [madeCells, nums]
  · intro i h1 h2
    simp [madeCells, nums, Nat.mod_one]
theorem rd_reverse (L : List Int) (i : Int) (h0 : 0 ≤ i) (h1 : i < L.length) : rd L.reverse i = rd L (L.length - 1 - i) := by
  have h2 : i.toNat < L.length := by omega
  have h3 : ((L.length : Int) - 1 - i).toNat = L.length - 1 - i.toNat := by omega
  simp only [rd, List.getD_eq_getElem?_getD, h3]
  rw [List.getElem?_reverse h2]
theorem PrSt.start {base n : Int} (h : U64 n) : PrSt base n n [] := ⟨63, rfl, h.1, h.2, rfl⟩
theorem PrSt.next {base n m : Int} {xs : List Int} (hb : 2 ≤ base) (h : PrSt base n m xs) (hm : m / base ≠ 0) : PrSt base n (m / base) (xs ++ [bt lowT (m % base)]) := by
  obtain ⟨f, h1, h2, h3, h4⟩ := h
  have hq : m / base ≤ m / 2 := by
    have h5 : m / base * base ≤ m := by rw [Int.mul_comm]; exact Int.mul_ediv_self_le (by omega)
    have h6 : 0 ≤ m / base := Int.ediv_nonneg h2 (by omega)
    have h7 : m / base * 2 ≤ m / base * base := Int.mul_le_mul_of_nonneg_left hb h6
    omega
  have hpos : 0 ≤ m / base := Int.ediv_nonneg h2 (by omega)
  cases f with
  | zero =>
    exfalso
    have : m < 2 := by simpa using h3
    omega
  | succ f =>
    refine ⟨f, by simp; omega, hpos, ?_, ?_⟩
    · have : (2 : Int) ^ (f + 1 + 1) = 2 ^ (f + 1) * 2 := Int.pow_succ ..
      omega
    · rw [h4, lowD_step, if_neg hm, List.append_assoc]; rfl
theorem PrSt.last {base n m : Int} {xs : List Int} (h : PrSt base n m xs) (hm : m / base = 0) : lowD base 64 n = xs ++ [bt lowT (m % base)] := by
  obtain ⟨f, h1, h2, h3, h4⟩ := h
  rw [h4, lowD_step, if_pos hm]
theorem PrSt.len {base n m : Int} {xs : List Int} (h : PrSt base n m xs) : xs.length ≤ 63 := by obtain ⟨f, h1, _⟩ := h; omega
theorem PrSt.u64 {base n m : Int} {xs : List Int} (h : PrSt base n m xs) : 0 ≤ m ∧ m < 18446744073709551616 := by
  obtain ⟨f, h1, h2, h3, h4⟩ := h
  have h5 : (2 : Int) ^ (f + 1) ≤ 2 ^ 64 := by
    have : (2 : Nat) ^ (f + 1) ≤ 2 ^ 64 := Nat.pow_le_pow_right (by omega) (by omega)
    exact_mod_cast this
  have : (2 : Int) ^ 64 = 18446744073709551616 := by decide
  exact ⟨h2, by omega⟩
set_option maxRecDepth 100000 in
set_option maxHeartbeats 8000000 in
theorem print_any (n base : Int) (w : World) (hn : U64 n) (hb0 : 2 ≤ base) (hb1 : base ≤ 36) : Calls Try.prog 34 #[.int .u64 n, .int .i64 base] w fun e w' => e = .returned (.tuple #[.string (strOfNums (lowD base 64 n).reverse), .int .i64 0]) ∧ Below w.heap.size w w' := by
  have hs := PrSt.start (base := base) hn
  have Hs := Lib.hid hs
  clear hs
  go_enter Try.func34, Try.ntmps34
  go_wp2
  go_loopw [0, 6] (fun u v wr => ∃ (m : Int) (xs : List Int), u = .int .u64 m ∧ Hid (PrSt base n m xs) ∧ Below w.heap.size w wr ∧ wr.ownsRow w.heap.size 5 1 v xs.length (nums .u8 xs)) (fun u _ _ => (intOf u).toNat)
  case atStart => exact ⟨n, [], rfl, Hs, Below.refl _ _, own_nil _ _ _ _⟩
  case round =>
    obtain ⟨m, xs, rfl, hst, hbel, ho⟩ := hrel
    have hm := hst.out.u64
    have hl := hst.out.len
    have hbt : ∀ h : (m % base).toNat < (ByteArray.mk #[48, 49, 50, 51, 52, 53, 54, 55, 56, 57, 97, 98, 99, 100, 101, 102, 103, 104, 105, 106, 107, 108, 109, 110, 111, 112, 113, 114, 115, 116, 117, 118, 119, 120, 121, 122]).size, ((((ByteArray.mk #[48, 49, 50, 51, 52, 53, 54, 55, 56, 57, 97, 98, 99, 100, 101, 102, 103, 104, 105, 106, 107, 108, 109, 110, 111, 112, 113, 114, 115, 116, 117, 118, 119, 120, 121, 122])[(m % base).toNat]'h).toNat : Nat) : Int) = bt lowT (m % base) := bt_at lowT (m % base)
    have hr0 : 0 ≤ m % base := Int.emod_nonneg _ (by omega)
    have hr1 : m % base < base := Int.emod_lt_of_pos _ (by omega)
    have hbr := bt_range lowT (m % base)
    have hq0 : 0 ≤ m / base := Int.ediv_nonneg hm.1 (by omega)
    have hr2 : m % base < 36 := by omega
    cases hz : (m / base == 0)
    · have hz2 : ¬ m / base = 0 := by simpa using hz
      have hlt : m / base < m := by
        have h5 : m / base * base ≤ m := by rw [Int.mul_comm]; exact Int.mul_ediv_self_le (by omega)
        have h7 : m / base * 2 ≤ m / base * base := Int.mul_le_mul_of_nonneg_left hb0 hq0
        omega
      have Hz := Lib.hid hz2
      clear hz2
      go_wp2_with (at_builtin; go_loud (refine print_append_num (w0 := w) (W := wr) w.heap.size rfl (.tmp 16) (.tmp 22) 44 5 .u8 1 rfl Try.underlying44 info_u8 (by decide) _ xs _ rfl rfl ho hbel hbel.size (by omega) ?_); intro v1 w1 ho1 hb1 hg1 hat1)
      exact ⟨⟨m / base, xs ++ [bt lowT (m % base)], rfl, hst.out.next hb0 Hz.out, hb1, ho1⟩, by simp [intOf]; omega⟩
    · have hz2 : m / base = 0 := by simpa using hz
      have hfin := hst.out.last hz2
      have Hf := Lib.hid hfin
      clear hfin hz2
      have hLl : (lowD base 64 n).length ≤ 64 := by rw [Hf.out]; simp; omega
      have hmk := print_make_int (P := Try.prog) 44 5 (.int .u8 0) 1 Try.underlying44 info_u8 rfl (by decide) ((lowD base 64 n).length : Int) (by omega) (by omega)
      rw [Int.toNat_natCast] at hmk
      go_wp2_with (at_builtin; go_loud (refine print_append_num (w0 := w) (W := wr) w.heap.size rfl (.tmp 16) (.tmp 22) 44 5 .u8 1 rfl Try.underlying44 info_u8 (by decide) _ xs _ rfl rfl ho hbel hbel.size (by omega) ?_); intro v1 w1 ho1 hb1 hg1 hat1; rw [← Hf.out] at ho1; obtain ⟨A1, c1, rfl, hR1⟩ := own_reads ho1)
      have hL1 : 0 < (lowD base 64 n).length := by rw [Hf.out]; simp
      clear hmk hbt ho
      generalize hLL : lowD base 64 n = L at *
      have HL := Lib.hid hLL
      clear hLL
      obtain ⟨ad, rfl, hcell⟩ := hR1.2.2 hL1
      have HR := Lib.hid hR1
      clear hR1 hcell ho1 Hf
      have hg : Blk (w1.alloc (.cells (madeCells #[.int .u8 0] L.length) 5)) w1.heap.size 5 (nums .u8 (List.replicate L.length 0)).toArray := by rw [← made_nums]; exact Blk.new _ _ _
      have hbel1 : Below w1.heap.size w1 (w1.alloc (.cells (madeCells #[.int .u8 0] L.length) 5)) := below_one _ _
      go_loopw [35] (fun v wr => ∃ (k : Int) (z : List Int), v = .int .i64 k ∧ 0 ≤ k ∧ k ≤ L.length ∧ Hid (z.length = L.length) ∧ Hid (∀ j, 0 ≤ j → j < k → rd z (L.length - 1 - j) = rd L j) ∧ Below w1.heap.size w1 wr ∧ Blk wr w1.heap.size 5 (nums .u8 z).toArray) (fun v _ => L.length - (intOf v).toNat)
      case atStart => exact ⟨0, List.replicate L.length 0, rfl, by omega, by omega, List.length_replicate, fun j h0 h1 => by omega, hbel1, hg⟩
      case round =>
        clear hg hbel1
        obtain ⟨k, z, rfl, hk0, hk1, hzl, hz, hbel2, hg⟩ := hrel
        by_cases hlt : k < L.length
        · obtain ⟨ad', ha, hc⟩ := (HR.out.below hbel2).at_ k hk0 (by omega)
          injection ha with ha
          subst ha
          have c1 := blk_num_at hg (L.length - 1 - k) (by omega) (by have := hzl.out; omega)
          have c2 := hg.frozen (L.length - 1 - k).toNat
          go_wp2
          refine ⟨⟨k + 1, z.set (L.length - 1 - k).toNat (rd L k), rfl, by omega, by omega, by rw [List.length_set]; exact hzl.out, fun j h0 h1 => ?_, below_set hbel2 (by simp) _, blk_num_set hg _ _⟩, by simp [intOf]; omega⟩
          rw [rd_set z _ _ _ (by omega) (by have := hzl.out; omega) (by omega)]
          by_cases e : j = k
          · subst e; rw [if_pos rfl]
          · rw [if_neg (by omega)]; exact hz.out j h0 (by omega)
        · obtain rfl : k = L.length := by omega
          have hrev : z = L.reverse := ext_rd (by rw [hzl.out, List.length_reverse]) fun i h0 h1 => by
            have hi := hzl.out
            have h2 := hz.out (L.length - 1 - i) (by omega) (by omega)
            rw [show (L.length : Int) - 1 - (L.length - 1 - i) = i from by omega] at h2
            rw [h2, rd_reverse L i h0 (by omega)]
          have hR2 : ReadsInt wr .u8 (some ⟨w1.heap.size, 0, none⟩) L.length z := ⟨hzl.out, by omega, fun _ => ⟨_, rfl, fun j hj => by
            rw [add_plain]
            have := blk_num_at hg (j : Int) (by omega) (by have := hzl.out; omega)
            simpa [rd] using this⟩⟩
          have ht := fun c => string_of_reads (P := Try.prog) (c := c) Try.underlying44 Try.underlying5 Try.underlying9 hR2
          rw [hrev] at ht
          clear hR2
          go_wp2
          go_ret2
          exact ⟨by rw [HL.out]; rfl, below_after hb1 hbel2⟩
theorem print_bad (n base : Int) (w : World) (hb : base < 2 ∨ 36 < base) : Calls Try.prog 34 #[.int .u64 n, .int .i64 base] w fun e w' => e = .returned (.tuple #[.string ⟨#[]⟩, .int .i64 11]) ∧ Below w.heap.size w w' := by
  by_cases hb2 : base < 2
  · go_enter Try.func34, Try.ntmps34
    go_wp2
    go_ret2
    exact ⟨rfl, Below.refl _ _⟩
  · have hb3 : 36 < base := by omega
    go_enter Try.func34, Try.ntmps34
    go_wp2
    go_ret2
    exact ⟨rfl, Below.refl _ _⟩
theorem rprint_bad (n base : Int) (w : World) (hb : base < 2 ∨ 36 < base) : Calls Try.prog 37 #[.int .u64 n, .int .i64 base] w fun e w' => e = .returned (.tuple #[.string ⟨#[]⟩, .int .i64 11]) ∧ w' = w := by
  by_cases hb2 : base < 2
  · go_enter Try.func37, Try.ntmps37
    go_wp2
    go_ret2
    exact ⟨rfl, rfl⟩
  · have hb3 : 36 < base := by omega
    go_enter Try.func37, Try.ntmps37
    go_wp2
    go_ret2
    exact ⟨rfl, rfl⟩
theorem strOfNums_append (a b : List Int) : strOfNums a ++ strOfNums b = strOfNums (a ++ b) := by
  apply ByteArray.ext
  simp [strOfNums, ByteArray.data_append]
theorem one_digit (r : Int) (h0 : 0 ≤ r) (h1 : r < 36) : lowT.extract r.toNat (r + 1).toNat = strOfNums [bt lowT r] := by
  have h : ∀ k : Nat, k < 36 → (lowT.extract k (k + 1)).data.toList = (strOfNums [bt lowT (k : Int)]).data.toList := by decide +kernel
  obtain ⟨k, rfl⟩ := Int.eq_ofNat_of_zero_le h0
  have := h k (by omega)
  apply ByteArray.ext
  apply Array.toList_inj.1
  exact this
set_option maxRecDepth 100000 in
set_option maxHeartbeats 8000000 in
theorem rprint_any (n base : Int) (w : World) (hn : U64 n) (hb0 : 2 ≤ base) (hb1 : base ≤ 36) : Calls Try.prog 37 #[.int .u64 n, .int .i64 base] w fun e w' => e = .returned (.tuple #[.string (strOfNums (lowD base 64 n).reverse), .int .i64 0]) ∧ w' = w := by
  have hs := PrSt.start (base := base) hn
  have Hs := Lib.hid hs
  clear hs
  go_enter Try.func37, Try.ntmps37
  go_wp2
  go_loopw [0, 6] (fun u v wr => ∃ (m : Int) (xs : List Int), u = .int .u64 m ∧ v = .string (strOfNums xs.reverse) ∧ Hid (PrSt base n m xs) ∧ wr = w) (fun u _ _ => (intOf u).toNat)
  case atStart => exact ⟨n, [], rfl, rfl, Hs, rfl⟩
  case round =>
    obtain ⟨m, xs, rfl, rfl, hst, rfl⟩ := hrel
    have hm := hst.out.u64
    have hl := hst.out.len
    have hr0 : 0 ≤ m % base := Int.emod_nonneg _ (by omega)
    have hr1 : m % base < base := Int.emod_lt_of_pos _ (by omega)
    have hq0 : 0 ≤ m / base := Int.ediv_nonneg hm.1 (by omega)
    have hr2 : m % base < 36 := by omega
    have hex : (ByteArray.mk #[48, 49, 50, 51, 52, 53, 54, 55, 56, 57, 97, 98, 99, 100, 101, 102, 103, 104, 105, 106, 107, 108, 109, 110, 111, 112, 113, 114, 115, 116, 117, 118, 119, 120, 121, 122]).extract (m % base).toNat (m % base + 1).toNat = strOfNums [bt lowT (m % base)] := one_digit (m % base) hr0 hr2
    have hz1 : (strOfNums [bt lowT (m % base)]).size = 1 := strOfNums_size _
    have hz3 : (strOfNums xs.reverse).size = xs.length := by rw [strOfNums_size, List.length_reverse]
    have happ : strOfNums [bt lowT (m % base)] ++ strOfNums xs.reverse = strOfNums (xs ++ [bt lowT (m % base)]).reverse := by rw [strOfNums_append, List.reverse_append]; rfl
    have Happ := Lib.hid happ
    clear happ
    cases hz : (m / base == 0)
    · have hz2 : ¬ m / base = 0 := by simpa using hz
      have hlt : m / base < m := by
        have h5 : m / base * base ≤ m := by rw [Int.mul_comm]; exact Int.mul_ediv_self_le (by omega)
        have h7 : m / base * 2 ≤ m / base * base := Int.mul_le_mul_of_nonneg_left hb0 hq0
        omega
      have Hz := Lib.hid hz2
      clear hz2
      go_wp2
      exact ⟨⟨m / base, xs ++ [bt lowT (m % base)], rfl, by rw [Happ.out], hst.out.next hb0 Hz.out, trivial⟩, by simp [intOf]; omega⟩
    · have hz2 : m / base = 0 := by simpa using hz
      have hfin := hst.out.last hz2
      have Hf := Lib.hid hfin
      clear hfin hz2
      go_wp2
      go_ret2
      exact ⟨by rw [Hf.out, ← Happ.out]; rfl, rfl⟩
end Go.Proofs.Ytjiapggmiddpdaa
