/- Percent: coding by a set: code, Encode, Normal; the document's Encode, Normal. -/
import Derived.Test.YtfbgmlophkbejaaPctF
import Derived.Test.YtfbgmlophkbejaaBaE
import Derived.Test.YtfbgmlophkbejaaSetA
import Derived.Test.YtfbgmlophkbejaaBldA
set_option linter.unusedVariables false
set_option linter.unusedSimpArgs false
namespace Go.Proofs.Ytfbgmlophkbejaa
open Go.RowKit Go.Proofs.YtfbgmlophkbejaaW.PrintWords Go.Proofs.YtfbgmlophkbejaaW.PrintLast
/-- a byte, coded -/
def codeL (b : Int) : List Int := [37, bt upT (b / 16), bt upT (b % 16)]
/-- a byte, coded if it is of a set -/
def encB (p : Int → Bool) (b : Int) : List Int := if p b = true then codeL b else [b]
def encL (p : Int → Bool) (l : List Int) : List Int := l.flatMap (encB p)
theorem encL_append (p : Int → Bool) (l r : List Int) : encL p (l ++ r) = encL p l ++ encL p r := by unfold encL; rw [List.flatMap_append]
theorem encB_len (p : Int → Bool) (b : Int) : 1 ≤ (encB p b).length ∧ (encB p b).length ≤ 3 := by unfold encB codeL; split <;> simp
theorem encL_len (p : Int → Bool) (l : List Int) : (encL p l).length ≤ 3 * l.length := by
  induction l with
  | nil => simp [encL]
  | cons b l ih =>
    have := (encB_len p b).2
    have e : encL p (b :: l) = encB p b ++ encL p l := by simp [encL]
    rw [e, List.length_append, List.length_cons]
    omega
theorem up_range (r : Int) : 0 ≤ bt upT r ∧ bt upT r ≤ 255 := bt_range upT r
theorem encB_range (p : Int → Bool) (b : Int) (h : 0 ≤ b ∧ b ≤ 255) : ∀ x ∈ encB p b, 0 ≤ x ∧ x ≤ 255 := by
  intro x hx
  unfold encB codeL at hx
  split at hx
  · simp only [List.mem_cons, List.not_mem_nil, or_false] at hx
    rcases hx with rfl | rfl | rfl
    · omega
    · exact up_range _
    · exact up_range _
  · simp only [List.mem_cons, List.not_mem_nil, or_false] at hx
    rw [hx]; exact h
theorem encL_range (p : Int → Bool) (l : List Int) (h : ∀ b ∈ l, 0 ≤ b ∧ b ≤ 255) : ∀ x ∈ encL p l, 0 ≤ x ∧ x ≤ 255 := by
  intro x hx
  unfold encL at hx
  obtain ⟨b, hb, hx⟩ := List.mem_flatMap.1 hx
  exact encB_range p b (h b hb) x hx
theorem take_byte (s : ByteArray) (k : Int) (h0 : 0 ≤ k) (h1 : k < s.size) : (bytesOf s).take (k + 1).toNat = (bytesOf s).take k.toNat ++ [bt s k] := by
  have hl : k.toNat < (bytesOf s).length := by rw [bytesOf_length]; omega
  rw [show (k + 1).toNat = k.toNat + 1 by omega, List.take_succ_eq_append_getElem hl]
  congr 2
  rw [← rd_bytesOf]
  simp [rd, List.getD_eq_getElem?_getD, List.getElem?_eq_getElem hl]
theorem take_all (s : ByteArray) : (bytesOf s).take (s.size : Int).toNat = bytesOf s := List.take_of_length_le (by rw [bytesOf_length]; omega)
theorem enc_step (p : Int → Bool) (s : ByteArray) (k : Int) (h0 : 0 ≤ k) (h1 : k < s.size) : encL p ((bytesOf s).take (k + 1).toNat) = encL p ((bytesOf s).take k.toNat) ++ encB p (bt s k) := by
  rw [take_byte s k h0 h1, encL_append]
  simp [encL]
theorem hexS_bytes (b : Int) : bytesOf (hexS b) = [bt upT (b / 16), bt upT (b % 16)] := bytesOf_strOfNums _ (by
  intro x hx
  simp only [List.mem_cons, List.not_mem_nil, or_false] at hx
  rcases hx with rfl | rfl <;> exact up_range _)
def codeS (b : Int) : ByteArray := strOfNums (codeL b)
theorem codeS_eq (b : Int) : (⟨#[37]⟩ : ByteArray) ++ hexS b = codeS b := strOfNums_append [37] _
theorem codeS_size (b : Int) : (codeS b).size = 3 := by unfold codeS codeL; rw [strOfNums_size]; rfl
theorem codeS_bytes (b : Int) : bytesOf (codeS b) = codeL b := bytesOf_strOfNums _ (by
  have := encB_range (fun _ => true) 0 ⟨by omega, by omega⟩
  intro x hx
  unfold codeL at hx
  simp only [List.mem_cons, List.not_mem_nil, or_false] at hx
  rcases hx with rfl | rfl | rfl
  · omega
  · exact up_range _
  · exact up_range _)
theorem hexS_size (b : Int) : (hexS b).size = 2 := by unfold hexS; rw [strOfNums_size]; rfl
theorem code_any (b : Int) (w : World) (h0 : 0 ≤ b) (h1 : b ≤ 255) : Calls Try.prog 34 #[.int .u8 b] w fun e w' => e = .returned (.string (codeS b)) ∧ Below w.heap.size w w' := by
  have hc := codeS_eq b
  have hz := Nat.le_of_eq (hexS_size b)
  go_enter Try.func34, Try.ntmps34
  go_wp2_with (go_at_call 42; (with_reducible refine (hex_any b _ h0 h1).mono ?_); rintro e w1 ⟨rfl, hb⟩)
  go_ret
  exact ⟨rfl, hb⟩
set_option maxHeartbeats 2000000 in
theorem encode_any (s : ByteArray) (x0 x1 x2 x3 : Int) (w : World) (hs : s.size * 3 ≤ 140737488351232) :
    Calls Try.prog 20 #[.string s, set4 x0 x1 x2 x3] w fun e w' => e = .returned (.string (strOfNums (encL (inSet [x0, x1, x2, x3]) (bytesOf s)))) ∧ Below w.heap.size w w' := by
  go_enter Try.func20, Try.ntmps20
  go_wp2
  go_loopw [9] (fun v wr => ∃ (k : Int), v = .int .i64 k ∧ 0 ≤ k ∧ k ≤ s.size ∧ Bld wr (w.heap.size + 1) (w.heap.size + 1) (encL (inSet [x0, x1, x2, x3]) ((bytesOf s).take k.toNat)) ∧ Below w.heap.size w wr ∧ Blk wr w.heap.size 42 (arr4 x0 x1 x2 x3)) (fun v _ => s.size - (intOf v).toNat)
  case atStart => exact ⟨0, rfl, by omega, by omega, Bld.at_new (by simp) (by omega), below_alloc (below_one _ _) _, (Blk.new _ _ _).alloc _⟩
  case round =>
    obtain ⟨k, rfl, hk0, hk1, hB, hbel, hblk⟩ := hrel
    have hen := encL_len (inSet [x0, x1, x2, x3]) ((bytesOf s).take k.toNat)
    rw [List.length_take, bytesOf_length] at hen
    by_cases hlt : k < s.size
    · have hes := enc_step (inSet [x0, x1, x2, x3]) s k hk0 hlt
      obtain ⟨c0, c1, c2, c3⟩ := hblk.cells4
      have hbt := bt_at s k
      have hbr := bt_range s k
      generalize encL (inSet [x0, x1, x2, x3]) ((bytesOf s).take k.toNat) = xs at *
      have Hes := Lib.hid hes
      clear hes
      go_upto_region 5 with (fail)
      go_still_tail 4, (by kernel_rfl)
      change wpList _ _ _ _ _ wr.drew
      have hbel2 : Below w.heap.size w wr.drew := hbel.drew
      have hblk2 : Blk wr.drew w.heap.size 42 (arr4 x0 x1 x2 x3) := hblk.drew
      have hB2 : Bld wr.drew (w.heap.size + 1) (w.heap.size + 1) xs := hB
      clear hbel hblk hB c0 c1 c2 c3
      generalize wr.drew = w2 at *
      have hsz := hB2.lt
      have hsz2 : w.heap.size + 1 ≤ w2.heap.size := by omega
      cases hp : inSet [x0, x1, x2, x3] (bt s k)
      · have Hey : Hid (encL (inSet [x0, x1, x2, x3]) ((bytesOf s).take (k + 1).toNat) = xs ++ [bt s k]) := Lib.hid (by rw [Hes.out]; unfold encB; rw [hp]; rfl)
        go_wp2_with (first
          | (go_at_call 32; (with_reducible refine (has_any x0 x1 x2 x3 (bt s k) _ hbr.1 hbr.2).mono ?_); rintro e w3 ⟨rfl, hb3⟩; have hB3 := hB2.after hb3)
          | (go_at_call 35; (with_reducible refine (writeByte_any _ _ xs (bt s k) _ hB3 (by omega) (by have := hb3.size; omega)).mono ?_); rintro e w4 ⟨rfl, hB4, hb4⟩))
        exact ⟨⟨k + 1, rfl, by omega, by omega, by rw [Hey.out]; exact hB4, (below_after hbel2 hb3).trans (hb4.mono (by omega)), (hblk2.after hb3).below hb4 (by omega)⟩, by simp [intOf]; omega⟩
      · have Hey : Hid (encL (inSet [x0, x1, x2, x3]) ((bytesOf s).take (k + 1).toNat) = xs ++ bytesOf (codeS (bt s k))) := Lib.hid (by rw [Hes.out, codeS_bytes]; unfold encB; rw [hp]; rfl)
        have hcs := Nat.le_of_eq (codeS_size (bt s k))
        go_wp2_with (first
          | (go_at_call 32; (with_reducible refine (has_any x0 x1 x2 x3 (bt s k) _ hbr.1 hbr.2).mono ?_); rintro e w3 ⟨rfl, hb3⟩; have hB3 := hB2.after hb3)
          | (go_at_call 34; (with_reducible refine (code_any (bt s k) _ hbr.1 hbr.2).mono ?_); rintro e w4 ⟨rfl, hb4⟩; have hB4 := hB3.after hb4)
          | (go_at_call 33; (with_reducible refine (writeString_any _ _ xs (codeS (bt s k)) _ hB4 (by omega) (by have := hb3.size; have := hb4.size; omega)).mono ?_); rintro e w5 ⟨rfl, hB5, hb5⟩))
        exact ⟨⟨k + 1, rfl, by omega, by omega, by rw [Hey.out]; exact hB5, (below_after (below_after hbel2 hb3) hb4).trans (hb5.mono (by omega)), ((hblk2.after hb3).after hb4).below hb5 (by omega)⟩, by simp [intOf]; omega⟩
    · obtain rfl : k = s.size := by omega
      rw [take_all] at hB
      have hr := encL_range (inSet [x0, x1, x2, x3]) (bytesOf s) (fun b hb => mem_bytesOf hb)
      have hsz := hB.lt
      have hS := fun W h h2 => string_any (w.heap.size + 1) (w.heap.size + 1) (encL (inSet [x0, x1, x2, x3]) (bytesOf s)) W h hr h2
      have HS := Lib.hid hS
      have HB := Lib.hid hB
      clear hS hr hB hen
      go_wp2_with (go_at_call 36; (with_reducible refine (HS.out _ HB.out (by omega)).mono ?_); rintro e w3 ⟨rfl, hb3⟩)
      go_ret
      exact ⟨rfl, hbel.trans (hb3.mono (by omega))⟩
theorem one_byte (s : ByteArray) (k : Int) (h0 : 0 ≤ k) (h1 : k < s.size) : s.extract k.toNat (k + 1).toNat = strOfNums [bt s k] := by
  refine ba_ext (by rw [size_ext _ _ _ (by omega), strOfNums_size, List.length_singleton]; omega) fun i g0 g1 => ?_
  rw [size_ext _ _ _ (by omega)] at g1
  obtain rfl : i = 0 := by omega
  rw [bt_strOfNums _ _ (by omega) (fun x hx => by obtain rfl := List.mem_singleton.1 hx; exact bt_range s k), bt_ext s _ _ (by omega) 0 (by omega), if_pos (by omega)]
  show bt s _ = bt s k
  congr 1
  omega
set_option maxHeartbeats 2000000 in
theorem rencode_any (s : ByteArray) (m : List Int) (p : Int → Bool) (w : World) (hs : s.size * 3 ≤ 140737488351232) (hm : m.length = 256) (hp : ∀ b, 0 ≤ b → b < 256 → (rd m b == 1) = p b) :
    Calls Try.prog 21 #[.string s, .agg (nums .u8 m).toArray] w fun e w' => e = .returned (.string (strOfNums (encL p (bytesOf s)))) ∧ Below w.heap.size w w' := by
  have Hp := Lib.hid hp
  clear hp
  go_enter Try.func21, Try.ntmps21
  go_wp2
  go_loopw [5, 6] (fun u v wr => ∃ (k : Int), u = .string (strOfNums (encL p ((bytesOf s).take k.toNat))) ∧ v = .int .i64 k ∧ 0 ≤ k ∧ k ≤ s.size ∧ Below w.heap.size w wr ∧ Blk wr w.heap.size 44 (nums .u8 m).toArray) (fun _ v _ => s.size - (intOf v).toNat)
  case atStart => exact ⟨0, rfl, rfl, by omega, by omega, below_one _ _, Blk.new _ _ _⟩
  case round =>
    obtain ⟨k, rfl, rfl, hk0, hk1, hbel, hblk⟩ := hrel
    by_cases hlt : k < s.size
    · have hes := enc_step p s k hk0 hlt
      have hbt := bt_at s k
      have hbr := bt_range s k
      have c0 := blk_num_at hblk (bt s k) hbr.1 (by omega)
      have hq := Hp.out (bt s k) hbr.1 (by omega)
      have hsx : (strOfNums (encL p ((bytesOf s).take k.toNat))).size ≤ 3 * s.size := by
        have := encL_len p ((bytesOf s).take k.toNat)
        rw [List.length_take, bytesOf_length] at this
        rw [strOfNums_size]
        omega
      cases hpb : p (bt s k)
      · rw [hpb] at hq
        have hfin : strOfNums (encL p ((bytesOf s).take (k + 1).toNat)) = strOfNums (encL p ((bytesOf s).take k.toNat)) ++ strOfNums [bt s k] := by rw [hes, strOfNums_append]; unfold encB; rw [hpb]; rfl
        have hob := one_byte s k hk0 hlt
        have hoz : (strOfNums [bt s k]).size ≤ 1 := by rw [strOfNums_size]; simp
        generalize strOfNums [bt s k] = Y at *
        generalize strOfNums (encL p ((bytesOf s).take k.toNat)) = X at *
        have Hfin := Lib.hid hfin
        clear hfin hes hpb
        go_wp2
        exact ⟨⟨k + 1, by rw [Hfin.out], rfl, by omega, by omega, hbel, hblk⟩, by simp [intOf]; omega⟩
      · rw [hpb] at hq
        have hfin : strOfNums (encL p ((bytesOf s).take (k + 1).toNat)) = strOfNums (encL p ((bytesOf s).take k.toNat)) ++ codeS (bt s k) := by rw [hes]; unfold encB codeS; rw [hpb, strOfNums_append]; rfl
        have hcc := codeS_eq (bt s k)
        have hhz := Nat.le_of_eq (hexS_size (bt s k))
        have hcz := Nat.le_of_eq (codeS_size (bt s k))
        generalize codeS (bt s k) = Y at *
        generalize strOfNums (encL p ((bytesOf s).take k.toNat)) = X at *
        have Hfin := Lib.hid hfin
        clear hfin hes hpb
        go_wp2_with (go_at_call 37; (with_reducible refine (rhex_any (bt s k) _ hbr.1 hbr.2).mono ?_); rintro e w1 ⟨rfl, hb1⟩)
        exact ⟨⟨k + 1, by rw [Hfin.out], rfl, by omega, by omega, below_after hbel hb1, hblk.after hb1⟩, by simp [intOf]; omega⟩
    · obtain rfl : k = s.size := by omega
      rw [take_all]
      go_wp2
      go_ret
      exact ⟨rfl, hbel⟩
/-- the one way to code: of what a text says -/
def one37 (p : Int → Bool) (b : Int) : Bool := b == 37 || p b
theorem norm_step (p : Int → Bool) (s : ByteArray) (k : Int) (xs T : List Int) (h : k < s.size) (hT : xs ++ encL (one37 p) ((itemsF s k).map (byteC s)) = T) : (xs ++ encB (one37 p) (byteC s k)) ++ encL (one37 p) ((itemsF s (nxtC s k)).map (byteC s)) = T := by
  rw [← hT, itemsF_go h, List.map_cons, List.append_assoc]
  rfl
theorem norm_len (p : Int → Bool) (s : ByteArray) (k : Int) (xs : List Int) (h0 : 0 ≤ k) (h : k < s.size) (hT : xs ++ encL (one37 p) ((itemsF s k).map (byteC s)) = encL (one37 p) (decL s)) : xs.length + 3 ≤ 3 * s.size + 2 := by
  have h1 := itemsF_len s _ 0 (by omega) (by omega) rfl
  have h2 := encL_len (one37 p) (decL s)
  have e := congrArg List.length hT
  rw [itemsF_go h, List.map_cons] at e
  have e3 : encL (one37 p) (byteC s k :: (itemsF s (nxtC s k)).map (byteC s)) = encB (one37 p) (byteC s k) ++ encL (one37 p) ((itemsF s (nxtC s k)).map (byteC s)) := rfl
  have h3 := (encB_len (one37 p) (byteC s k)).1
  rw [e3, List.length_append, List.length_append] at e
  unfold decL at h2 e
  rw [List.length_map] at h2
  omega
theorem byteC_range (s : ByteArray) (k : Int) : 0 ≤ byteC s k ∧ byteC s k ≤ 255 := by
  unfold byteC
  split
  · have h := ‹isC s k = true›
    unfold isC at h
    simp only [Bool.and_eq_true, decide_eq_true_eq] at h
    have h1 := dig16 (bt s (k + 1))
    have h2 := dig16 (bt s (k + 2))
    unfold sayC
    omega
  · exact bt_range s k
theorem decL_range (s : ByteArray) : ∀ x ∈ decL s, 0 ≤ x ∧ x ≤ 255 := by
  intro x hx
  unfold decL at hx
  obtain ⟨q, _, rfl⟩ := List.mem_map.1 hx
  exact byteC_range s q
def normS (p : Int → Bool) (s : ByteArray) : ByteArray := strOfNums (encL (one37 p) (decL s))
set_option maxHeartbeats 1000000 in
theorem nor1_any (x0 x1 x2 x3 at_ b : Int) (c : Bool) (g B : Nat) (xs : List Int) (w : World) (h0 : 0 ≤ b) (h1 : b ≤ 255) (hg : g < B) (hB : Bld w B B xs) (hblk : Blk w g 42 (arr4 x0 x1 x2 x3)) (hl : xs.length + 3 ≤ 140737488355328) :
    Calls Try.prog 38 #[.int .i64 at_, .int .u8 b, .bool c, .pointer (some ⟨g, 0, none⟩), .pointer (some ⟨B, 0, none⟩)] w fun e w' => e = .returned (.tuple #[]) ∧ Bld w' B B (xs ++ encB (one37 (inSet [x0, x1, x2, x3])) b) ∧ Below B w w' := by
  obtain ⟨c0, c1, c2, c3⟩ := hblk.cells4
  have hlt := hB.lt
  have hcs := Nat.le_of_eq (codeS_size b)
  have Hb := Lib.hid hB
  clear hblk hB
  have hcode : ∀ W, Below w.heap.size w W → one37 (inSet [x0, x1, x2, x3]) b = true → ∀ W2, Bld W2 B B (xs ++ bytesOf (codeS b)) → Bld W2 B B (xs ++ encB (one37 (inSet [x0, x1, x2, x3])) b) := fun _ _ hq W2 hW => by
    rw [codeS_bytes] at hW
    unfold encB
    rw [if_pos hq]
    exact hW
  have Hcode := Lib.hid hcode
  clear hcode
  cases h37 : (b == 37)
  · cases hp : inSet [x0, x1, x2, x3] b
    · have hq : Hid (one37 (inSet [x0, x1, x2, x3]) b = false) := Lib.hid (by unfold one37; rw [h37, hp]; rfl)
      go_enter Try.func38, Try.ntmps38
      go_wp2_with (first
        | (go_at_call 32; (with_reducible refine (has_any x0 x1 x2 x3 b _ h0 h1).mono ?_); rintro e w1 ⟨rfl, hb1⟩; have hB1 := Hb.out.after hb1)
        | (go_at_call 35; (with_reducible refine (writeByte_any _ _ xs b _ hB1 (by omega) (by have := hb1.size; omega)).mono ?_); rintro e w2 ⟨rfl, hB2, hb2⟩))
      go_end0
      exact ⟨rfl, by unfold encB; rw [hq.out]; exact hB2, (hb1.mono (by omega)).trans hb2⟩
    · have hq : Hid (one37 (inSet [x0, x1, x2, x3]) b = true) := Lib.hid (by unfold one37; rw [h37, hp]; rfl)
      go_enter Try.func38, Try.ntmps38
      go_wp2_with (first
        | (go_at_call 32; (with_reducible refine (has_any x0 x1 x2 x3 b _ h0 h1).mono ?_); rintro e w1 ⟨rfl, hb1⟩; have hB1 := Hb.out.after hb1)
        | (go_at_call 34; (with_reducible refine (code_any b _ h0 h1).mono ?_); rintro e w2 ⟨rfl, hb2⟩; have hB2 := hB1.after hb2)
        | (go_at_call 33; (with_reducible refine (writeString_any _ _ xs (codeS b) _ hB2 (by omega) (by have := hb1.size; have := hb2.size; omega)).mono ?_); rintro e w3 ⟨rfl, hB3, hb3⟩))
      go_end0
      exact ⟨rfl, Hcode.out _ hb1 hq.out _ hB3, ((hb1.mono (by omega)).trans (hb2.mono (by have := hb1.size; omega))).trans hb3⟩
  · have hq : Hid (one37 (inSet [x0, x1, x2, x3]) b = true) := Lib.hid (by unfold one37; rw [h37]; rfl)
    go_enter Try.func38, Try.ntmps38
    go_wp2_with (first
      | (go_at_call 34; (with_reducible refine (code_any b _ h0 h1).mono ?_); rintro e w2 ⟨rfl, hb2⟩; have hB2 := Hb.out.after hb2)
      | (go_at_call 33; (with_reducible refine (writeString_any _ _ xs (codeS b) _ hB2 (by omega) (by have := hb2.size; omega)).mono ?_); rintro e w3 ⟨rfl, hB3, hb3⟩))
    go_end0
    exact ⟨rfl, Hcode.out _ hb2 hq.out _ hB3, (hb2.mono (by omega)).trans hb3⟩
set_option maxHeartbeats 1000000 in
theorem normal_any (s : ByteArray) (x0 x1 x2 x3 : Int) (w : World) (hs : s.size * 3 ≤ 140737488351232) :
    Calls Try.prog 22 #[.string s, set4 x0 x1 x2 x3] w fun e w' => e = .returned (.string (normS (inSet [x0, x1, x2, x3]) s)) ∧ Below w.heap.size w w' := by
  have hw := walk_any 38 #[.pointer (some ⟨w.heap.size, 0, none⟩), .pointer (some ⟨w.heap.size + 1, 0, none⟩)] (enter_fn Try.func38 (by kernel_rfl) (by kernel_rfl)) s (by omega)
    (fun p wr => 0 ≤ p ∧ p ≤ s.size ∧ Below w.heap.size w wr ∧ Blk wr w.heap.size 42 (arr4 x0 x1 x2 x3) ∧ ∃ xs, xs ++ encL (one37 (inSet [x0, x1, x2, x3])) ((itemsF s p).map (byteC s)) = encL (one37 (inSet [x0, x1, x2, x3])) (decL s) ∧ Bld wr (w.heap.size + 1) (w.heap.size + 1) xs)
    (fun p w1 w2 ⟨h0, h1, h2, h3, xs, h4, h5⟩ hb => ⟨h0, h1, below_after h2 hb, h3.after hb, xs, h4, h5.after hb⟩)
    (fun p w1 h0 hlt ⟨_, h1, h2, h3, xs, h4, h5⟩ => (nor1_any x0 x1 x2 x3 p (byteC s p) (isC s p) w.heap.size (w.heap.size + 1) xs w1 (byteC_range s p).1 (byteC_range s p).2 (by omega) h5 h3 (by
        have := norm_len _ s p xs h0 hlt h4
        omega)).mono fun e w2 ⟨g1, g2, g3⟩ =>
      ⟨g1, by have := nxtC_gt s p; omega, nxtC_le s p hlt, h2.trans (g3.mono (by omega)), h3.below g3 (by omega), _, norm_step _ s p xs _ hlt h4, g2⟩)
  have Hw := Lib.hid hw
  clear hw
  go_enter Try.func22, Try.ntmps22
  go_wp2_with fail
  refine (Hw.out _ ⟨by omega, by omega, below_alloc (below_one _ _) _, (Blk.new _ _ _).alloc _, [], rfl, Bld.at_new (by simp) (by omega)⟩).mono ?_
  rintro e w1 ⟨rfl, _, _, hb, hbk, xs, hx, hB⟩
  rw [itemsF_end, List.map_nil] at hx
  have hx2 : xs = encL (one37 (inSet [x0, x1, x2, x3])) (decL s) := by rw [← hx]; simp [encL]
  subst hx2
  have hS := string_any (w.heap.size + 1) (w.heap.size + 1) _ w1 hB (encL_range _ _ (decL_range s)) (by have := hB.lt; omega)
  have HS := Lib.hid hS
  clear hS hx hB
  go_wp2_with (go_at_call 36; (with_reducible refine (HS.out).mono ?_); rintro e w3 ⟨rfl, hb3⟩)
  go_ret
  exact ⟨rfl, hb.trans (hb3.mono (by omega))⟩
end Go.Proofs.Ytfbgmlophkbejaa
