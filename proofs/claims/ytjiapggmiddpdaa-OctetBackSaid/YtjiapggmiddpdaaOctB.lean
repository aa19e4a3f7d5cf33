/- Package octet: the classes of a text, texts in small and in great letters, and the document's. -/
import Derived.Test.YtjiapggmiddpdaaOctC
import Derived.Test.YtjiapggmiddpdaaBase3
set_option linter.unusedVariables false
set_option linter.unusedSimpArgs false
namespace Go.Proofs.Ytjiapggmiddpdaa
open Go.RowKit Go.Proofs.YtjiapggmiddpdaaW.PrintWords Go.Proofs.YtjiapggmiddpdaaW.PrintLast
def lowb (b : Int) : Int := if 65 ≤ b ∧ b ≤ 90 then b + 32 else b
def uppb (b : Int) : Int := if 97 ≤ b ∧ b ≤ 122 then b - 32 else b
def lowS (s : ByteArray) : ByteArray := strOfNums ((bytesOf s).map lowb)
def uppS (s : ByteArray) : ByteArray := strOfNums ((bytesOf s).map uppb)
theorem rd_map (f : Int → Int) (l : List Int) (i : Int) (h0 : 0 ≤ i) (h1 : i < l.length) : rd (l.map f) i = f (rd l i) := by
  have h : i.toNat < l.length := by omega
  simp [rd, List.getD_eq_getElem?_getD, List.getElem?_eq_getElem h]

theorem cls_and_Lower (b : Int) (h0 : 0 ≤ b) (h1 : b ≤ 255) : (bits BinOp.and IntKind.i64 (cls b) 2 != 0) = decide (65 ≤ b ∧ b ≤ 90) := by
  rcases byte_ranges b h0 h1 with h | h | h | h | h | h | h | h | h | h | h | h | h
  all_goals
    obtain ⟨g0, g1⟩ := h
    unfold cls
    repeat (first | rw [if_pos (by omega)] | rw [if_neg (by omega)])
    first
      | (rw [decide_eq_true (by omega)]; decide)
      | (rw [decide_eq_false (by omega)]; decide)
theorem Lower1_any (b : Int) (w : World) (h0 : 0 ≤ b) (h1 : b ≤ 255) (hr : 65 ≤ b ∧ b ≤ 90) : Calls Try.prog 43 #[.int .u8 b] w fun e w' => e = .returned (.int .u8 (lowb b)) ∧ w = w' := by
  obtain ⟨r0, r1⟩ := hr
  go_enter Try.func43, Try.ntmps43
  go_wp2
  go_ret
  refine ⟨ret_int ?_, rfl⟩
  unfold lowb
  rw [if_pos ⟨r0, r1⟩]
  all_goals omega
set_option maxHeartbeats 2000000 in
theorem eachLower_any (s : ByteArray) (w : World) (hs : s.size ≤ 140737488351232) :
    Calls Try.prog 42 #[.string s, .int .i64 2, .func (.func 43) #[] #[]] w fun e w' => e = .returned (.string (lowS s)) ∧ Below w.heap.size w w' := by
  have kb := fun W => print_bytes (P := Try.prog) 9 44 5 Try.underlying9 Try.underlying44 Try.underlying5 s W
  go_enter Try.func42, Try.ntmps42
  go_wp2
  have hb0 : Byt (Lib.bytesWorld w 5 s) w.heap.size (bytesOf s) := Byt.new w 5 s
  have hl0 := bytesOf_length s
  have hbel0 : Below w.heap.size w (Lib.bytesWorld w 5 s) := bytes_below (Below.refl _ _) (Nat.le_refl _) _ _
  clear kb
  generalize Lib.bytesWorld w 5 s = w1 at *
  go_loopw [14] (fun v wr => ∃ (k : Int) (xs : List Int), v = .int .i64 k ∧ 0 ≤ k ∧ k ≤ s.size ∧ xs.length = s.size ∧ Hid (∀ i, 0 ≤ i → i < k → rd xs i = lowb (bt s i)) ∧ Hid (∀ i, k ≤ i → i < s.size → rd xs i = bt s i) ∧ Below w.heap.size w wr ∧ Byt wr w.heap.size xs) (fun v _ => s.size - (intOf v).toNat)
  case atStart => exact ⟨0, bytesOf s, rfl, by omega, by omega, hl0, fun i h0 h1 => by omega, fun i h0 h1 => rd_bytesOf s i, hbel0, hb0⟩
  case round =>
    obtain ⟨k, xs, rfl, hk0, hk1, hl, hd, hr, hbel, hb⟩ := hrel
    by_cases hlt : k < s.size
    · have c0 := hb.cell k hk0 (by omega)
      have c1 := hb.frozen k hk0 (by omega)
      rw [hr.out k (by omega) hlt] at c0
      have hbr := bt_range s k
      have hcl := cls_and_Lower (bt s k) hbr.1 hbr.2
      by_cases hq : 65 ≤ bt s k ∧ bt s k ≤ 90
      · rw [decide_eq_true hq] at hcl
        go_wp2_with (first
          | (go_at_call 15; refine (class_any _ _ hbr.1 hbr.2).mono ?_; rintro e w' ⟨rfl, rfl⟩)
          | (go_at_call 43; refine (Lower1_any _ _ hbr.1 hbr.2 hq).mono ?_; rintro e w' ⟨rfl, rfl⟩))
        refine ⟨⟨k + 1, xs.set k.toNat _, rfl, by omega, by omega, by rw [List.length_set, hl], fun i h0 h1 => ?_, fun i h0 h1 => ?_, below_set hbel (Nat.le_refl _) _, hb.set_ k hk0 (by omega) _⟩, by simp [intOf]; omega⟩
        · rw [rd_set xs k i _ hk0 (by omega) h0]
          by_cases h : i = k
          · rw [if_pos h, h]
          · rw [if_neg h]; exact hd.out i h0 (by omega)
        · rw [rd_set xs k i _ hk0 (by omega) (by omega), if_neg (by omega)]
          exact hr.out i (by omega) h1
      · rw [decide_eq_false hq] at hcl
        go_wp2_with (first
          | (go_at_call 15; refine (class_any _ _ hbr.1 hbr.2).mono ?_; rintro e w' ⟨rfl, rfl⟩))
        refine ⟨⟨k + 1, xs, rfl, by omega, by omega, hl, fun i h0 h1 => ?_, fun i h0 h1 => hr.out i (by omega) h1, hbel, hb⟩, by simp [intOf]; omega⟩
        by_cases h : i = k
        · rw [h, hr.out k (by omega) hlt]
          unfold lowb
          rw [if_neg hq]
        · exact hd.out i h0 (by omega)
    · obtain rfl : k = s.size := by omega
      have ht := fun cap => hb.text (P := Try.prog) Try.underlying44 Try.underlying5 Try.underlying9 cap
      rw [hl] at ht
      have hx : xs = (bytesOf s).map lowb := ext_rd (by rw [List.length_map, hl, hl0]) fun i h0 h1 => by
        rw [rd_map _ _ _ h0 (by omega), rd_bytesOf]; exact hd.out i h0 (by omega)
      go_wp2
      go_ret
      exact ⟨rfl, hbel⟩
theorem Lower_any (s : ByteArray) (w : World) (hs : s.size ≤ 140737488351232) : Calls Try.prog 19 #[.string s] w fun e w' => e = .returned (.string (lowS s)) ∧ Below w.heap.size w w' := by
  go_enter Try.func19, Try.ntmps19
  go_wp2_with (go_at_call 42; refine (eachLower_any s _ hs).mono ?_; rintro e w' ⟨rfl, hb⟩)
  go_ret
  exact ⟨rfl, hb⟩
set_option maxHeartbeats 2000000 in
theorem RLower_any (s : ByteArray) (w : World) (hs : s.size ≤ 140737488351232) : Calls Try.prog 20 #[.string s] w fun e w' => e = .returned (.string (lowS s)) ∧ Below w.heap.size w w' := by
  go_enter Try.func20, Try.ntmps20
  go_wp2
  go_loopw [3, 4] (fun u v wr => ∃ (k : Int) (xs : List Int), v = .int .i64 k ∧ 0 ≤ k ∧ k ≤ s.size ∧ (xs.length : Int) = k ∧ Hid (∀ i, 0 ≤ i → i < k → rd xs i = lowb (bt s i)) ∧ Below w.heap.size w wr ∧ wr.ownsRow w.heap.size 5 1 u xs.length (nums .u8 xs)) (fun _ v _ => s.size - (intOf v).toNat)
  case atStart => exact ⟨0, [], rfl, by omega, by omega, rfl, fun i h0 h1 => by omega, below_one _ _, own_lit w w.heap.size 5 .u8 [] (Nat.le_refl _) (by simp)⟩
  case round =>
    obtain ⟨k, xs, rfl, hk0, hk1, hl, hd, hbel, ho⟩ := hrel
    by_cases hlt : k < s.size
    · have hbt := bt_at s k
      have hbr := bt_range s k
      by_cases hq : 65 ≤ bt s k ∧ bt s k ≤ 90
      · obtain ⟨q0, q1⟩ := hq
        go_wp2_with (first
          | (at_builtin; refine print_append_num (w0 := w) (W := wr) w.heap.size rfl (.tmp 24) (.tmp 26) 44 5 .u8 1 rfl Try.underlying44 info_u8 (by decide) _ xs _ rfl rfl ho hbel hbel.size (by omega) ?_; intro v1 w1 ho1 hb1 hg1 hat1))
        refine ⟨⟨k + 1, _, rfl, by omega, by omega, ?_, fun i h0 h1 => ?_, hb1, ho1⟩, by simp [intOf]; omega⟩
        · simp; omega
        · by_cases h : i = k
          · rw [rd_append_len _ _ _ (by omega), h]
            unfold lowb
            rw [if_pos ⟨q0, q1⟩]
          · rw [rd_append_lt _ _ _ h0 (by omega)]; exact hd.out i h0 (by omega)
      · go_wp2_with (first
          | (at_builtin; refine print_append_num (w0 := w) (W := wr) w.heap.size rfl (.tmp 24) (.tmp 26) 44 5 .u8 1 rfl Try.underlying44 info_u8 (by decide) _ xs _ rfl rfl ho hbel hbel.size (by omega) ?_; intro v1 w1 ho1 hb1 hg1 hat1))
        all_goals
          refine ⟨⟨k + 1, _, rfl, by omega, by omega, ?_, fun i h0 h1 => ?_, hb1, ho1⟩, by simp [intOf]; omega⟩
          · simp; omega
          · by_cases h : i = k
            · rw [rd_append_len _ _ _ (by omega), h]
              unfold lowb
              rw [if_neg hq]
            · rw [rd_append_lt _ _ _ h0 (by omega)]; exact hd.out i h0 (by omega)
    · obtain rfl : k = s.size := by omega
      have ht := own_string (P := Try.prog) Try.underlying44 Try.underlying5 Try.underlying9 ho
      have hx : xs = (bytesOf s).map lowb := ext_rd (by rw [List.length_map, bytesOf_length]; omega) fun i h0 h1 => by
        rw [rd_map _ _ _ h0 (by rw [bytesOf_length]; omega), rd_bytesOf]; exact hd.out i h0 (by omega)
      go_wp2
      go_ret
      exact ⟨rfl, hbel⟩

theorem cls_and_Upper (b : Int) (h0 : 0 ≤ b) (h1 : b ≤ 255) : (bits BinOp.and IntKind.i64 (cls b) 4 != 0) = decide (97 ≤ b ∧ b ≤ 122) := by
  rcases byte_ranges b h0 h1 with h | h | h | h | h | h | h | h | h | h | h | h | h
  all_goals
    obtain ⟨g0, g1⟩ := h
    unfold cls
    repeat (first | rw [if_pos (by omega)] | rw [if_neg (by omega)])
    first
      | (rw [decide_eq_true (by omega)]; decide)
      | (rw [decide_eq_false (by omega)]; decide)
theorem Upper1_any (b : Int) (w : World) (h0 : 0 ≤ b) (h1 : b ≤ 255) (hr : 97 ≤ b ∧ b ≤ 122) : Calls Try.prog 44 #[.int .u8 b] w fun e w' => e = .returned (.int .u8 (uppb b)) ∧ w = w' := by
  obtain ⟨r0, r1⟩ := hr
  go_enter Try.func44, Try.ntmps44
  go_wp2
  go_ret
  refine ⟨ret_int ?_, rfl⟩
  unfold uppb
  rw [if_pos ⟨r0, r1⟩]
  all_goals omega
set_option maxHeartbeats 2000000 in
theorem eachUpper_any (s : ByteArray) (w : World) (hs : s.size ≤ 140737488351232) :
    Calls Try.prog 42 #[.string s, .int .i64 4, .func (.func 44) #[] #[]] w fun e w' => e = .returned (.string (uppS s)) ∧ Below w.heap.size w w' := by
  have kb := fun W => print_bytes (P := Try.prog) 9 44 5 Try.underlying9 Try.underlying44 Try.underlying5 s W
  go_enter Try.func42, Try.ntmps42
  go_wp2
  have hb0 : Byt (Lib.bytesWorld w 5 s) w.heap.size (bytesOf s) := Byt.new w 5 s
  have hl0 := bytesOf_length s
  have hbel0 : Below w.heap.size w (Lib.bytesWorld w 5 s) := bytes_below (Below.refl _ _) (Nat.le_refl _) _ _
  clear kb
  generalize Lib.bytesWorld w 5 s = w1 at *
  go_loopw [14] (fun v wr => ∃ (k : Int) (xs : List Int), v = .int .i64 k ∧ 0 ≤ k ∧ k ≤ s.size ∧ xs.length = s.size ∧ Hid (∀ i, 0 ≤ i → i < k → rd xs i = uppb (bt s i)) ∧ Hid (∀ i, k ≤ i → i < s.size → rd xs i = bt s i) ∧ Below w.heap.size w wr ∧ Byt wr w.heap.size xs) (fun v _ => s.size - (intOf v).toNat)
  case atStart => exact ⟨0, bytesOf s, rfl, by omega, by omega, hl0, fun i h0 h1 => by omega, fun i h0 h1 => rd_bytesOf s i, hbel0, hb0⟩
  case round =>
    obtain ⟨k, xs, rfl, hk0, hk1, hl, hd, hr, hbel, hb⟩ := hrel
    by_cases hlt : k < s.size
    · have c0 := hb.cell k hk0 (by omega)
      have c1 := hb.frozen k hk0 (by omega)
      rw [hr.out k (by omega) hlt] at c0
      have hbr := bt_range s k
      have hcl := cls_and_Upper (bt s k) hbr.1 hbr.2
      by_cases hq : 97 ≤ bt s k ∧ bt s k ≤ 122
      · rw [decide_eq_true hq] at hcl
        go_wp2_with (first
          | (go_at_call 15; refine (class_any _ _ hbr.1 hbr.2).mono ?_; rintro e w' ⟨rfl, rfl⟩)
          | (go_at_call 44; refine (Upper1_any _ _ hbr.1 hbr.2 hq).mono ?_; rintro e w' ⟨rfl, rfl⟩))
        refine ⟨⟨k + 1, xs.set k.toNat _, rfl, by omega, by omega, by rw [List.length_set, hl], fun i h0 h1 => ?_, fun i h0 h1 => ?_, below_set hbel (Nat.le_refl _) _, hb.set_ k hk0 (by omega) _⟩, by simp [intOf]; omega⟩
        · rw [rd_set xs k i _ hk0 (by omega) h0]
          by_cases h : i = k
          · rw [if_pos h, h]
          · rw [if_neg h]; exact hd.out i h0 (by omega)
        · rw [rd_set xs k i _ hk0 (by omega) (by omega), if_neg (by omega)]
          exact hr.out i (by omega) h1
      · rw [decide_eq_false hq] at hcl
        go_wp2_with (first
          | (go_at_call 15; refine (class_any _ _ hbr.1 hbr.2).mono ?_; rintro e w' ⟨rfl, rfl⟩))
        refine ⟨⟨k + 1, xs, rfl, by omega, by omega, hl, fun i h0 h1 => ?_, fun i h0 h1 => hr.out i (by omega) h1, hbel, hb⟩, by simp [intOf]; omega⟩
        by_cases h : i = k
        · rw [h, hr.out k (by omega) hlt]
          unfold uppb
          rw [if_neg hq]
        · exact hd.out i h0 (by omega)
    · obtain rfl : k = s.size := by omega
      have ht := fun cap => hb.text (P := Try.prog) Try.underlying44 Try.underlying5 Try.underlying9 cap
      rw [hl] at ht
      have hx : xs = (bytesOf s).map uppb := ext_rd (by rw [List.length_map, hl, hl0]) fun i h0 h1 => by
        rw [rd_map _ _ _ h0 (by omega), rd_bytesOf]; exact hd.out i h0 (by omega)
      go_wp2
      go_ret
      exact ⟨rfl, hbel⟩
theorem Upper_any (s : ByteArray) (w : World) (hs : s.size ≤ 140737488351232) : Calls Try.prog 21 #[.string s] w fun e w' => e = .returned (.string (uppS s)) ∧ Below w.heap.size w w' := by
  go_enter Try.func21, Try.ntmps21
  go_wp2_with (go_at_call 42; refine (eachUpper_any s _ hs).mono ?_; rintro e w' ⟨rfl, hb⟩)
  go_ret
  exact ⟨rfl, hb⟩
set_option maxHeartbeats 2000000 in
theorem RUpper_any (s : ByteArray) (w : World) (hs : s.size ≤ 140737488351232) : Calls Try.prog 22 #[.string s] w fun e w' => e = .returned (.string (uppS s)) ∧ Below w.heap.size w w' := by
  go_enter Try.func22, Try.ntmps22
  go_wp2
  go_loopw [3, 4] (fun u v wr => ∃ (k : Int) (xs : List Int), v = .int .i64 k ∧ 0 ≤ k ∧ k ≤ s.size ∧ (xs.length : Int) = k ∧ Hid (∀ i, 0 ≤ i → i < k → rd xs i = uppb (bt s i)) ∧ Below w.heap.size w wr ∧ wr.ownsRow w.heap.size 5 1 u xs.length (nums .u8 xs)) (fun _ v _ => s.size - (intOf v).toNat)
  case atStart => exact ⟨0, [], rfl, by omega, by omega, rfl, fun i h0 h1 => by omega, below_one _ _, own_lit w w.heap.size 5 .u8 [] (Nat.le_refl _) (by simp)⟩
  case round =>
    obtain ⟨k, xs, rfl, hk0, hk1, hl, hd, hbel, ho⟩ := hrel
    by_cases hlt : k < s.size
    · have hbt := bt_at s k
      have hbr := bt_range s k
      by_cases hq : 97 ≤ bt s k ∧ bt s k ≤ 122
      · obtain ⟨q0, q1⟩ := hq
        go_wp2_with (first
          | (at_builtin; refine print_append_num (w0 := w) (W := wr) w.heap.size rfl (.tmp 24) (.tmp 26) 44 5 .u8 1 rfl Try.underlying44 info_u8 (by decide) _ xs _ rfl rfl ho hbel hbel.size (by omega) ?_; intro v1 w1 ho1 hb1 hg1 hat1))
        refine ⟨⟨k + 1, _, rfl, by omega, by omega, ?_, fun i h0 h1 => ?_, hb1, ho1⟩, by simp [intOf]; omega⟩
        · simp; omega
        · by_cases h : i = k
          · rw [rd_append_len _ _ _ (by omega), h]
            unfold uppb
            rw [if_pos ⟨q0, q1⟩]
          · rw [rd_append_lt _ _ _ h0 (by omega)]; exact hd.out i h0 (by omega)
      · go_wp2_with (first
          | (at_builtin; refine print_append_num (w0 := w) (W := wr) w.heap.size rfl (.tmp 24) (.tmp 26) 44 5 .u8 1 rfl Try.underlying44 info_u8 (by decide) _ xs _ rfl rfl ho hbel hbel.size (by omega) ?_; intro v1 w1 ho1 hb1 hg1 hat1))
        all_goals
          refine ⟨⟨k + 1, _, rfl, by omega, by omega, ?_, fun i h0 h1 => ?_, hb1, ho1⟩, by simp [intOf]; omega⟩
          · simp; omega
          · by_cases h : i = k
            · rw [rd_append_len _ _ _ (by omega), h]
              unfold uppb
              rw [if_neg hq]
            · rw [rd_append_lt _ _ _ h0 (by omega)]; exact hd.out i h0 (by omega)
    · obtain rfl : k = s.size := by omega
      have ht := own_string (P := Try.prog) Try.underlying44 Try.underlying5 Try.underlying9 ho
      have hx : xs = (bytesOf s).map uppb := ext_rd (by rw [List.length_map, bytesOf_length]; omega) fun i h0 h1 => by
        rw [rd_map _ _ _ h0 (by rw [bytesOf_length]; omega), rd_bytesOf]; exact hd.out i h0 (by omega)
      go_wp2
      go_ret
      exact ⟨rfl, hbel⟩

end Go.Proofs.Ytjiapggmiddpdaa
