/- Desk: a text told, by the program and by the document. -/
import Derived.Test.YtjfdbdjcceecjaaBase6
import Derived.Test.YtjfdbdjcceecjaaBaE
import Derived.Test.YtjfdbdjcceecjaaDskA
set_option linter.unusedVariables false
set_option linter.unusedSimpArgs false
namespace Go.Proofs.Ytjfdbdjcceecjaa
open Go.RowKit Go.Proofs.YtjfdbdjcceecjaaW.PrintWords Go.Proofs.YtjfdbdjcceecjaaW.PrintLast
def hexT : ByteArray := ⟨#[48, 49, 50, 51, 52, 53, 54, 55, 56, 57, 97, 98, 99, 100, 101, 102]⟩
/-- a byte, told -/
def toldB (c : Int) : List Int :=
  if c = 34 ∨ c = 92 then [92, c] else if 32 ≤ c ∧ c ≤ 126 then [c] else if c = 10 then [92, 110] else if c = 13 then [92, 114] else if c = 9 then [92, 116] else [92, 120, bt hexT (c / 16), bt hexT (c % 16)]
theorem toldB_len (c : Int) : 1 ≤ (toldB c).length ∧ (toldB c).length ≤ 4 := by
  unfold toldB
  repeat' split
  all_goals simp
def toldU (l : List Int) : List Int := 34 :: l.flatMap toldB
theorem toldU_len (l : List Int) : (toldU l).length ≤ 4 * l.length + 1 := by
  unfold toldU
  induction l with
  | nil => simp
  | cons c l ih =>
    have := (toldB_len c).2
    simp only [List.flatMap_cons, List.length_cons, List.length_append] at *
    omega
def toldL (s : ByteArray) : List Int := toldU (bytesOf s) ++ [34]
def toldS (s : ByteArray) : ByteArray := strOfNums (toldL s)
theorem take_byte (s : ByteArray) (k : Int) (h0 : 0 ≤ k) (h1 : k < s.size) : (bytesOf s).take (k + 1).toNat = (bytesOf s).take k.toNat ++ [bt s k] := by
  have hl : k.toNat < (bytesOf s).length := by rw [bytesOf_length]; omega
  rw [show (k + 1).toNat = k.toNat + 1 by omega, List.take_succ_eq_append_getElem hl]
  congr 2
  rw [← rd_bytesOf]
  simp [rd, List.getD_eq_getElem?_getD, List.getElem?_eq_getElem hl]
theorem take_all (s : ByteArray) : (bytesOf s).take (s.size : Int).toNat = bytesOf s := List.take_of_length_le (by rw [bytesOf_length]; omega)
theorem told_step (s : ByteArray) (k : Int) (h0 : 0 ≤ k) (h1 : k < s.size) : toldU ((bytesOf s).take (k + 1).toNat) = toldU ((bytesOf s).take k.toNat) ++ toldB (bt s k) := by
  rw [take_byte s k h0 h1]
  unfold toldU
  rw [List.flatMap_append]
  simp
theorem and15 (b : Int) (h0 : 0 ≤ b) (h1 : b < 256) : bits BinOp.and IntKind.u8 b 15 = b % 16 := each256 (p := fun b => bits BinOp.and IntKind.u8 b 15) (q := fun b => b % 16) (by kernel_rfl) b h0 h1
set_option maxRecDepth 100000 in
set_option maxHeartbeats 8000000 in
theorem told_any (s : ByteArray) (w : World) (hs : s.size * 4 + 2 ≤ 140737488351232) : Calls Try.prog 8 #[.string s] w fun e w' => e = .returned (.string (toldS s)) ∧ Below w.heap.size w w' := by
  have kb := fun W => print_bytes (P := Try.prog) 9 38 5 Try.underlying9 Try.underlying38 Try.underlying5 s W
  go_enter Try.func8, Try.ntmps8
  go_wp2
  have hb0 : Byt (Lib.bytesWorld (w.alloc (.cells #[.int .u8 34] 5)) 5 s) (w.heap.size + 1) (bytesOf s) := by
    have := Byt.new (w.alloc (.cells #[.int .u8 34] 5)) 5 s
    simpa using this
  have hw0 : Below (w.alloc (.cells #[.int .u8 34] 5)).heap.size (w.alloc (.cells #[.int .u8 34] 5)) (Lib.bytesWorld (w.alloc (.cells #[.int .u8 34] 5)) 5 s) := bytes_below (Below.refl _ _) (Nat.le_refl _) _ _
  have ho0 : (Lib.bytesWorld (w.alloc (.cells #[.int .u8 34] 5)) 5 s).ownsRow w.heap.size 5 1 (.slice (some ⟨w.heap.size, 0, none⟩) 1 1) [34].length (nums .u8 [34]) := pw_own_below (own_lit w w.heap.size 5 .u8 [34] (Nat.le_refl _) (by simp)) hw0
  have hbel0 : Below w.heap.size w (Lib.bytesWorld (w.alloc (.cells #[.int .u8 34] 5)) 5 s) := below_after (below_one _ _) hw0
  have hl0 := bytesOf_length s
  generalize Lib.bytesWorld (w.alloc (.cells #[.int .u8 34] 5)) 5 s = w1 at *
  clear kb hw0
  go_loopw [3, 10] (fun v u wr => ∃ (k : Int) (xs : List Int), u = .int .i64 k ∧ 0 ≤ k ∧ k ≤ s.size ∧ Hid (xs = toldU ((bytesOf s).take k.toNat)) ∧ wr.ownsRow w.heap.size 5 1 v xs.length (nums .u8 xs) ∧ v.ownBlock ≠ some (w.heap.size + 1) ∧ Below w.heap.size w wr ∧ Byt wr (w.heap.size + 1) (bytesOf s)) (fun _ u _ => s.size - (intOf u).toNat)
  case atStart => exact ⟨0, [34], rfl, by omega, by omega, Lib.hid rfl, ho0, by simp [Value.ownBlock], hbel0, hb0⟩
  case round =>
    obtain ⟨k, xs, rfl, hk0, hk1, HX, ho, hne, hbel, hbyt⟩ := hrel
    have hxl : xs.length ≤ 4 * s.size + 1 := by
      have := toldU_len ((bytesOf s).take k.toNat)
      rw [← HX.out, List.length_take, hl0] at this
      omega
    have hsz := hbyt.lt
    by_cases hlt : k < s.size
    · have hes := told_step s k hk0 hlt
      rw [← HX.out] at hes
      have hxl2 : xs.length ≤ 4 * s.size - 3 := by
        have := toldU_len ((bytesOf s).take k.toNat)
        rw [← HX.out, List.length_take, hl0] at this
        omega
      have c0 := hbyt.cell k hk0 (by omega)
      rw [rd_bytesOf] at c0
      have hbr := bt_range s k
      generalize bt s k = c at *
      have Hes := Lib.hid hes
      clear hes HX
      by_cases q1 : c = 34 ∨ c = 92
      · have HX : Hid (toldB c = [92, c]) := Lib.hid (by unfold toldB; rw [if_pos q1])
        rcases q1 with rfl | rfl
        · go_wp2_with (at_builtin; refine print_append_lit (w0 := w) (W := wr) w.heap.size rfl (.tmp 30) (.tmp 32) 38 5 .u8 1 rfl Try.underlying38 info_u8 (by decide) _ xs [92, 34] rfl rfl ho hbel hbel.size (by simp only [List.length_cons, List.length_nil]; omega) ?_; intro v1 w1 ho1 hb1 hg1 hat1)
          exact ⟨⟨k + 1, _, rfl, by omega, by omega, Lib.hid (by rw [Hes.out, HX.out]), ho1, far_row hat1 hne hsz, hb1, hbyt.grown hg1 hne⟩, by simp [intOf]; omega⟩
        · go_wp2_with (at_builtin; refine print_append_lit (w0 := w) (W := wr) w.heap.size rfl (.tmp 30) (.tmp 32) 38 5 .u8 1 rfl Try.underlying38 info_u8 (by decide) _ xs [92, 92] rfl rfl ho hbel hbel.size (by simp only [List.length_cons, List.length_nil]; omega) ?_; intro v1 w1 ho1 hb1 hg1 hat1)
          exact ⟨⟨k + 1, _, rfl, by omega, by omega, Lib.hid (by rw [Hes.out, HX.out]), ho1, far_row hat1 hne hsz, hb1, hbyt.grown hg1 hne⟩, by simp [intOf]; omega⟩
      · have d1 : (c == 34) = false := beq_eq_false_iff_ne.2 (fun e => q1 (Or.inl e))
        have d2 : (c == 92) = false := beq_eq_false_iff_ne.2 (fun e => q1 (Or.inr e))
        by_cases q2 : 32 ≤ c ∧ c ≤ 126
        · have HX : Hid (toldB c = [c]) := Lib.hid (by unfold toldB; rw [if_neg q1, if_pos q2])
          obtain ⟨a1, a2⟩ := q2
          clear q1
          go_wp2_with (at_builtin; refine print_append_lit (w0 := w) (W := wr) w.heap.size rfl (.tmp 41) (.tmp 43) 38 5 .u8 1 rfl Try.underlying38 info_u8 (by decide) _ xs [c] rfl rfl ho hbel hbel.size (by simp only [List.length_cons, List.length_nil]; omega) ?_; intro v1 w1 ho1 hb1 hg1 hat1)
          exact ⟨⟨k + 1, _, rfl, by omega, by omega, Lib.hid (by rw [Hes.out, HX.out]), ho1, far_row hat1 hne hsz, hb1, hbyt.grown hg1 hne⟩, by simp [intOf]; omega⟩
        · by_cases q3 : c = 10 ∨ c = 13 ∨ c = 9
          · rcases q3 with rfl | rfl | rfl
            · have HX : Hid (toldB 10 = [92, 110]) := Lib.hid rfl
              clear q1 q2
              go_wp2_with (at_builtin; refine print_append_lit (w0 := w) (W := wr) w.heap.size rfl (.tmp 48) (.tmp 49) 38 5 .u8 1 rfl Try.underlying38 info_u8 (by decide) _ xs [92, 110] rfl rfl ho hbel hbel.size (by simp only [List.length_cons, List.length_nil]; omega) ?_; intro v1 w1 ho1 hb1 hg1 hat1)
              exact ⟨⟨k + 1, _, rfl, by omega, by omega, Lib.hid (by rw [Hes.out, HX.out]), ho1, far_row hat1 hne hsz, hb1, hbyt.grown hg1 hne⟩, by simp [intOf]; omega⟩
            · have HX : Hid (toldB 13 = [92, 114]) := Lib.hid rfl
              clear q1 q2
              go_wp2_with (at_builtin; refine print_append_lit (w0 := w) (W := wr) w.heap.size rfl (.tmp 54) (.tmp 55) 38 5 .u8 1 rfl Try.underlying38 info_u8 (by decide) _ xs [92, 114] rfl rfl ho hbel hbel.size (by simp only [List.length_cons, List.length_nil]; omega) ?_; intro v1 w1 ho1 hb1 hg1 hat1)
              exact ⟨⟨k + 1, _, rfl, by omega, by omega, Lib.hid (by rw [Hes.out, HX.out]), ho1, far_row hat1 hne hsz, hb1, hbyt.grown hg1 hne⟩, by simp [intOf]; omega⟩
            · have HX : Hid (toldB 9 = [92, 116]) := Lib.hid rfl
              clear q1 q2
              go_wp2_with (at_builtin; refine print_append_lit (w0 := w) (W := wr) w.heap.size rfl (.tmp 60) (.tmp 61) 38 5 .u8 1 rfl Try.underlying38 info_u8 (by decide) _ xs [92, 116] rfl rfl ho hbel hbel.size (by simp only [List.length_cons, List.length_nil]; omega) ?_; intro v1 w1 ho1 hb1 hg1 hat1)
              exact ⟨⟨k + 1, _, rfl, by omega, by omega, Lib.hid (by rw [Hes.out, HX.out]), ho1, far_row hat1 hne hsz, hb1, hbyt.grown hg1 hne⟩, by simp [intOf]; omega⟩
          · have HX : Hid (toldB c = [92, 120, bt hexT (c / 16), bt hexT (c % 16)]) := Lib.hid (by unfold toldB; rw [if_neg q1, if_neg q2, if_neg (fun e => q3 (Or.inl e)), if_neg (fun e => q3 (Or.inr (Or.inl e))), if_neg (fun e => q3 (Or.inr (Or.inr e)))])
            have d3 : (c == 10) = false := beq_eq_false_iff_ne.2 (fun e => q3 (Or.inl e))
            have d4 : (c == 13) = false := beq_eq_false_iff_ne.2 (fun e => q3 (Or.inr (Or.inl e)))
            have d5 : (c == 9) = false := beq_eq_false_iff_ne.2 (fun e => q3 (Or.inr (Or.inr e)))
            have k0 : 0 ≤ c / 16 := by omega
            have k1 : c / 16 < 16 := by omega
            have k2 : 0 ≤ c % 16 := by omega
            have k3 : c % 16 < 16 := by omega
            have e15 := and15 c hbr.1 (by omega)
            have l1 : ∀ h : (c / 16).toNat < (ByteArray.mk #[48, 49, 50, 51, 52, 53, 54, 55, 56, 57, 97, 98, 99, 100, 101, 102]).size, ((((ByteArray.mk #[48, 49, 50, 51, 52, 53, 54, 55, 56, 57, 97, 98, 99, 100, 101, 102])[(c / 16).toNat]'h).toNat : Nat) : Int) = bt hexT (c / 16) := bt_at hexT (c / 16)
            have l2 : ∀ h : (c % 16).toNat < (ByteArray.mk #[48, 49, 50, 51, 52, 53, 54, 55, 56, 57, 97, 98, 99, 100, 101, 102]).size, ((((ByteArray.mk #[48, 49, 50, 51, 52, 53, 54, 55, 56, 57, 97, 98, 99, 100, 101, 102])[(c % 16).toNat]'h).toNat : Nat) : Int) = bt hexT (c % 16) := bt_at hexT (c % 16)
            have hf : ∀ W : World, W = wr → True := fun _ _ => trivial
            by_cases q4 : 32 ≤ c
            all_goals
              have q5 : 126 < c ∨ c < 32 := by omega
              clear q1 q2 q3
              try have q6 : ¬ c ≤ 126 := by omega
              go_upto_region 5 with (fail)
              have hst : ∀ w1 w2 : World, (Below w.heap.size w w1 ∧ w1.ownsRow w.heap.size 5 1 u3 xs.length (nums .u8 xs)) → Below w1.heap.size w1 w2 → (Below w.heap.size w w2 ∧ w2.ownsRow w.heap.size 5 1 u3 xs.length (nums .u8 xs)) := fun _ _ ⟨h1, h2⟩ h => ⟨below_after h1 h, pw_own_below h2 h⟩
              refine start_ (n := 10) (S := (fun w' => Below w.heap.size w w' ∧ w'.ownsRow w.heap.size 5 1 u3 xs.length (nums .u8 xs))) (ds := [8]) #[false, false, false, false, false, false, false, false, false, false] (by kernel_rfl) rfl rfl ⟨hbel.drew, ho⟩ (fun hHeld => ?_)
              refine pure_ (i := 0) (N := some 14) (v := ?_) (a' := ?_) #[true, false, false, false, false, false, false, false, false, false] rfl rfl (by kernel_rfl) (fun _ _ _ h => h) (Or.inl ⟨by rfl, ?_⟩) ?_ ?_
              rotate_left
              · intro w'
                go_simp
                with_reducible rfl
              rotate_left
              · simp only [Act.put, List.setIfInBounds_toArray, List.set_cons_zero, List.set_cons_succ, i64_w, i32_w]
                rfl
              refine pure_ (i := 1) (N := some 15) (v := ?_) (a' := ?_) #[true, true, false, false, false, false, false, false, false, false] rfl rfl (by kernel_rfl) (fun _ _ _ h => h) (Or.inl ⟨by rfl, ?_⟩) ?_ ?_
              rotate_left
              · intro w'
                go_simp
                with_reducible rfl
              rotate_left
              · simp only [Act.put, List.setIfInBounds_toArray, List.set_cons_zero, List.set_cons_succ, i64_w, i32_w]
                rfl
              refine pure_ (i := 2) (N := some 16) (v := ?_) (a' := ?_) #[true, true, true, false, false, false, false, false, false, false] rfl rfl (by kernel_rfl) (fun _ _ _ h => h) (Or.inl ⟨by rfl, ?_⟩) ?_ ?_
              rotate_left
              · intro w'
                go_simp
                with_reducible rfl
              rotate_left
              · simp only [Act.put, List.setIfInBounds_toArray, List.set_cons_zero, List.set_cons_succ, i64_w, i32_w]
                rfl
              refine pure_ (i := 4) (N := some 18) (v := ?_) (a' := ?_) #[true, true, true, false, true, false, false, false, false, false] rfl rfl (by kernel_rfl) (fun _ _ _ h => h) (Or.inl ⟨by rfl, ?_⟩) ?_ ?_
              rotate_left
              · intro w'
                go_simp
                with_reducible rfl
              rotate_left
              · simp only [Act.put, List.setIfInBounds_toArray, List.set_cons_zero, List.set_cons_succ, i64_w, i32_w]
                rfl
              refine pure_ (i := 5) (N := some 19) (v := ?_) (a' := ?_) #[true, true, true, false, true, true, false, false, false, false] rfl rfl (by kernel_rfl) (fun _ _ _ h => h) (Or.inl ⟨by rfl, ?_⟩) ?_ ?_
              rotate_left
              · intro w'
                go_simp
                with_reducible rfl
              rotate_left
              · simp only [Act.put, List.setIfInBounds_toArray, List.set_cons_zero, List.set_cons_succ, i64_w, i32_w]
                rfl
              refine take_ (i := 3) (N := some 17) (v := ?_) (a' := ?_) #[true, true, true, true, true, true, false, false, false, false] rfl rfl (by kernel_rfl) (fun _ _ _ h => h) (Or.inl ⟨by rfl, ?_⟩) hHeld ?_ ?_
              rotate_left
              · rintro w' ⟨s1, s2⟩
                go_simp
                with_reducible rfl
              rotate_left
              · simp only [Act.put, List.setIfInBounds_toArray, List.set_cons_zero, List.set_cons_succ, i64_w, i32_w]
                rfl
              refine take_ (i := 6) (N := some 20) (v := ?_) (a' := ?_) #[true, true, true, true, true, true, true, false, false, false] rfl rfl (by kernel_rfl) (fun _ _ _ h => h) (Or.inl ⟨by rfl, ?_⟩) hHeld ?_ ?_
              rotate_left
              · rintro w' ⟨s1, s2⟩
                go_simp
                with_reducible rfl
              rotate_left
              · simp only [Act.put, List.setIfInBounds_toArray, List.set_cons_zero, List.set_cons_succ, i64_w, i32_w]
                rfl
              refine one_ (i := 7) (N := some 21) #[true, true, true, true, true, true, true, true, false, false] rfl rfl (by kernel_rfl) (by decide) (fun K hK => ?_)
              refine value_ (w1 := ?_) (v := ?_) (by rfl) rfl ?_ ?_
              rotate_left 2
              · go_simp
                constructor
                · rfl
                · rfl
              refine hK.out _ _ (hst _ _ hHeld (below_one _ _)) (fun hHeld => ?_)
              clear hK K
              refine norm_ (a' := ?_) ?_ ?_
              rotate_left
              · show Act.put _ (some 21) _ = _
                simp only [Act.put, List.setIfInBounds_toArray, List.set_cons_zero, List.set_cons_succ, i64_w, i32_w]
                rfl
              refine last_ (i := 8) (N := some 22) #[true, true, true, true, true, true, true, true, true, false] rfl rfl (by kernel_rfl) (by decide) (fun K hK => ?_)
              refine appLd_ (w0 := w) w.heap.size (by rfl) rfl (.tmp 14) (.tmp 21) 38 5 .u8 1 rfl Try.underlying38 info_u8 (by decide) _ xs [92, 120, bt hexT (c / 16), bt hexT (c % 16)] rfl rfl ho hbel hbel.size (by simp only [List.length_cons, List.length_nil]; omega) ?_
              intro vv w1 ho1 hb1 hg1 hat1
              refine hK.out _ _ ?_
              clear hK K
              refine norm_ (a' := ?_) ?_ ?_
              rotate_left
              · show Act.put _ (some 22) _ = _
                simp only [Act.put, List.setIfInBounds_toArray, List.set_cons_zero, List.set_cons_succ, i64_w, i32_w]
                rfl
              refine pure_ (i := 9) (N := some 3) (v := ?_) (a' := ?_) #[true, true, true, true, true, true, true, true, true, true] rfl rfl (by kernel_rfl) (fun _ _ _ h => h) (Or.inl ⟨by rfl, ?_⟩) ?_ ?_
              rotate_left
              · intro w'
                go_simp
                with_reducible rfl
              rotate_left
              · simp only [Act.put, List.setIfInBounds_toArray, List.set_cons_zero, List.set_cons_succ, i64_w, i32_w]
                rfl
              refine done_ (by kernel_rfl) ?_
              go_wp2
              exact ⟨⟨k + 1, _, rfl, by omega, by omega, Lib.hid (by rw [Hes.out, HX.out]), ho1, far_row hat1 hne hsz, hb1, Byt.grown (w := wr.drew) hbyt hg1 hne⟩, by simp [intOf]; omega⟩
    · obtain rfl : k = s.size := by omega
      rw [take_all] at HX
      have hfin : xs ++ [34] = toldL s := by rw [HX.out]; rfl
      have Hfin := Lib.hid hfin
      clear hfin
      go_wp2_with (at_builtin; refine print_append_lit (w0 := w) (W := wr) w.heap.size rfl (.tmp 64) (.tmp 65) 38 5 .u8 1 rfl Try.underlying38 info_u8 (by decide) _ xs [34] rfl rfl ho hbel hbel.size (by simp only [List.length_cons, List.length_nil]; omega) ?_; intro v1 w2 ho1 hb1 hg1 hat1; have ht := own_string (P := Try.prog) Try.underlying38 Try.underlying5 Try.underlying9 ho1)
      go_ret
      exact ⟨by rw [Hfin.out]; rfl, hb1⟩
set_option maxRecDepth 100000 in
set_option maxHeartbeats 8000000 in
theorem rtold_any (s : ByteArray) (w : World) (hs : s.size * 4 + 2 ≤ 140737488351232) : Calls Try.prog 9 #[.string s] w fun e w' => e = .returned (.string (toldS s)) ∧ Below w.heap.size w w' := by
  go_enter Try.func9, Try.ntmps9
  go_wp2
  go_loopw [4, 5] (fun v u wr => ∃ (k : Int) (xs : List Int), u = .int .i64 k ∧ 0 ≤ k ∧ k ≤ s.size ∧ Hid (xs = toldU ((bytesOf s).take k.toNat)) ∧ wr.ownsRow w.heap.size 5 1 v xs.length (nums .u8 xs) ∧ Below w.heap.size w wr) (fun _ u _ => s.size - (intOf u).toNat)
  case atStart => exact ⟨0, [34], rfl, by omega, by omega, Lib.hid rfl, own_lit w w.heap.size 5 .u8 [34] (Nat.le_refl _) (by simp), below_one _ _⟩
  case round =>
    obtain ⟨k, xs, rfl, hk0, hk1, HX, ho, hbel⟩ := hrel
    have hl0 := bytesOf_length s
    have hxl : xs.length ≤ 4 * s.size + 1 := by
      have := toldU_len ((bytesOf s).take k.toNat)
      rw [← HX.out, List.length_take, hl0] at this
      omega
    by_cases hlt : k < s.size
    · have hes := told_step s k hk0 hlt
      rw [← HX.out] at hes
      have hxl2 : xs.length ≤ 4 * s.size - 3 := by
        have := toldU_len ((bytesOf s).take k.toNat)
        rw [← HX.out, List.length_take, hl0] at this
        omega
      have hbt := bt_at s k
      have hbr := bt_range s k
      generalize bt s k = c at *
      have Hes := Lib.hid hes
      clear hes HX hl0
      by_cases q1 : c = 34 ∨ c = 92
      · have HX : Hid (toldB c = [92, c]) := Lib.hid (by unfold toldB; rw [if_pos q1])
        rcases q1 with rfl | rfl
        · go_wp2_with (at_builtin; refine print_append_lit (w0 := w) (W := wr) w.heap.size rfl (.tmp 28) (.tmp 30) 38 5 .u8 1 rfl Try.underlying38 info_u8 (by decide) _ xs [92, 34] rfl rfl ho hbel hbel.size (by simp only [List.length_cons, List.length_nil]; omega) ?_; intro v1 w1 ho1 hb1 hg1 hat1)
          exact ⟨⟨k + 1, _, rfl, by omega, by omega, Lib.hid (by rw [Hes.out, HX.out]), ho1, hb1⟩, by simp [intOf]; omega⟩
        · go_wp2_with (at_builtin; refine print_append_lit (w0 := w) (W := wr) w.heap.size rfl (.tmp 28) (.tmp 30) 38 5 .u8 1 rfl Try.underlying38 info_u8 (by decide) _ xs [92, 92] rfl rfl ho hbel hbel.size (by simp only [List.length_cons, List.length_nil]; omega) ?_; intro v1 w1 ho1 hb1 hg1 hat1)
          exact ⟨⟨k + 1, _, rfl, by omega, by omega, Lib.hid (by rw [Hes.out, HX.out]), ho1, hb1⟩, by simp [intOf]; omega⟩
      · have d1 : (c == 34) = false := beq_eq_false_iff_ne.2 (fun e => q1 (Or.inl e))
        have d2 : (c == 92) = false := beq_eq_false_iff_ne.2 (fun e => q1 (Or.inr e))
        by_cases q2 : 32 ≤ c ∧ c ≤ 126
        · have HX : Hid (toldB c = [c]) := Lib.hid (by unfold toldB; rw [if_neg q1, if_pos q2])
          obtain ⟨a1, a2⟩ := q2
          clear q1
          go_wp2_with (at_builtin; refine print_append_lit (w0 := w) (W := wr) w.heap.size rfl (.tmp 17) (.tmp 19) 38 5 .u8 1 rfl Try.underlying38 info_u8 (by decide) _ xs [c] rfl rfl ho hbel hbel.size (by simp only [List.length_cons, List.length_nil]; omega) ?_; intro v1 w1 ho1 hb1 hg1 hat1)
          exact ⟨⟨k + 1, _, rfl, by omega, by omega, Lib.hid (by rw [Hes.out, HX.out]), ho1, hb1⟩, by simp [intOf]; omega⟩
        · by_cases q3 : c = 10 ∨ c = 13 ∨ c = 9
          · rcases q3 with rfl | rfl | rfl
            · have HX : Hid (toldB 10 = [92, 110]) := Lib.hid rfl
              clear q1 q2
              go_wp2_with (at_builtin; refine print_append_lit (w0 := w) (W := wr) w.heap.size rfl (.tmp 35) (.tmp 36) 38 5 .u8 1 rfl Try.underlying38 info_u8 (by decide) _ xs [92, 110] rfl rfl ho hbel hbel.size (by simp only [List.length_cons, List.length_nil]; omega) ?_; intro v1 w1 ho1 hb1 hg1 hat1)
              exact ⟨⟨k + 1, _, rfl, by omega, by omega, Lib.hid (by rw [Hes.out, HX.out]), ho1, hb1⟩, by simp [intOf]; omega⟩
            · have HX : Hid (toldB 13 = [92, 114]) := Lib.hid rfl
              clear q1 q2
              go_wp2_with (at_builtin; refine print_append_lit (w0 := w) (W := wr) w.heap.size rfl (.tmp 41) (.tmp 42) 38 5 .u8 1 rfl Try.underlying38 info_u8 (by decide) _ xs [92, 114] rfl rfl ho hbel hbel.size (by simp only [List.length_cons, List.length_nil]; omega) ?_; intro v1 w1 ho1 hb1 hg1 hat1)
              exact ⟨⟨k + 1, _, rfl, by omega, by omega, Lib.hid (by rw [Hes.out, HX.out]), ho1, hb1⟩, by simp [intOf]; omega⟩
            · have HX : Hid (toldB 9 = [92, 116]) := Lib.hid rfl
              clear q1 q2
              go_wp2_with (at_builtin; refine print_append_lit (w0 := w) (W := wr) w.heap.size rfl (.tmp 47) (.tmp 48) 38 5 .u8 1 rfl Try.underlying38 info_u8 (by decide) _ xs [92, 116] rfl rfl ho hbel hbel.size (by simp only [List.length_cons, List.length_nil]; omega) ?_; intro v1 w1 ho1 hb1 hg1 hat1)
              exact ⟨⟨k + 1, _, rfl, by omega, by omega, Lib.hid (by rw [Hes.out, HX.out]), ho1, hb1⟩, by simp [intOf]; omega⟩
          · have HX : Hid (toldB c = [92, 120, bt hexT (c / 16), bt hexT (c % 16)]) := Lib.hid (by unfold toldB; rw [if_neg q1, if_neg q2, if_neg (fun e => q3 (Or.inl e)), if_neg (fun e => q3 (Or.inr (Or.inl e))), if_neg (fun e => q3 (Or.inr (Or.inr e)))])
            have d3 : (c == 10) = false := beq_eq_false_iff_ne.2 (fun e => q3 (Or.inl e))
            have d4 : (c == 13) = false := beq_eq_false_iff_ne.2 (fun e => q3 (Or.inr (Or.inl e)))
            have d5 : (c == 9) = false := beq_eq_false_iff_ne.2 (fun e => q3 (Or.inr (Or.inr e)))
            have k0 : 0 ≤ c / 16 := by omega
            have k1 : c / 16 < 16 := by omega
            have k2 : 0 ≤ c % 16 := by omega
            have k3 : c % 16 < 16 := by omega
            have l1 : ∀ h : (c / 16).toNat < (ByteArray.mk #[48, 49, 50, 51, 52, 53, 54, 55, 56, 57, 97, 98, 99, 100, 101, 102]).size, ((((ByteArray.mk #[48, 49, 50, 51, 52, 53, 54, 55, 56, 57, 97, 98, 99, 100, 101, 102])[(c / 16).toNat]'h).toNat : Nat) : Int) = bt hexT (c / 16) := bt_at hexT (c / 16)
            have l2 : ∀ h : (c % 16).toNat < (ByteArray.mk #[48, 49, 50, 51, 52, 53, 54, 55, 56, 57, 97, 98, 99, 100, 101, 102]).size, ((((ByteArray.mk #[48, 49, 50, 51, 52, 53, 54, 55, 56, 57, 97, 98, 99, 100, 101, 102])[(c % 16).toNat]'h).toNat : Nat) : Int) = bt hexT (c % 16) := bt_at hexT (c % 16)
            have t1 : c.tdiv 16 = c / 16 := Int.tdiv_eq_ediv_of_nonneg hbr.1
            have t2 : c.tmod 16 = c % 16 := Int.tmod_eq_emod_of_nonneg hbr.1
            have v0 : IntKind.u8.wrap (c / 16) = c / 16 := by rw [IntKind.wrap_u8]; omega
            by_cases q4 : c < 32
            all_goals
              have q5 : 126 < c ∨ c < 32 := by omega
              clear q1 q2 q3
              try have q6 : 126 < c := by omega
              go_upto_region 17 with (fail)
              have hst : ∀ w1 w2 : World, (Below w.heap.size w w1 ∧ w1.ownsRow w.heap.size 5 1 u4 xs.length (nums .u8 xs)) → Below w1.heap.size w1 w2 → (Below w.heap.size w w2 ∧ w2.ownsRow w.heap.size 5 1 u4 xs.length (nums .u8 xs)) := fun _ _ ⟨h1, h2⟩ h => ⟨below_after h1 h, pw_own_below h2 h⟩
              refine start_ (n := 12) (S := (fun w' => Below w.heap.size w w' ∧ w'.ownsRow w.heap.size 5 1 u4 xs.length (nums .u8 xs))) (ds := [10]) #[false, false, false, false, false, false, false, false, false, false, false, false] (by kernel_rfl) rfl rfl ⟨hbel.drew, ho⟩ (fun hHeld => ?_)
              refine pure_ (i := 0) (N := some 57) (v := ?_) (a' := ?_) #[true, false, false, false, false, false, false, false, false, false, false, false] rfl rfl (by kernel_rfl) (fun _ _ _ h => h) (Or.inl ⟨by rfl, ?_⟩) ?_ ?_
              rotate_left
              · intro w'
                go_simp
                with_reducible rfl
              rotate_left
              · simp only [Act.put, List.setIfInBounds_toArray, List.set_cons_zero, List.set_cons_succ, i64_w, i32_w]
                rfl
              refine pure_ (i := 1) (N := some 58) (v := ?_) (a' := ?_) #[true, true, false, false, false, false, false, false, false, false, false, false] rfl rfl (by kernel_rfl) (fun _ _ _ h => h) (Or.inl ⟨by rfl, ?_⟩) ?_ ?_
              rotate_left
              · intro w'
                go_simp
                with_reducible rfl
              rotate_left
              · simp only [Act.put, List.setIfInBounds_toArray, List.set_cons_zero, List.set_cons_succ, i64_w, i32_w]
                rfl
              refine pure_ (i := 2) (N := some 59) (v := ?_) (a' := ?_) #[true, true, true, false, false, false, false, false, false, false, false, false] rfl rfl (by kernel_rfl) (fun _ _ _ h => h) (Or.inl ⟨by rfl, ?_⟩) ?_ ?_
              rotate_left
              · intro w'
                go_simp
                with_reducible rfl
              rotate_left
              · simp only [Act.put, List.setIfInBounds_toArray, List.set_cons_zero, List.set_cons_succ, i64_w, i32_w]
                rfl
              refine pure_ (i := 3) (N := some 60) (v := ?_) (a' := ?_) #[true, true, true, true, false, false, false, false, false, false, false, false] rfl rfl (by kernel_rfl) (fun _ _ _ h => h) (Or.inl ⟨by rfl, ?_⟩) ?_ ?_
              rotate_left
              · intro w'
                go_simp
                with_reducible rfl
              rotate_left
              · simp only [Act.put, List.setIfInBounds_toArray, List.set_cons_zero, List.set_cons_succ, i64_w, i32_w]
                rfl
              refine pure_ (i := 5) (N := some 62) (v := ?_) (a' := ?_) #[true, true, true, true, false, true, false, false, false, false, false, false] rfl rfl (by kernel_rfl) (fun _ _ _ h => h) (Or.inl ⟨by rfl, ?_⟩) ?_ ?_
              rotate_left
              · intro w'
                go_simp
                with_reducible rfl
              rotate_left
              · simp only [Act.put, List.setIfInBounds_toArray, List.set_cons_zero, List.set_cons_succ, i64_w, i32_w]
                rfl
              refine pure_ (i := 6) (N := some 63) (v := ?_) (a' := ?_) #[true, true, true, true, false, true, true, false, false, false, false, false] rfl rfl (by kernel_rfl) (fun _ _ _ h => h) (Or.inl ⟨by rfl, ?_⟩) ?_ ?_
              rotate_left
              · intro w'
                go_simp
                with_reducible rfl
              rotate_left
              · simp only [Act.put, List.setIfInBounds_toArray, List.set_cons_zero, List.set_cons_succ, i64_w, i32_w]
                rfl
              refine pure_ (i := 7) (N := some 64) (v := ?_) (a' := ?_) #[true, true, true, true, false, true, true, true, false, false, false, false] rfl rfl (by kernel_rfl) (fun _ _ _ h => h) (Or.inl ⟨by rfl, ?_⟩) ?_ ?_
              rotate_left
              · intro w'
                go_simp
                with_reducible rfl
              rotate_left
              · simp only [Act.put, List.setIfInBounds_toArray, List.set_cons_zero, List.set_cons_succ, i64_w, i32_w]
                rfl
              refine take_ (i := 4) (N := some 61) (v := ?_) (a' := ?_) #[true, true, true, true, true, true, true, true, false, false, false, false] rfl rfl (by kernel_rfl) (fun _ _ _ h => h) (Or.inl ⟨by rfl, ?_⟩) hHeld ?_ ?_
              rotate_left
              · rintro w' ⟨s1, s2⟩
                go_simp
                with_reducible rfl
              rotate_left
              · simp only [Act.put, List.setIfInBounds_toArray, List.set_cons_zero, List.set_cons_succ, i64_w, i32_w]
                rfl
              refine take_ (i := 8) (N := some 65) (v := ?_) (a' := ?_) #[true, true, true, true, true, true, true, true, true, false, false, false] rfl rfl (by kernel_rfl) (fun _ _ _ h => h) (Or.inl ⟨by rfl, ?_⟩) hHeld ?_ ?_
              rotate_left
              · rintro w' ⟨s1, s2⟩
                go_simp
                with_reducible rfl
              rotate_left
              · simp only [Act.put, List.setIfInBounds_toArray, List.set_cons_zero, List.set_cons_succ, i64_w, i32_w]
                rfl
              refine one_ (i := 9) (N := some 66) #[true, true, true, true, true, true, true, true, true, true, false, false] rfl rfl (by kernel_rfl) (by decide) (fun K hK => ?_)
              refine value_ (w1 := ?_) (v := ?_) (by rfl) rfl ?_ ?_
              rotate_left 2
              · go_simp
                constructor
                · rfl
                · rfl
              refine hK.out _ _ (hst _ _ hHeld (below_one _ _)) (fun hHeld => ?_)
              clear hK K
              refine norm_ (a' := ?_) ?_ ?_
              rotate_left
              · show Act.put _ (some 66) _ = _
                simp only [Act.put, List.setIfInBounds_toArray, List.set_cons_zero, List.set_cons_succ, i64_w, i32_w]
                rfl
              refine last_ (i := 10) (N := some 67) #[true, true, true, true, true, true, true, true, true, true, true, false] rfl rfl (by kernel_rfl) (by decide) (fun K hK => ?_)
              refine appLd_ (w0 := w) w.heap.size (by rfl) rfl (.tmp 57) (.tmp 66) 38 5 .u8 1 rfl Try.underlying38 info_u8 (by decide) _ xs [92, 120, bt hexT (c / 16), bt hexT (c % 16)] rfl rfl ho hbel hbel.size (by simp only [List.length_cons, List.length_nil]; omega) ?_
              intro vv w1 ho1 hb1 hg1 hat1
              refine hK.out _ _ ?_
              clear hK K
              refine norm_ (a' := ?_) ?_ ?_
              rotate_left
              · show Act.put _ (some 67) _ = _
                simp only [Act.put, List.setIfInBounds_toArray, List.set_cons_zero, List.set_cons_succ, i64_w, i32_w]
                rfl
              refine pure_ (i := 11) (N := some 4) (v := ?_) (a' := ?_) #[true, true, true, true, true, true, true, true, true, true, true, true] rfl rfl (by kernel_rfl) (fun _ _ _ h => h) (Or.inl ⟨by rfl, ?_⟩) ?_ ?_
              rotate_left
              · intro w'
                go_simp
                with_reducible rfl
              rotate_left
              · simp only [Act.put, List.setIfInBounds_toArray, List.set_cons_zero, List.set_cons_succ, i64_w, i32_w]
                rfl
              refine done_ (by kernel_rfl) ?_
              go_wp2
              exact ⟨⟨k + 1, _, rfl, by omega, by omega, Lib.hid (by rw [Hes.out, HX.out]), ho1, hb1⟩, by simp [intOf]; omega⟩
    · obtain rfl : k = s.size := by omega
      rw [take_all] at HX
      have hfin : xs ++ [34] = toldL s := by rw [HX.out]; rfl
      have Hfin := Lib.hid hfin
      clear hfin
      go_wp2_with (at_builtin; refine print_append_lit (w0 := w) (W := wr) w.heap.size rfl (.tmp 68) (.tmp 69) 38 5 .u8 1 rfl Try.underlying38 info_u8 (by decide) _ xs [34] rfl rfl ho hbel hbel.size (by simp only [List.length_cons, List.length_nil]; omega) ?_; intro v1 w2 ho1 hb1 hg1 hat1; have ht := own_string (P := Try.prog) Try.underlying38 Try.underlying5 Try.underlying9 ho1)
      go_ret
      exact ⟨by rw [Hfin.out]; rfl, hb1⟩
end Go.Proofs.Ytjfdbdjcceecjaa
