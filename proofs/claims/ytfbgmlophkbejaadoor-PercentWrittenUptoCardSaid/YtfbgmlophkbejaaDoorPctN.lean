/- Percent: Form and FormDecode, the program's and the document's. -/
import Derived.Test.YtfbgmlophkbejaaDoorPctM
import Derived.Test.YtfbgmlophkbejaaDoorShelf
import Derived.Test.YtfbgmlophkbejaaDoorMaxA
set_option linter.unusedVariables false
set_option linter.unusedSimpArgs false
namespace Go.Proofs.YtfbgmlophkbejaaDoor
open Go.RowKit Go.Proofs.YtfbgmlophkbejaaDoorW.PrintWords Go.Proofs.YtfbgmlophkbejaaDoorW.PrintLast
theorem nW8 : nW 8 = [18158685221371772927, 17870283327714361345, 18446744073709551615, 18446744073709551615] := by decide +kernel
theorem named8 (w : World) : Calls Tryd.prog 35 #[.int .i64 8] w fun e w' => e = .returned (.tuple #[set4 18158685221371772927 17870283327714361345 18446744073709551615 18446744073709551615, .int .i64 0]) ∧ Below w.heap.size w w' := by
  have h := named_any 8 w
  rw [nW8] at h
  exact h
theorem rnamed8 (w : World) : Calls Tryd.prog 40 #[.int .i64 8] w fun e w' => e = .returned (.tuple #[.agg (nums .u8 (bl (nW 8))).toArray, .int .i64 0]) ∧ Below w.heap.size w w' := rnamed_any 8 w
theorem wf_sign : Wf4 137438953472 0 0 0 := wf_lits (by kernel_rfl)
theorem wf_space : Wf4 4294967296 0 0 0 := wf_lits (by kernel_rfl)
theorem wf_form2 : Wf4 18158685217076805631 17870283327714361345 18446744073709551615 18446744073709551615 := wf_lits (by kernel_rfl)
theorem make_sign (w : World) : Calls Tryd.prog 38 #[.int .u8 37, .int .u8 37, .slice none 0 0] w fun e w' => e = .returned (set4 137438953472 0 0 0) ∧ Below w.heap.size w w' := make_nil_is 37 37 w (by omega) (by omega) (by omega) (by omega) wf_sign (all256 (by kernel_rfl))
theorem make_space (w : World) : Calls Tryd.prog 38 #[.int .u8 32, .int .u8 32, .slice none 0 0] w fun e w' => e = .returned (set4 4294967296 0 0 0) ∧ Below w.heap.size w w' := make_nil_is 32 32 w (by omega) (by omega) (by omega) (by omega) wf_space (all256 (by kernel_rfl))
theorem union_form {g : Nat} {w : World} (hb : Blk w g 27 (nums .u64 [18158685221371772927, 17870283327714361345, 18446744073709551615, 18446744073709551615, 137438953472, 0, 0, 0]).toArray) : Calls Tryd.prog 37 #[.slice (some ⟨g, 0, none⟩) 2 2] w fun e w' => e = .returned (set4 18158685221371772927 17870283327714361345 18446744073709551615 18446744073709551615) ∧ Below w.heap.size w w' := (union_two wf_form wf_sign hb).mono fun _ _ h => such_is wf_form (all256 (by kernel_rfl)) h
theorem minus_form (w : World) : Calls Tryd.prog 36 #[set4 18158685221371772927 17870283327714361345 18446744073709551615 18446744073709551615, set4 4294967296 0 0 0] w fun e w' => e = .returned (set4 18158685217076805631 17870283327714361345 18446744073709551615 18446744073709551615) ∧ Below w.heap.size w w' := (minus_such w wf_form wf_space).mono fun _ _ h => such_is wf_form2 (all256 (by kernel_rfl)) h
theorem repAll_any (a b : UInt8) (s : ByteArray) (w : World) (hab : a ≠ b) (hs : s.size ≤ 1073741824) (M : MaxL w) :
    Calls Tryd.prog 39 #[.string s, .string ⟨#[a]⟩, .string ⟨#[b]⟩] w fun e w' => e = .returned (.string (repS (a.toNat : Int) (b.toNat : Int) s)) ∧ Below w.heap.size w w' := by
  obtain ⟨m, hm⟩ := M
  have hc : Lib.countB s ⟨#[a]⟩ ≤ s.size := by
    have := count_le_one s.data.toList a _ s.data.toList rfl
    have e : s.data.toList.length = s.size := by rw [Array.length_toList]; rfl
    rw [e] at this
    exact this
  have h := Tryd.strings_ReplaceAll s ⟨#[a]⟩ ⟨#[b]⟩ m w (by omega) hm (by show 1 ≤ 1; omega) (by show s.size + Lib.countB s ⟨#[a]⟩ * 1 ≤ 140737488355328; omega)
  rw [show (⟨(Lib.replaceAll s.data.toList (⟨#[a]⟩ : ByteArray).data.toList (⟨#[b]⟩ : ByteArray).data.toList).toArray⟩ : ByteArray) = repS (a.toNat : Int) (b.toNat : Int) s from rep_bytes a b s hab] at h
  exact h
set_option maxRecDepth 100000 in
set_option maxHeartbeats 4000000 in
theorem form_any (s : ByteArray) (w : World) (hs : s.size ≤ 134217728) (M : MaxL w) : Calls Tryd.prog 10 #[.string s] w fun e w' => e = .returned (.string (formS s)) ∧ Below w.heap.size w w' := by
  have hE := fun W => Z.encode_any s 18158685217076805631 17870283327714361345 18446744073709551615 18446744073709551615 W (by omega)
  have hfi := form_is s
  have hq : (strOfNums (Z.encL (inSet formW) (bytesOf s))).size ≤ 3 * s.size := by
    have := Z.encL_len (inSet formW) (bytesOf s)
    rw [bytesOf_length] at this
    rw [strOfNums_size]
    exact this
  have hR := fun W (h : MaxL W) => repAll_any 32 43 (strOfNums (Z.encL (inSet formW) (bytesOf s))) W (by decide) (by omega) h
  have e32 : ((32 : UInt8).toNat : Int) = 32 := rfl
  have e43 : ((43 : UInt8).toNat : Int) = 43 := rfl
  rw [e32, e43, hfi] at hR
  rw [show inSet [18158685217076805631, 17870283327714361345, 18446744073709551615, 18446744073709551615] = inSet formW from rfl] at hE
  generalize strOfNums (Z.encL (inSet formW) (bytesOf s)) = q at *
  generalize formS s = F at *
  have HE := Lib.hid hE
  have HR := Lib.hid hR
  clear hE hR hfi hq e32 e43
  go_enter Tryd.func10, Tryd.ntmps10
  go_upto_region 2 with (first
    | (go_at_call 35; (with_reducible refine (named8 _).mono ?_); rintro e w1 ⟨rfl, hb1⟩)
    | (refine wp_store_blk rfl 27 _ _ rfl rfl w1.heap.size (arr4 18158685221371772927 17870283327714361345 18446744073709551615 18446744073709551615) rfl rfl 27 _ (Blk.new _ _ _) 4 size_B rfl rfl (nums_one .u64 [18158685221371772927, 17870283327714361345, 18446744073709551615, 18446744073709551615]) ?_; intro w2 hb2 hg2))
  have hbel : Below w.heap.size w w2 := below_grown (below_alloc hb1 _) hg2 hb1.size
  have hgs : w.heap.size ≤ w1.heap.size := hb1.size
  generalize w1.heap.size = g at *
  clear hg2 hb1
  have hst : ∀ w1 w2 : World, (Below w.heap.size w w1 ∧ Blk w1 g 27 (arr4 18158685221371772927 17870283327714361345 18446744073709551615 18446744073709551615)) → Below w1.heap.size w1 w2 → (Below w.heap.size w w2 ∧ Blk w2 g 27 (arr4 18158685221371772927 17870283327714361345 18446744073709551615 18446744073709551615)) := fun _ _ ⟨h1, h2⟩ h => ⟨below_after h1 h, h2.after h⟩
  refine start_ (n := 7) (S := (fun w' => Below w.heap.size w w' ∧ Blk w' g 27 (arr4 18158685221371772927 17870283327714361345 18446744073709551615 18446744073709551615))) (ds := [6]) #[false, false, false, false, false, false, false] (by kernel_rfl) rfl rfl ⟨hbel.drew, hb2.drew⟩ (fun hHeld => ?_)
  refine take_ (i := 0) (N := some 9) (v := ?_) (a' := ?_) #[true, false, false, false, false, false, false] rfl rfl (by kernel_rfl) (fun _ _ _ h => h) (Or.inl ⟨by rfl, ?_⟩) hHeld ?_ ?_
  rotate_left
  · rintro w' ⟨s1, s2⟩
    refine exec_load_blk 27 (.tmp 3) ?_ g ?_ 27 s2 _ Tryd.underlying27 rfl 4 size_B rfl
    · rfl
    · rfl
  rotate_left
  · simp only [Act.put, List.setIfInBounds_toArray, List.set_cons_zero, List.set_cons_succ, i64_w, i32_w]
    rfl
  refine one_ (i := 1) (N := some 10) #[true, true, false, false, false, false, false] rfl rfl (by kernel_rfl) (by decide) (fun K hK => ?_)
  refine goes_ Tryd.func38 (by kernel_rfl) rfl #[.int .u8 37, .int .u8 37, .slice none 0 0] (by rfl) rfl rfl (by first | rfl | (simp only [List.map_toArray, List.map_cons, List.map_nil]; done) | (simp only [List.map_toArray, List.map_cons, List.map_nil]; rfl)) ?_
  refine (make_sign _).mono ?_
  rintro _ wq ⟨rfl, hbc⟩
  refine ⟨_, rfl, ?_⟩
  refine hK.out _ _ (hst _ _ hHeld hbc) (fun hHeld => ?_)
  clear hK K
  refine norm_ (a' := ?_) ?_ ?_
  rotate_left
  · show Act.put _ (some 10) _ = _
    simp only [Act.put, List.setIfInBounds_toArray, List.set_cons_zero, List.set_cons_succ, i64_w, i32_w]
    rfl
  refine one_ (i := 2) (N := some 11) #[true, true, true, false, false, false, false] rfl rfl (by kernel_rfl) (by decide) (fun K hK => ?_)
  refine lits2_ (by rfl) rfl _ _ rfl rfl rfl ?_
  intro G3 W3 B3 hbc
  refine hK.out _ _ (hst _ _ hHeld hbc) (fun hHeld => ?_)
  clear hK K
  refine norm_ (a' := ?_) ?_ ?_
  rotate_left
  · show Act.put _ (some 11) _ = _
    simp only [Act.put, List.setIfInBounds_toArray, List.set_cons_zero, List.set_cons_succ, i64_w, i32_w]
    rfl
  refine one_ (i := 3) (N := some 12) #[true, true, true, true, false, false, false] rfl rfl (by kernel_rfl) (by decide) (fun K hK => ?_)
  refine goes_ Tryd.func37 (by kernel_rfl) rfl #[.slice (some ⟨G3, 0, none⟩) 2 2] (by rfl) rfl rfl (by first | rfl | (simp only [List.map_toArray, List.map_cons, List.map_nil]; done) | (simp only [List.map_toArray, List.map_cons, List.map_nil]; rfl)) ?_
  refine (union_form B3).mono ?_
  rintro _ wq ⟨rfl, hbc⟩
  refine ⟨_, rfl, ?_⟩
  clear B3
  refine hK.out _ _ (hst _ _ hHeld hbc) (fun hHeld => ?_)
  clear hK K
  refine norm_ (a' := ?_) ?_ ?_
  rotate_left
  · show Act.put _ (some 12) _ = _
    simp only [Act.put, List.setIfInBounds_toArray, List.set_cons_zero, List.set_cons_succ, i64_w, i32_w]
    rfl
  refine one_ (i := 4) (N := some 13) #[true, true, true, true, true, false, false] rfl rfl (by kernel_rfl) (by decide) (fun K hK => ?_)
  refine goes_ Tryd.func38 (by kernel_rfl) rfl #[.int .u8 32, .int .u8 32, .slice none 0 0] (by rfl) rfl rfl (by first | rfl | (simp only [List.map_toArray, List.map_cons, List.map_nil]; done) | (simp only [List.map_toArray, List.map_cons, List.map_nil]; rfl)) ?_
  refine (make_space _).mono ?_
  rintro _ wq ⟨rfl, hbc⟩
  refine ⟨_, rfl, ?_⟩
  refine hK.out _ _ (hst _ _ hHeld hbc) (fun hHeld => ?_)
  clear hK K
  refine norm_ (a' := ?_) ?_ ?_
  rotate_left
  · show Act.put _ (some 13) _ = _
    simp only [Act.put, List.setIfInBounds_toArray, List.set_cons_zero, List.set_cons_succ, i64_w, i32_w]
    rfl
  refine one_ (i := 5) (N := some 14) #[true, true, true, true, true, true, false] rfl rfl (by kernel_rfl) (by decide) (fun K hK => ?_)
  refine goes_ Tryd.func36 (by kernel_rfl) rfl #[set4 18158685221371772927 17870283327714361345 18446744073709551615 18446744073709551615, set4 4294967296 0 0 0] (by rfl) rfl rfl (by first | rfl | (simp only [List.map_toArray, List.map_cons, List.map_nil]; done) | (simp only [List.map_toArray, List.map_cons, List.map_nil]; rfl)) ?_
  refine (minus_form _).mono ?_
  rintro _ wq ⟨rfl, hbc⟩
  refine ⟨_, rfl, ?_⟩
  refine hK.out _ _ (hst _ _ hHeld hbc) (fun hHeld => ?_)
  clear hK K
  refine norm_ (a' := ?_) ?_ ?_
  rotate_left
  · show Act.put _ (some 14) _ = _
    simp only [Act.put, List.setIfInBounds_toArray, List.set_cons_zero, List.set_cons_succ, i64_w, i32_w]
    rfl
  refine last_ (i := 6) (N := none) #[true, true, true, true, true, true, true] rfl rfl (by kernel_rfl) (by decide) (fun K hK => ?_)
  refine store_ (by rfl) rfl 27 _ _ rfl g (arr4 18158685217076805631 17870283327714361345 18446744073709551615 18446744073709551615) rfl rfl 27 _ hHeld.2 4 size_B rfl rfl (nums_one .u64 [18158685217076805631, 17870283327714361345, 18446744073709551615, 18446744073709551615]) ?_
  intro wS bS kS
  refine hK.out _ _ ?_
  clear hK K
  refine done_ (by kernel_rfl) ?_
  have hbelS := below_grown hHeld.1 kS hgs
  go_wp2_with (first
    | (refine wp_load_blk rfl 27 _ rfl g rfl 27 _ bS _ Tryd.underlying27 rfl 4 size_B rfl ?_)
    | (go_at_call 16; (with_reducible refine (HE.out _).mono ?_); rintro e w5 ⟨rfl, hb5⟩; have hbel5 := below_after hbelS hb5)
    | (go_at_call 39; (with_reducible refine (HR.out _ (MaxL_below M hbel5)).mono ?_); rintro e w6 ⟨rfl, hb6⟩; have hbel6 := below_after hbel5 hb6))
  go_ret
  exact ⟨rfl, hbel6⟩
theorem fdec_any (s : ByteArray) (w : World) (hs : s.size ≤ 1073741824) (M : MaxL w) : Calls Tryd.prog 12 #[.string s] w fun e w' => e = .returned (.string (fdecS s)) ∧ Below w.heap.size w w' := by
  have hR := repAll_any 43 32 s w (by decide) hs M
  rw [show ((43 : UInt8).toNat : Int) = 43 from rfl, show ((32 : UInt8).toNat : Int) = 32 from rfl] at hR
  have hD := fun W => Z.decode_any (repS 43 32 s) W (by rw [repS_size]; omega)
  have hf : Z.decS (repS 43 32 s) = fdecS s := rfl
  rw [hf] at hD
  generalize fdecS s = F at *
  generalize repS 43 32 s = q at *
  have HR := Lib.hid hR
  have HD := Lib.hid hD
  clear hR hD hf
  go_enter Tryd.func12, Tryd.ntmps12
  go_wp2_with (first
    | (go_at_call 39; (with_reducible refine (HR.out).mono ?_); rintro e w1 ⟨rfl, hb1⟩)
    | (go_at_call 15; (with_reducible refine (HD.out _).mono ?_); rintro e w2 ⟨rfl, hb2⟩))
  go_ret
  exact ⟨rfl, below_after hb1 hb2⟩
theorem bl_set : (bl (nW 8)).set 37 1 = bl (nW 8) := by decide +kernel
theorem bl_in (b : Int) (h0 : 0 ≤ b) (h1 : b < 256) : (rd (bl (nW 8)) b == 1) = inSet (nW 8) b := by
  rw [bl_at _ b h0 h1]
  cases inSet (nW 8) b <;> rfl
theorem one_form (b : Int) (h : 0 ≤ b ∧ b ≤ 255) (hb : b ≠ 32) : strOfNums (Z.encL (inSet (nW 8)) (bytesOf (strOfNums [b]))) = strOfNums (formB b) := by
  rw [bytesOf_strOfNums _ (fun x hx => by obtain rfl := List.mem_singleton.1 hx; exact h)]
  unfold formB
  rw [if_neg hb]
  simp [Z.encL]
theorem formL_step (s : ByteArray) (k : Int) (h0 : 0 ≤ k) (h1 : k < s.size) : strOfNums (((bytesOf s).take (k + 1).toNat).flatMap formB) = strOfNums (((bytesOf s).take k.toNat).flatMap formB) ++ strOfNums (formB (bt s k)) := by
  rw [Z.take_byte s k h0 h1, List.flatMap_append, strOfNums_append]
  simp
theorem formL_take (s : ByteArray) (k : Int) : (strOfNums (((bytesOf s).take k.toNat).flatMap formB)).size ≤ 3 * s.size := by
  have := formL_len ((bytesOf s).take k.toNat)
  rw [List.length_take, bytesOf_length] at this
  rw [strOfNums_size]
  omega
set_option maxRecDepth 100000 in
set_option maxHeartbeats 4000000 in
theorem rform_any (s : ByteArray) (w : World) (hs : s.size ≤ 134217728) : Calls Tryd.prog 11 #[.string s] w fun e w' => e = .returned (.string (formS s)) ∧ Below w.heap.size w w' := by
  have hbl : (bl (nW 8)).length = 256 := bl_len _
  have hset := bl_set
  have hin := bl_in
  have hN := fun W => rnamed8 W
  generalize bl (nW 8) = m at *
  have HN := Lib.hid hN
  have Hset := Lib.hid hset
  have Hin := Lib.hid hin
  clear hset hin hN
  go_enter Tryd.func11, Tryd.ntmps11
  go_upto_region 2 with (first
    | (go_at_call 40; (with_reducible refine (HN.out _).mono ?_); rintro e w1 ⟨rfl, hb1⟩)
    | (refine wp_store_blk rfl 66 _ _ rfl rfl w1.heap.size _ rfl rfl 66 _ (Blk.new _ _ _) 256 size_S (by rw [nums_size]; exact hbl) rfl (nums_one _ _) ?_; intro w2 hb2 hg2))
  have hbel : Below w.heap.size w w2 := below_grown (below_alloc hb1 _) hg2 hb1.size
  have hgs : w.heap.size ≤ w1.heap.size := hb1.size
  generalize w1.heap.size = g at *
  clear hg2 hb1
  have c1 := blk_num_at hb2 37 (by omega) (by omega)
  rw [show ((37 : Int)).toNat = 37 from rfl] at c1
  have c2 := hb2.frozen 37
  go_upto_region 3 with (fail)
  have hb3 : Blk (w2.setCell ⟨g, 37, none⟩ (.int .u8 1)) g 66 (nums .u8 m).toArray := by
    have := blk_num_set hb2 37 1
    rw [Hset.out] at this
    exact this
  have hbel3 : Below w.heap.size w (w2.setCell ⟨g, 37, none⟩ (.int .u8 1)) := below_set hbel (by simp <;> omega) _
  generalize w2.setCell ⟨g, 37, none⟩ (.int .u8 1) = w3 at *
  clear hb2 hbel c1 c2 Hset
  go_wp2
  go_loopw [5, 6] (fun u v wr => ∃ (k : Int), u = .string (strOfNums (((bytesOf s).take k.toNat).flatMap formB)) ∧ v = .int .i64 k ∧ 0 ≤ k ∧ k ≤ s.size ∧ Below w.heap.size w wr ∧ Blk wr g 66 (nums .u8 m).toArray) (fun _ v _ => s.size - (intOf v).toNat)
  case atStart => exact ⟨0, rfl, rfl, by omega, by omega, hbel3, hb3⟩
  case round =>
    clear hbel3 hb3
    obtain ⟨k, rfl, rfl, hk0, hk1, hbel, hblk⟩ := hrel
    by_cases hlt : k < s.size
    · have hstep := formL_step s k hk0 hlt
      have hX := formL_take s k
      have hbt := bt_at s k
      have hbr := bt_range s k
      have hob := Z.one_byte s k hk0 hlt
      have hof := one_form (bt s k) hbr
      have hen := fun W => Z.rencode_any (strOfNums [bt s k]) m (inSet (nW 8)) W (by rw [strOfNums_size]; simp) hbl Hin.out
      have hfz : (strOfNums (formB (bt s k))).size ≤ 3 := by rw [strOfNums_size]; exact formB_len _
      have hoz : (strOfNums [bt s k]).size ≤ 1 := by rw [strOfNums_size]; simp
      have hf32 : bt s k = 32 → strOfNums (formB (bt s k)) = ⟨#[43]⟩ := fun e => by rw [e]; rfl
      generalize strOfNums (((bytesOf s).take k.toNat).flatMap formB) = X at *
      have Hst := Lib.hid hstep
      clear hstep
      by_cases h32 : bt s k = 32
      · rw [hf32 h32] at Hst hfz
        have hb32 : (bt s k == 32) = true := beq_iff_eq.2 h32
        clear hen hof hob hoz hf32 h32
        go_wp2
        exact ⟨⟨k + 1, by rw [Hst.out], rfl, by omega, by omega, hbel, hblk⟩, by simp [intOf]; omega⟩
      · have hb32 : (bt s k == 32) = false := beq_eq_false_iff_ne.2 h32
        simp only [hof h32] at hen
        generalize strOfNums (formB (bt s k)) = Y at *
        generalize strOfNums [bt s k] = Z1 at *
        have Hen := Lib.hid hen
        clear hen hof hf32 h32
        have q1 : wrap64 (k + 1) = k + 1 := by unfold wrap64; omega
        have q2 : 0 ≤ k + 1 := by omega
        have q3 : k + 1 ≤ s.size := by omega
        have q4 : k ≤ k + 1 := by omega
        have q5 : ¬ 9223372036854775807 < X.size + Y.size := by omega
        have hst : ∀ w1 w2 : World, (Below w.heap.size w w1 ∧ Blk w1 g 66 (nums .u8 m).toArray) → Below w1.heap.size w1 w2 → (Below w.heap.size w w2 ∧ Blk w2 g 66 (nums .u8 m).toArray) := fun _ _ ⟨h1, h2⟩ h => ⟨below_after h1 h, h2.after h⟩
        go_upto_region 9 with (fail)
        refine start_ (n := 10) (S := (fun w' => Below w.heap.size w w' ∧ Blk w' g 66 (nums .u8 m).toArray)) (ds := []) #[false, false, false, false, false, false, false, false, false, false] (by kernel_rfl) rfl rfl ⟨hbel.drew, hblk.drew⟩ (fun hHeld => ?_)
        refine pure_ (i := 0) (N := some 24) (v := ?_) (a' := ?_) #[true, false, false, false, false, false, false, false, false, false] rfl rfl (by kernel_rfl) (fun _ _ _ h => h) (Or.inl ⟨by rfl, ?_⟩) ?_ ?_
        rotate_left
        · intro w'
          go_simp
          with_reducible rfl
        rotate_left
        · simp only [Act.put, List.setIfInBounds_toArray, List.set_cons_zero, List.set_cons_succ, i64_w, i32_w]
          rfl
        refine pure_ (i := 1) (N := some 25) (v := ?_) (a' := ?_) #[true, true, false, false, false, false, false, false, false, false] rfl rfl (by kernel_rfl) (fun _ _ _ h => h) (Or.inl ⟨by rfl, ?_⟩) ?_ ?_
        rotate_left
        · intro w'
          go_simp
          with_reducible rfl
        rotate_left
        · simp only [Act.put, List.setIfInBounds_toArray, List.set_cons_zero, List.set_cons_succ, i64_w, i32_w]
          rfl
        refine pure_ (i := 2) (N := some 26) (v := ?_) (a' := ?_) #[true, true, true, false, false, false, false, false, false, false] rfl rfl (by kernel_rfl) (fun _ _ _ h => h) (Or.inl ⟨by rfl, ?_⟩) ?_ ?_
        rotate_left
        · intro w'
          go_simp
          with_reducible rfl
        rotate_left
        · simp only [Act.put, List.setIfInBounds_toArray, List.set_cons_zero, List.set_cons_succ, i64_w, i32_w]
          rfl
        refine pure_ (i := 3) (N := some 27) (v := ?_) (a' := ?_) #[true, true, true, true, false, false, false, false, false, false] rfl rfl (by kernel_rfl) (fun _ _ _ h => h) (Or.inl ⟨by rfl, ?_⟩) ?_ ?_
        rotate_left
        · intro w'
          go_simp
          with_reducible rfl
        rotate_left
        · simp only [Act.put, List.setIfInBounds_toArray, List.set_cons_zero, List.set_cons_succ, i64_w, i32_w]
          rfl
        refine pure_ (i := 4) (N := some 28) (v := ?_) (a' := ?_) #[true, true, true, true, true, false, false, false, false, false] rfl rfl (by kernel_rfl) (fun _ _ _ h => h) (Or.inl ⟨by rfl, ?_⟩) ?_ ?_
        rotate_left
        · intro w'
          go_simp
          with_reducible rfl
        rotate_left
        · simp only [Act.put, List.setIfInBounds_toArray, List.set_cons_zero, List.set_cons_succ, i64_w, i32_w]
          rfl
        refine pure_ (i := 5) (N := some 29) (v := ?_) (a' := ?_) #[true, true, true, true, true, true, false, false, false, false] rfl rfl (by kernel_rfl) (fun _ _ _ h => h) (Or.inl ⟨by rfl, ?_⟩) ?_ ?_
        rotate_left
        · intro w'
          go_simp
          with_reducible rfl
        rotate_left
        · simp only [Act.put, List.setIfInBounds_toArray, List.set_cons_zero, List.set_cons_succ, i64_w, i32_w]
          rfl
        refine take_ (i := 6) (N := some 30) (v := ?_) (a' := ?_) #[true, true, true, true, true, true, true, false, false, false] rfl rfl (by kernel_rfl) (fun _ _ _ h => h) (Or.inl ⟨by rfl, ?_⟩) hHeld ?_ ?_
        rotate_left
        · rintro w' ⟨s1, s2⟩
          refine exec_load_blk 66 (.tmp 3) ?_ g ?_ 66 s2 _ Tryd.underlying66 rfl 256 size_S (by rw [nums_size]; exact hbl)
          · rfl
          · rfl
        rotate_left
        · simp only [Act.put, List.setIfInBounds_toArray, List.set_cons_zero, List.set_cons_succ, i64_w, i32_w]
          rfl
        refine one_ (i := 7) (N := some 31) #[true, true, true, true, true, true, true, true, false, false] rfl rfl (by kernel_rfl) (by decide) (fun K hK => ?_)
        refine goes_ Tryd.func41 (by kernel_rfl) rfl #[.string Z1, .agg (nums .u8 m).toArray] (by rfl) rfl rfl (by first | rfl | (simp only [List.map_toArray, List.map_cons, List.map_nil]; done) | (simp only [List.map_toArray, List.map_cons, List.map_nil]; rfl)) ?_
        refine (Hen.out _).mono ?_
        rintro _ wq ⟨rfl, hbc⟩
        refine ⟨_, rfl, ?_⟩
        refine hK.out _ _ (hst _ _ hHeld hbc) (fun hHeld => ?_)
        clear hK K
        refine norm_ (a' := ?_) ?_ ?_
        rotate_left
        · show Act.put _ (some 31) _ = _
          simp only [Act.put, List.setIfInBounds_toArray, List.set_cons_zero, List.set_cons_succ, i64_w, i32_w]
          rfl
        refine pure_ (i := 8) (N := some 32) (v := ?_) (a' := ?_) #[true, true, true, true, true, true, true, true, true, false] rfl rfl (by kernel_rfl) (fun _ _ _ h => h) (Or.inl ⟨by rfl, ?_⟩) ?_ ?_
        rotate_left
        · intro w'
          go_simp
          with_reducible rfl
        rotate_left
        · simp only [Act.put, List.setIfInBounds_toArray, List.set_cons_zero, List.set_cons_succ, i64_w, i32_w]
          rfl
        refine pure_ (i := 9) (N := some 5) (v := ?_) (a' := ?_) #[true, true, true, true, true, true, true, true, true, true] rfl rfl (by kernel_rfl) (fun _ _ _ h => h) (Or.inl ⟨by rfl, ?_⟩) ?_ ?_
        rotate_left
        · intro w'
          go_simp
          with_reducible rfl
        rotate_left
        · simp only [Act.put, List.setIfInBounds_toArray, List.set_cons_zero, List.set_cons_succ, i64_w, i32_w]
          rfl
        refine done_ (by kernel_rfl) ?_
        go_wp2
        exact ⟨⟨k + 1, by rw [Hst.out], rfl, by omega, by omega, hHeld.1, hHeld.2⟩, by simp [intOf]; omega⟩
    · obtain rfl : k = s.size := by omega
      rw [Z.take_all]
      go_wp2
      go_ret
      exact ⟨rfl, hbel⟩
theorem repL_step (s : ByteArray) (k : Int) (h0 : 0 ≤ k) (h1 : k < s.size) : ((bytesOf s).take (k + 1).toNat).map (repB 43 32) = ((bytesOf s).take k.toNat).map (repB 43 32) ++ [repB 43 32 (bt s k)] := by
  rw [Z.take_byte s k h0 h1, List.map_append]
  rfl
set_option maxRecDepth 100000 in
set_option maxHeartbeats 4000000 in
theorem rfdec_any (s : ByteArray) (w : World) (hs : s.size ≤ 1073741824) : Calls Tryd.prog 13 #[.string s] w fun e w' => e = .returned (.string (fdecS s)) ∧ Below w.heap.size w w' := by
  go_enter Tryd.func13, Tryd.ntmps13
  go_wp2
  go_loopw [3, 4] (fun u v wr => ∃ (k : Int) (xs : List Int), v = .int .i64 k ∧ 0 ≤ k ∧ k ≤ s.size ∧ xs.length = k.toNat ∧ Hid (xs = ((bytesOf s).take k.toNat).map (repB 43 32)) ∧ wr.ownsRow w.heap.size 5 1 u xs.length (nums .u8 xs) ∧ Below w.heap.size w wr) (fun _ v _ => s.size - (intOf v).toNat)
  case atStart => exact ⟨0, [], rfl, by omega, by omega, rfl, Lib.hid rfl, own_lit w w.heap.size 5 .u8 [] (Nat.le_refl _) (by simp), below_one _ _⟩
  case round =>
    obtain ⟨k, xs, rfl, hk0, hk1, hxl, hX, ho, hbel⟩ := hrel
    by_cases hlt : k < s.size
    · have hstep := repL_step s k hk0 hlt
      rw [← hX.out] at hstep
      have hbt := bt_at s k
      have hbr := bt_range s k
      unfold repB at hstep
      by_cases h43 : bt s k = 43
      · rw [if_pos h43] at hstep
        have hb : (bt s k == 43) = true := beq_iff_eq.2 h43
        have Hst := Lib.hid hstep
        clear hstep h43 hX
        go_wp2_with (at_builtin; refine print_append_num (w0 := w) (W := wr) w.heap.size rfl (.tmp 19) (.tmp 20) 70 5 .u8 1 rfl Tryd.underlying70 info_u8 (by decide) _ xs _ rfl rfl ho hbel hbel.size (by omega) ?_; intro v1 w1 ho1 hb1 hg1 hat1)
        exact ⟨⟨k + 1, _, rfl, by omega, by omega, by rw [List.length_append, hxl]; simp; omega, Lib.hid Hst.out.symm, ho1, hb1⟩, by simp [intOf]; omega⟩
      · rw [if_neg h43] at hstep
        have hb : (bt s k == 43) = false := beq_eq_false_iff_ne.2 h43
        have Hst := Lib.hid hstep
        clear hstep h43 hX
        go_wp2_with (at_builtin; refine print_append_num (w0 := w) (W := wr) w.heap.size rfl (.tmp 22) (.tmp 26) 70 5 .u8 1 rfl Tryd.underlying70 info_u8 (by decide) _ xs _ rfl rfl ho hbel hbel.size (by omega) ?_; intro v1 w1 ho1 hb1 hg1 hat1)
        exact ⟨⟨k + 1, _, rfl, by omega, by omega, by rw [List.length_append, hxl]; simp; omega, Lib.hid Hst.out.symm, ho1, hb1⟩, by simp [intOf]; omega⟩
    · obtain rfl : k = s.size := by omega
      have hX2 := hX.out
      rw [Z.take_all] at hX2
      have ht := own_string (P := Tryd.prog) Tryd.underlying70 Tryd.underlying5 Tryd.underlying9 ho
      have hq : strOfNums xs = repS 43 32 s := by rw [hX2]; rfl
      rw [hq] at ht
      have hd := fun W => Z.rdecode_any (repS 43 32 s) W (by rw [repS_size]; omega)
      have hf : Z.decS (repS 43 32 s) = fdecS s := rfl
      unfold Z.RDecSuch at hd
      rw [hf] at hd
      generalize repS 43 32 s = q at *
      have Hd := Lib.hid hd
      clear hd hX hX2 hq hf ho
      go_wp2_with (go_at_call 42; (with_reducible refine (Hd.out _).mono ?_); rintro e w2 ⟨v2, rfl, ho2, hb2⟩)
      go_ret
      exact ⟨rfl, below_after hbel hb2⟩
end Go.Proofs.YtfbgmlophkbejaaDoor
