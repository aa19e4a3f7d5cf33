/- OctetNamed: the walk of the statement. -/
import Derived.Test.YtjiapggmiddpdaaOctQ
import Derived.Test.YtjiapggmiddpdaaOctR
import Derived.Test.YtjiapggmiddpdaaLFinds
set_option linter.unusedVariables false
set_option linter.unusedSimpArgs false
namespace Go.Proofs.Ytjiapggmiddpdaa
open Go.RowKit Go.Proofs.YtjiapggmiddpdaaW.PrintWords Go.Proofs.YtjiapggmiddpdaaW.PrintLast
theorem nW_four (n : Int) : ∃ x0 x1 x2 x3, nW n = [x0, x1, x2, x3] ∧ Wf4 x0 x1 x2 x3 := by
  unfold nW
  repeat' split
  · exact ⟨_, _, _, _, rfl, wf_control⟩
  · exact ⟨_, _, _, _, rfl, wf_frag⟩
  · exact ⟨_, _, _, _, rfl, wf_query⟩
  · exact ⟨_, _, _, _, rfl, wf_squery⟩
  · exact ⟨_, _, _, _, rfl, wf_path⟩
  · exact ⟨_, _, _, _, rfl, wf_user⟩
  · exact ⟨_, _, _, _, rfl, wf_comp⟩
  · exact ⟨_, _, _, _, rfl, wf_form⟩
  · exact ⟨_, _, _, _, rfl, wf_host⟩
  · exact ⟨_, _, _, _, rfl, wf_dom⟩
  · exact ⟨_, _, _, _, rfl, wf_zero⟩
theorem named_is {n x0 x1 x2 x3 : Int} (h : nW n = [x0, x1, x2, x3]) (w : World) : Calls Try.prog 32 #[.int .i64 n] w fun e w' => e = .returned (.tuple #[set4 x0 x1 x2 x3, .int .i64 (nE n)]) ∧ Below w.heap.size w w' := by
  have := named_any n w
  rw [h] at this
  exact this
theorem rnamed_is {n : Int} {x : List Int} (h : nW n = x) (w : World) : Calls Try.prog 33 #[.int .i64 n] w fun e w' => e = .returned (.tuple #[.agg (nums .u8 (bl x)).toArray, .int .i64 (nE n)]) ∧ Below w.heap.size w w' := by
  have := rnamed_any n w
  rw [h] at this
  exact this
theorem bl_one (x : List Int) (b : Int) (h0 : 0 ≤ b) (h1 : b < 256) : (rd (bl x) b == 1) = inSet x b := by
  rw [bl_at x b h0 h1]
  cases inSet x b <;> rfl
theorem rwords_bl {x0 x1 x2 x3 : Int} (hx : Wf4 x0 x1 x2 x3) (w : World) : Calls Try.prog 31 #[.agg (nums .u8 (bl [x0, x1, x2, x3])).toArray] w fun e w' => e = .returned (set4 x0 x1 x2 x3) ∧ Below w.heap.size w w' :=
  (rwords_any _ w (bl_len _)).mono fun _ _ h => such_is hx (fun b h0 h1 => bl_one _ b h0 h1) h
theorem equal4_same4 (x0 x1 x2 x3 : Int) (w : World) : (Op.equalIn 10000 23 (set4 x0 x1 x2 x3) (set4 x0 x1 x2 x3)).run Try.prog w = .ok true w := by
  obtain ⟨i, hi, hz⟩ := Option.map_eq_some_iff.1 info_u64
  have r4 : List.range 4 = [0, 1, 2, 3] := rfl
  have q0 : (part 22 #[Value.int .u64 x0, .int .u64 x1, .int .u64 x2, .int .u64 x3] 0).run Try.prog w = .ok (.int .u64 x0) w := by kernel_rfl
  have q1 : (part 22 #[Value.int .u64 x0, .int .u64 x1, .int .u64 x2, .int .u64 x3] 1).run Try.prog w = .ok (.int .u64 x1) w := by kernel_rfl
  have q2 : (part 22 #[Value.int .u64 x0, .int .u64 x1, .int .u64 x2, .int .u64 x3] 2).run Try.prog w = .ok (.int .u64 x2) w := by kernel_rfl
  have q3 : (part 22 #[Value.int .u64 x0, .int .u64 x1, .int .u64 x2, .int .u64 x3] 3).run Try.prog w = .ok (.int .u64 x3) w := by kernel_rfl
  have hq := eq_u64 9998 w
  rw [show (10000 : Nat) = 9999 + 1 from rfl, run_equalIn_array (w := w) 9999 _ _ Try.underlying23 hi, cells_u64, r4]
  simp only [Nat.reduceAdd] at hq
  simp [Op.eqItems, Sem.run_bind, Result.andThen_ok, q0, q1, q2, q3, hq]
/-- a named set that lies in the next one shares nothing with what is not in it -/
theorem sub_next (k : Int) (h0 : 3 ≤ k) (h1 : k < 8) (h4 : ¬ k = 4) : ∃ x0 x1 x2 x3 y0 y1 y2 y3, nW k = [x0, x1, x2, x3] ∧ nW (k + 1) = [y0, y1, y2, y3] ∧ bits .andNot .u64 x0 y0 = 0 ∧ bits .andNot .u64 x1 y1 = 0 ∧ bits .andNot .u64 x2 y2 = 0 ∧ bits .andNot .u64 x3 y3 = 0 := by
  have hk : k = 3 ∨ k = 5 ∨ k = 6 ∨ k = 7 := by omega
  rcases hk with rfl | rfl | rfl | rfl <;> exact ⟨_, _, _, _, _, _, _, _, rfl, rfl, by kernel_rfl, by kernel_rfl, by kernel_rfl, by kernel_rfl⟩
theorem sub_four : ∃ x0 x1 x2 x3 y0 y1 y2 y3 z0 z1 z2 z3, nW 3 = [x0, x1, x2, x3] ∧ nW 5 = [y0, y1, y2, y3] ∧ nW 4 = [z0, z1, z2, z3] ∧ bits .andNot .u64 x0 y0 = 0 ∧ bits .andNot .u64 x1 y1 = 0 ∧ bits .andNot .u64 x2 y2 = 0 ∧ bits .andNot .u64 x3 y3 = 0 :=
  ⟨_, _, _, _, _, _, _, _, _, _, _, _, rfl, rfl, rfl, by kernel_rfl, by kernel_rfl, by kernel_rfl, by kernel_rfl⟩
theorem minus_zero {x0 x1 x2 x3 y0 y1 y2 y3 : Int} (h : bits .andNot .u64 x0 y0 = 0 ∧ bits .andNot .u64 x1 y1 = 0 ∧ bits .andNot .u64 x2 y2 = 0 ∧ bits .andNot .u64 x3 y3 = 0) (w : World) :
    Calls Try.prog 25 #[set4 x0 x1 x2 x3, set4 y0 y1 y2 y3] w fun e w' => e = .returned (set4 0 0 0 0) ∧ Below w.heap.size w w' := by
  have := Minus_any x0 x1 x2 x3 y0 y1 y2 y3 w
  rw [h.1, h.2.1, h.2.2.1, h.2.2.2] at this
  exact this
set_option maxRecDepth 100000 in
set_option maxHeartbeats 20000000 in
theorem octetNamed_any (n : Int) (s : ByteArray) (w : World) (hs : s.size ≤ 140737488351232) :
    Calls Try.prog 7 #[.int .i64 n, .string s] w fun e w' => e = .returned (.bool true) ∧ Below w.heap.size w w' := by
  obtain ⟨x0, x1, x2, x3, hx, hwf⟩ := nW_four n
  have Hx := Lib.hid hx
  clear hx
  have hz := zero_S
  go_enter Try.func7, Try.ntmps7
  go_upto_region 2 with (first
    | (go_at_call 32; with_reducible refine (named_is Hx.out _).mono ?_; rintro e w1 ⟨rfl, hb1⟩)
    | (refine wp_store_blk rfl 24 _ _ rfl rfl w1.heap.size (arr4 x0 x1 x2 x3) rfl rfl 24 _ (Blk.new _ _ _) 4 size_B rfl rfl (nums_one .u64 [x0, x1, x2, x3]) ?_; intro wS b5 kS))
  have hbel := below_grown (below_alloc hb1 _) kS hb1.size
  generalize w1.heap.size = P5 at *
  clear kS hb1
  go_upto_region 3 with (first
    | (go_at_call 33; with_reducible refine (rnamed_is Hx.out _).mono ?_; rintro e w2 ⟨rfl, hb2⟩)
    | (refine wp_store_blk rfl 26 _ _ rfl rfl w2.heap.size (nums .u8 (bl [x0, x1, x2, x3])).toArray rfl rfl 26 _ (Blk.new _ _ _) 256 size_S (by rw [nums_size, bl_len]) rfl (nums_one _ _) ?_; intro wT b7 kT))
  have m5 := (b5.after hb2).lt
  have m0 := hbel.size
  have m1 := hb2.size
  replace b5 := ((b5.after hb2).alloc _).grown kT (by simp; omega)
  replace hbel := below_grown (below_alloc (below_after hbel hb2) _) kT (by omega)
  clear kT hb2 m5 m0 m1 hz
  generalize w2.heap.size = P7 at *
  have he4 := equal4_same4
  have hst : ∀ w1 w2 : World, (Below w.heap.size w w1 ∧ Blk w1 P5 24 (arr4 x0 x1 x2 x3) ∧ Blk w1 P7 26 (nums .u8 (bl [x0, x1, x2, x3])).toArray) → Below w1.heap.size w1 w2 → (Below w.heap.size w w2 ∧ Blk w2 P5 24 (arr4 x0 x1 x2 x3) ∧ Blk w2 P7 26 (nums .u8 (bl [x0, x1, x2, x3])).toArray) := fun _ _ ⟨h1, h2, h3⟩ h => ⟨below_after h1 h, h2.after h, h3.after h⟩
  refine start_ (n := 13) (S := (fun w' => Below w.heap.size w w' ∧ Blk w' P5 24 (arr4 x0 x1 x2 x3) ∧ Blk w' P7 26 (nums .u8 (bl [x0, x1, x2, x3])).toArray)) (ds := []) #[false, false, false, false, false, false, false, false, false, false, false, false, false] (by kernel_rfl) rfl rfl ⟨hbel.drew, b5.drew, b7.drew⟩ (fun hHeld => ?_)
  refine one_ (i := 0) (N := some 24) #[true, false, false, false, false, false, false, false, false, false, false, false, false] rfl rfl (by kernel_rfl) (by decide) (fun K hK => ?_)
  refine goes_ Try.func11 (by kernel_rfl) rfl #[] (by rfl) rfl rfl (by first | rfl | (simp only [List.map_toArray, List.map_cons, List.map_nil]; done) | (simp only [List.map_toArray, List.map_cons, List.map_nil]; rfl)) ?_
  refine (awake_any _).mono ?_
  rintro _ _ ⟨rfl, rfl⟩
  refine ⟨_, rfl, ?_⟩
  refine hK.out _ _ (hHeld) (fun hHeld => ?_)
  clear hK K
  refine norm_ (a' := ?_) ?_ ?_
  rotate_left
  · show Act.put _ (some 24) _ = _
    simp only [Act.put, List.setIfInBounds_toArray, List.set_cons_zero, List.set_cons_succ, i64_w, i32_w]
    rfl
  refine pure_ (i := 1) (N := some 25) (v := ?_) (a' := ?_) #[true, true, false, false, false, false, false, false, false, false, false, false, false] rfl rfl (by kernel_rfl) (fun _ _ _ h => h) (Or.inl ⟨by rfl, ?_⟩) ?_ ?_
  rotate_left
  · intro w'
    go_simp
    with_reducible rfl
  rotate_left
  · simp only [Act.put, List.setIfInBounds_toArray, List.set_cons_zero, List.set_cons_succ, i64_w, i32_w]
    rfl
  refine pure_ (i := 2) (N := some 26) (v := ?_) (a' := ?_) #[true, true, true, false, false, false, false, false, false, false, false, false, false] rfl rfl (by kernel_rfl) (fun _ _ _ h => h) (Or.inl ⟨by rfl, ?_⟩) ?_ ?_
  rotate_left
  · intro w'
    go_simp
    with_reducible rfl
  rotate_left
  · simp only [Act.put, List.setIfInBounds_toArray, List.set_cons_zero, List.set_cons_succ, i64_w, i32_w]
    rfl
  refine take_ (i := 3) (N := some 27) (v := ?_) (a' := ?_) #[true, true, true, true, false, false, false, false, false, false, false, false, false] rfl rfl (by kernel_rfl) (fun _ _ _ h => h) (Or.inl ⟨by rfl, ?_⟩) hHeld ?_ ?_
  rotate_left
  · rintro w' ⟨s1, s2, s3⟩
    refine exec_load_blk 24 (.tmp 5) ?_ P5 ?_ 24 s2 _ Try.underlying24 rfl 4 size_B rfl
    · rfl
    · rfl
  rotate_left
  · simp only [Act.put, List.setIfInBounds_toArray, List.set_cons_zero, List.set_cons_succ, i64_w, i32_w]
    rfl
  refine take_ (i := 4) (N := some 28) (v := ?_) (a' := ?_) #[true, true, true, true, true, false, false, false, false, false, false, false, false] rfl rfl (by kernel_rfl) (fun _ _ _ h => h) (Or.inl ⟨by rfl, ?_⟩) hHeld ?_ ?_
  rotate_left
  · rintro w' ⟨s1, s2, s3⟩
    refine exec_load_blk 26 (.tmp 7) ?_ P7 ?_ 26 s3 _ Try.underlying26 rfl 256 size_S (by rw [nums_size, bl_len])
    · rfl
    · rfl
  rotate_left
  · simp only [Act.put, List.setIfInBounds_toArray, List.set_cons_zero, List.set_cons_succ, i64_w, i32_w]
    rfl
  refine one_ (i := 5) (N := some 29) #[true, true, true, true, true, true, false, false, false, false, false, false, false] rfl rfl (by kernel_rfl) (by decide) (fun K hK => ?_)
  refine goes_ Try.func31 (by kernel_rfl) rfl #[.agg (nums .u8 (bl [x0, x1, x2, x3])).toArray] (by rfl) rfl rfl (by first | rfl | (simp only [List.map_toArray, List.map_cons, List.map_nil]; done) | (simp only [List.map_toArray, List.map_cons, List.map_nil]; rfl)) ?_
  refine (rwords_bl hwf _).mono ?_
  rintro _ wq ⟨rfl, hbc⟩
  refine ⟨_, rfl, ?_⟩
  refine hK.out _ _ (hst _ _ hHeld hbc) (fun hHeld => ?_)
  clear hK K
  refine norm_ (a' := ?_) ?_ ?_
  rotate_left
  · show Act.put _ (some 29) _ = _
    simp only [Act.put, List.setIfInBounds_toArray, List.set_cons_zero, List.set_cons_succ, i64_w, i32_w]
    rfl
  refine pure_ (i := 6) (N := some 30) (v := ?_) (a' := ?_) #[true, true, true, true, true, true, true, false, false, false, false, false, false] rfl rfl (by kernel_rfl) (fun _ _ _ h => h) (Or.inl ⟨by rfl, ?_⟩) ?_ ?_
  rotate_left
  · intro w'
    go_simp
    with_reducible rfl
  rotate_left
  · simp only [Act.put, List.setIfInBounds_toArray, List.set_cons_zero, List.set_cons_succ, i64_w, i32_w]
    rfl
  refine pure_ (i := 7) (N := some 31) (v := ?_) (a' := ?_) #[true, true, true, true, true, true, true, true, false, false, false, false, false] rfl rfl (by kernel_rfl) (fun _ _ _ h => h) (Or.inl ⟨by rfl, ?_⟩) ?_ ?_
  rotate_left
  · intro w'
    go_simp
    with_reducible rfl
  rotate_left
  · simp only [Act.put, List.setIfInBounds_toArray, List.set_cons_zero, List.set_cons_succ, i64_w, i32_w]
    rfl
  refine pure_ (i := 8) (N := some 32) (v := ?_) (a' := ?_) #[true, true, true, true, true, true, true, true, true, false, false, false, false] rfl rfl (by kernel_rfl) (fun _ _ _ h => h) (Or.inl ⟨by rfl, ?_⟩) ?_ ?_
  rotate_left
  · intro w'
    go_simp
    with_reducible rfl
  rotate_left
  · simp only [Act.put, List.setIfInBounds_toArray, List.set_cons_zero, List.set_cons_succ, i64_w, i32_w]
    rfl
  refine pure_ (i := 9) (N := some 33) (v := ?_) (a' := ?_) #[true, true, true, true, true, true, true, true, true, true, false, false, false] rfl rfl (by kernel_rfl) (fun _ _ _ h => h) (Or.inl ⟨by rfl, ?_⟩) ?_ ?_
  rotate_left
  · intro w'
    go_simp
    with_reducible rfl
  rotate_left
  · simp only [Act.put, List.setIfInBounds_toArray, List.set_cons_zero, List.set_cons_succ, i64_w, i32_w]
    rfl
  refine pure_ (i := 10) (N := some 34) (v := ?_) (a' := ?_) #[true, true, true, true, true, true, true, true, true, true, true, false, false] rfl rfl (by kernel_rfl) (fun _ _ _ h => h) (Or.inl ⟨by rfl, ?_⟩) ?_ ?_
  rotate_left
  · intro w'
    go_simp
    with_reducible rfl
  rotate_left
  · simp only [Act.put, List.setIfInBounds_toArray, List.set_cons_zero, List.set_cons_succ, i64_w, i32_w]
    rfl
  refine pure_ (i := 11) (N := some 35) (v := ?_) (a' := ?_) #[true, true, true, true, true, true, true, true, true, true, true, true, false] rfl rfl (by kernel_rfl) (fun _ _ _ h => h) (Or.inl ⟨by rfl, ?_⟩) ?_ ?_
  rotate_left
  · intro w'
    go_simp
    with_reducible rfl
  rotate_left
  · simp only [Act.put, List.setIfInBounds_toArray, List.set_cons_zero, List.set_cons_succ, i64_w, i32_w]
    rfl
  refine pure_ (i := 12) (N := some 36) (v := ?_) (a' := ?_) #[true, true, true, true, true, true, true, true, true, true, true, true, true] rfl rfl (by kernel_rfl) (fun _ _ _ h => h) (Or.inl ⟨by rfl, ?_⟩) ?_ ?_
  rotate_left
  · intro w'
    go_simp
    with_reducible rfl
  rotate_left
  · simp only [Act.put, List.setIfInBounds_toArray, List.set_cons_zero, List.set_cons_succ, i64_w, i32_w]
    rfl
  refine done_ (by kernel_rfl) ?_
  obtain ⟨hbel, b5, b7⟩ := hHeld
  clear he4
  have he4 := equal4_same
  go_upto_region 6 with (fail)
  go_loopw [9] (fun v wr => ∃ (k : Int), v = .int .i64 k ∧ 3 ≤ k ∧ k ≤ 8 ∧ Below w.heap.size w wr ∧ Blk wr P5 24 (arr4 x0 x1 x2 x3) ∧ Blk wr P7 26 (nums .u8 (bl [x0, x1, x2, x3])).toArray) (fun v _ => 8 - (intOf v).toNat)
  case atStart => exact ⟨3, rfl, by omega, by omega, hbel, b5, b7⟩
  case round =>
    clear hbel b5 b7
    obtain ⟨k, rfl, hk0, hk1, hbel, b5, b7⟩ := hrel
    by_cases hlt : k < 8
    · by_cases h4 : k = 4
      · subst h4
        obtain ⟨u0, u1, u2, u3, y0, y1, y2, y3, v0, v1, v2, v3, hu, hy, hv, hm⟩ := sub_four
        have Hu := Lib.hid hu
        have Hy := Lib.hid hy
        have Hv := Lib.hid hv
        have Hm := Lib.hid hm
        clear hu hy hv hm
        go_upto_region 9 with (first
          | (go_at_call 32; with_reducible refine (named_is Hv.out _).mono ?_; rintro e w1 ⟨rfl, hb1⟩)
          | (refine wp_store_blk rfl 24 _ _ rfl rfl w1.heap.size (arr4 v0 v1 v2 v3) rfl rfl 24 _ (Blk.new _ _ _) 4 size_B rfl rfl (nums_one .u64 [v0, v1, v2, v3]) ?_; intro wS b10 kS))
        have m5 := (b5.after hb1).lt
        have m7 := (b7.after hb1).lt
        have m1 := hb1.size
        have m0 := hbel.size
        replace b5 := ((b5.after hb1).alloc _).grown kS (by simp; omega)
        replace b7 := ((b7.after hb1).alloc _).grown kS (by simp; omega)
        replace hbel := below_grown (below_alloc (below_after hbel hb1) _) kS (by omega)
        have n5 : P5 ≠ w1.heap.size := by omega
        have n7 : P7 ≠ w1.heap.size := by omega
        have n0 : w.heap.size ≤ w1.heap.size := by omega
        clear kS hb1 m5 m7 m1 m0
        generalize w1.heap.size = P10 at *
        go_upto_region 11 with (first
          | (go_at_call 32; with_reducible refine (named_is Hy.out _).mono ?_; rintro e w2 ⟨rfl, hb2⟩)
          | (refine wp_store_blk rfl 24 _ _ rfl rfl w2.heap.size (arr4 y0 y1 y2 y3) rfl rfl 24 _ (Blk.new _ _ _) 4 size_B rfl rfl (nums_one .u64 [y0, y1, y2, y3]) ?_; intro wT b12 kT))
        have m5 := (b5.after hb2).lt
        have m7 := (b7.after hb2).lt
        have m10 := (b10.after hb2).lt
        have m1 := hb2.size
        have m0 := hbel.size
        replace b5 := ((b5.after hb2).alloc _).grown kT (by simp; omega)
        replace b7 := ((b7.after hb2).alloc _).grown kT (by simp; omega)
        replace b10 := ((b10.after hb2).alloc _).grown kT (by simp; omega)
        replace hbel := below_grown (below_alloc (below_after hbel hb2) _) kT (by omega)
        have n12 : P10 ≠ w2.heap.size := by omega
        clear kT hb2 m5 m7 m1 m0 m10
        generalize w2.heap.size = P12 at *
        go_upto_region 12 with (first
          | (go_at_call 32; with_reducible refine (named_is Hu.out _).mono ?_; rintro e w3 ⟨rfl, hb3⟩; replace b10 := b10.after hb3)
          | (refine wp_store_blk rfl 24 _ _ rfl rfl P10 (arr4 u0 u1 u2 u3) rfl rfl 24 _ b10 4 size_B rfl rfl (nums_one .u64 [u0, u1, u2, u3]) ?_; intro wU b10 kU))
        replace b5 := (b5.after hb3).grown kU (by simp; omega)
        replace b7 := (b7.after hb3).grown kU (by simp; omega)
        replace b12 := (b12.after hb3).grown kU (by simp; omega)
        replace hbel := below_grown (below_after hbel hb3) kU (by omega)
        clear kU hb3
        go_wp2_with (first
          | (refine wp_load_blk rfl 24 _ rfl P10 rfl 24 _ b10 _ Try.underlying24 rfl 4 size_B rfl ?_)
          | (refine wp_load_blk rfl 24 _ rfl P12 rfl 24 _ b12 _ Try.underlying24 rfl 4 size_B rfl ?_)
          | (go_at_call 25; with_reducible refine (minus_zero Hm.out _).mono ?_; rintro e w4 ⟨rfl, hb4⟩))
        exact ⟨⟨4 + 1, rfl, by omega, by omega, below_after hbel hb4, b5.after hb4, b7.after hb4⟩, by simp [intOf]⟩
      · obtain ⟨u0, u1, u2, u3, y0, y1, y2, y3, hu, hy, hm⟩ := sub_next k hk0 hlt h4
        have Hu := Lib.hid hu
        have Hy := Lib.hid hy
        have Hm := Lib.hid hm
        clear hu hy hm
        go_upto_region 9 with (first
          | (go_at_call 32; with_reducible refine (named_is Hu.out _).mono ?_; rintro e w1 ⟨rfl, hb1⟩)
          | (refine wp_store_blk rfl 24 _ _ rfl rfl w1.heap.size (arr4 u0 u1 u2 u3) rfl rfl 24 _ (Blk.new _ _ _) 4 size_B rfl rfl (nums_one .u64 [u0, u1, u2, u3]) ?_; intro wS b10 kS))
        have m5 := (b5.after hb1).lt
        have m7 := (b7.after hb1).lt
        have m1 := hb1.size
        have m0 := hbel.size
        replace b5 := ((b5.after hb1).alloc _).grown kS (by simp; omega)
        replace b7 := ((b7.after hb1).alloc _).grown kS (by simp; omega)
        replace hbel := below_grown (below_alloc (below_after hbel hb1) _) kS (by omega)
        clear kS hb1 m5 m7 m1 m0
        generalize w1.heap.size = P10 at *
        go_upto_region 10 with (first
          | (go_at_call 32; with_reducible refine (named_is Hy.out _).mono ?_; rintro e w2 ⟨rfl, hb2⟩)
          | (refine wp_store_blk rfl 24 _ _ rfl rfl w2.heap.size (arr4 y0 y1 y2 y3) rfl rfl 24 _ (Blk.new _ _ _) 4 size_B rfl rfl (nums_one .u64 [y0, y1, y2, y3]) ?_; intro wT b12 kT))
        have m5 := (b5.after hb2).lt
        have m7 := (b7.after hb2).lt
        have m10 := (b10.after hb2).lt
        have m1 := hb2.size
        have m0 := hbel.size
        replace b5 := ((b5.after hb2).alloc _).grown kT (by simp; omega)
        replace b7 := ((b7.after hb2).alloc _).grown kT (by simp; omega)
        replace b10 := ((b10.after hb2).alloc _).grown kT (by simp; omega)
        replace hbel := below_grown (below_alloc (below_after hbel hb2) _) kT (by omega)
        clear kT hb2 m5 m7 m1 m0 m10
        generalize w2.heap.size = P12 at *
        go_wp2_with (first
          | (refine wp_load_blk rfl 24 _ rfl P10 rfl 24 _ b10 _ Try.underlying24 rfl 4 size_B rfl ?_)
          | (refine wp_load_blk rfl 24 _ rfl P12 rfl 24 _ b12 _ Try.underlying24 rfl 4 size_B rfl ?_)
          | (go_at_call 25; with_reducible refine (minus_zero Hm.out _).mono ?_; rintro e w4 ⟨rfl, hb4⟩))
        exact ⟨⟨k + 1, rfl, by omega, by omega, below_after hbel hb4, b5.after hb4, b7.after hb4⟩, by simp [intOf]; omega⟩
    · obtain rfl : k = 8 := by omega
      clear he4
      go_upto_region 14 with (fail)
      have hst : ∀ w1 w2 : World, (Below w.heap.size w w1 ∧ Blk w1 P5 24 (arr4 x0 x1 x2 x3) ∧ Blk w1 P7 26 (nums .u8 (bl [x0, x1, x2, x3])).toArray) → Below w1.heap.size w1 w2 → (Below w.heap.size w w2 ∧ Blk w2 P5 24 (arr4 x0 x1 x2 x3) ∧ Blk w2 P7 26 (nums .u8 (bl [x0, x1, x2, x3])).toArray) := fun _ _ ⟨h1, h2, h3⟩ h => ⟨below_after h1 h, h2.after h, h3.after h⟩
      refine start_ (n := 8) (S := (fun w' => Below w.heap.size w w' ∧ Blk w' P5 24 (arr4 x0 x1 x2 x3) ∧ Blk w' P7 26 (nums .u8 (bl [x0, x1, x2, x3])).toArray)) (ds := []) #[false, false, false, false, false, false, false, false] (by kernel_rfl) rfl rfl ⟨hbel.drew, b5.drew, b7.drew⟩ (fun hHeld => ?_)
      refine pure_ (i := 0) (N := some 63) (v := ?_) (a' := ?_) #[true, false, false, false, false, false, false, false] rfl rfl (by kernel_rfl) (fun _ _ _ h => h) (Or.inl ⟨by rfl, ?_⟩) ?_ ?_
      rotate_left
      · intro w'
        go_simp
        with_reducible rfl
      rotate_left
      · simp only [Act.put, List.setIfInBounds_toArray, List.set_cons_zero, List.set_cons_succ, i64_w, i32_w]
        rfl
      refine pure_ (i := 3) (N := some 66) (v := ?_) (a' := ?_) #[true, false, false, true, false, false, false, false] rfl rfl (by kernel_rfl) (fun _ _ _ h => h) (Or.inl ⟨by rfl, ?_⟩) ?_ ?_
      rotate_left
      · intro w'
        go_simp
        with_reducible rfl
      rotate_left
      · simp only [Act.put, List.setIfInBounds_toArray, List.set_cons_zero, List.set_cons_succ, i64_w, i32_w]
        rfl
      refine take_ (i := 1) (N := some 64) (v := ?_) (a' := ?_) #[true, true, false, true, false, false, false, false] rfl rfl (by kernel_rfl) (fun _ _ _ h => h) (Or.inl ⟨by rfl, ?_⟩) hHeld ?_ ?_
      rotate_left
      · rintro w' ⟨s1, s2, s3⟩
        refine exec_load_blk 24 (.tmp 5) ?_ P5 ?_ 24 s2 _ Try.underlying24 rfl 4 size_B rfl
        · rfl
        · rfl
      rotate_left
      · simp only [Act.put, List.setIfInBounds_toArray, List.set_cons_zero, List.set_cons_succ, i64_w, i32_w]
        rfl
      refine take_ (i := 4) (N := some 67) (v := ?_) (a' := ?_) #[true, true, false, true, true, false, false, false] rfl rfl (by kernel_rfl) (fun _ _ _ h => h) (Or.inl ⟨by rfl, ?_⟩) hHeld ?_ ?_
      rotate_left
      · rintro w' ⟨s1, s2, s3⟩
        refine exec_load_blk 26 (.tmp 7) ?_ P7 ?_ 26 s3 _ Try.underlying26 rfl 256 size_S (by rw [nums_size, bl_len])
        · rfl
        · rfl
      rotate_left
      · simp only [Act.put, List.setIfInBounds_toArray, List.set_cons_zero, List.set_cons_succ, i64_w, i32_w]
        rfl
      refine one_ (i := 2) (N := some 65) #[true, true, true, true, true, false, false, false] rfl rfl (by kernel_rfl) (by decide) (fun K hK => ?_)
      refine goes_ Try.func12 (by kernel_rfl) rfl #[.string s, set4 x0 x1 x2 x3, .int .i64 0] (by rfl) rfl rfl (by first | rfl | (simp only [List.map_toArray, List.map_cons, List.map_nil]; done) | (simp only [List.map_toArray, List.map_cons, List.map_nil]; rfl)) ?_
      refine (find_any s x0 x1 x2 x3 0 _ (by omega) (by omega)).mono ?_
      rintro _ wf ⟨r, hr, rfl, hbc⟩
      refine ⟨_, rfl, ?_⟩
      refine hK.out _ _ (hst _ _ hHeld hbc) (fun hHeld => ?_)
      clear hK K
      refine norm_ (a' := ?_) ?_ ?_
      rotate_left
      · show Act.put _ (some 65) _ = _
        simp only [Act.put, List.setIfInBounds_toArray, List.set_cons_zero, List.set_cons_succ, i64_w, i32_w]
        rfl
      refine one_ (i := 5) (N := some 68) #[true, true, true, true, true, true, false, false] rfl rfl (by kernel_rfl) (by decide) (fun K hK => ?_)
      refine goes_ Try.func13 (by kernel_rfl) rfl #[.string s, .agg (nums .u8 (bl [x0, x1, x2, x3])).toArray, .int .i64 0] (by rfl) rfl rfl (by first | rfl | (simp only [List.map_toArray, List.map_cons, List.map_nil]; done) | (simp only [List.map_toArray, List.map_cons, List.map_nil]; rfl)) ?_
      refine (rfind_any s (bl [x0, x1, x2, x3]) 0 _ (by omega) (bl_len _)).mono ?_
      rintro _ wg ⟨r', hr', rfl, hbc⟩
      refine ⟨_, rfl, ?_⟩
      have hrr : (r == r') = true := beq_iff_eq.2 (FirstAt.unique (fun j h0 h1 => (bl_one _ _ (byte_range_bt s j).1 (byte_range_bt s j).2).symm) hr hr')
      refine hK.out _ _ (hst _ _ hHeld hbc) (fun hHeld => ?_)
      clear hK K
      refine norm_ (a' := ?_) ?_ ?_
      rotate_left
      · show Act.put _ (some 68) _ = _
        simp only [Act.put, List.setIfInBounds_toArray, List.set_cons_zero, List.set_cons_succ, i64_w, i32_w]
        rfl
      refine pure_ (i := 6) (N := some 69) (v := ?_) (a' := ?_) #[true, true, true, true, true, true, true, false] rfl rfl (by kernel_rfl) (fun _ _ _ h => h) (Or.inl ⟨by rfl, ?_⟩) ?_ ?_
      rotate_left
      · intro w'
        go_simp
        with_reducible rfl
      rotate_left
      · simp only [Act.put, List.setIfInBounds_toArray, List.set_cons_zero, List.set_cons_succ, i64_w, i32_w]
        rfl
      refine pure_ (i := 7) (N := some 4) (v := ?_) (a' := ?_) #[true, true, true, true, true, true, true, true] rfl rfl (by kernel_rfl) (fun _ _ _ h => h) (Or.inl ⟨by rfl, ?_⟩) ?_ ?_
      rotate_left
      · intro w'
        go_simp
        with_reducible rfl
      rotate_left
      · simp only [Act.put, List.setIfInBounds_toArray, List.set_cons_zero, List.set_cons_succ, i64_w, i32_w]
        rfl
      refine done_ (by kernel_rfl) ?_
      go_wp2
      go_ret
      exact ⟨rfl, hHeld.1⟩
end Go.Proofs.Ytjiapggmiddpdaa
