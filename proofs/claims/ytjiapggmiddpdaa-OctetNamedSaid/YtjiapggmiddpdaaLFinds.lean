/- OctetFinds: the walk of the statement. -/
import Derived.Test.YtjiapggmiddpdaaOctS
import Derived.Test.YtjiapggmiddpdaaOctC
set_option linter.unusedVariables false
set_option linter.unusedSimpArgs false
namespace Go.Proofs.Ytjiapggmiddpdaa
open Go.RowKit Go.Proofs.YtjiapggmiddpdaaW.PrintWords Go.Proofs.YtjiapggmiddpdaaW.PrintLast
theorem byte_range_bt (s : ByteArray) (k : Int) : 0 ≤ bt s k ∧ bt s k < 256 := by have := bt_range s k; omega
theorem unw_in {x0 x1 x2 x3 : Int} {m : List Int} (h : IsUnw x0 x1 x2 x3 m) (c : Int) (h0 : 0 ≤ c) (h1 : c < 256) : (rd m c == 1) = inSet [x0, x1, x2, x3] c := by
  rw [h.2 c h0 h1]; rfl
theorem AllIn.fail {p : Int → Bool} {k : Int} (h : AllIn p k false) : AllIn p (k + 1) false :=
  ⟨fun h => (Bool.false_ne_true h).elim, fun g => h.2 fun j h0 h1 => g j h0 (by omega)⟩
theorem AllIn.step {p : Int → Bool} {k : Int} (hk : 0 ≤ k) (h : AllIn p k true) : AllIn p (k + 1) (p k) :=
  ⟨fun hp j h0 h1 => by
    by_cases e : j = k
    · subst e; exact hp
    · exact h.1 rfl j h0 (by omega), fun g => g k hk (by omega)⟩
set_option maxRecDepth 100000 in
set_option maxHeartbeats 4000000 in
theorem octetFinds_any (s : ByteArray) (x0 x1 x2 x3 fr : Int) (w : World) (hs : s.size ≤ 140737488351232) (hf : fr ≤ 9223372036854775807) :
    Calls Try.prog 3 #[.string s, set4 x0 x1 x2 x3, .int .i64 fr] w fun e w' => e = .returned (.bool true) ∧ Below w.heap.size w w' := by
  have hz := zero_S
  go_enter Try.func3, Try.ntmps3
  go_wp2_with (first
    | (go_at_call 10; refine (unwords_any _ _ _ _ _).mono ?_; rintro e w1 ⟨m, hm, rfl, hb1⟩)
    | (refine wp_store_blk rfl 26 _ _ rfl rfl w1.heap.size _ rfl rfl 26 _ (Blk.new _ _ _) 256 size_S (by rw [nums_size]; exact hm.1) rfl (nums_one _ _) ?_; intro w2 hb2 hg2))
  have b4 : Blk w2 w.heap.size 24 (arr4 x0 x1 x2 x3) := (((Blk.new _ _ _).after hb1).alloc _).grown hg2 (by have := hb1.size; simp at this; simp; omega)
  have hbel : Below w.heap.size w w2 := below_grown (below_alloc (below_after (below_one _ _) hb1) _) hg2 (by have := hb1.size; simp at this; omega)
  have hne : w.heap.size < w1.heap.size := by have := hb1.size; simp at this; omega
  generalize w1.heap.size = g at *
  clear hg2 hb1 hz
  go_loopw [8, 9] (fun u v wr => ∃ (k : Int) (b : Bool), u = .bool b ∧ v = .int .i64 k ∧ 0 ≤ k ∧ k ≤ s.size ∧ AllIn (fun i => rd m (bt s i) == 1) k b ∧ wr = w2) (fun _ v _ => s.size - (intOf v).toNat)
  case atStart => exact ⟨0, true, rfl, rfl, by omega, by omega, AllIn.yes (k := 0) (by omega) (fun j h0 h1 => by omega), rfl⟩
  case round =>
    obtain ⟨k, b, rfl, rfl, hk0, hk1, hall, rfl⟩ := hrel
    by_cases hlt : k < s.size
    · have hbt := bt_at s k
      have hbr := bt_range s k
      have c0 := blk_num_at hb2 (bt s k) hbr.1 (by rw [hm.1]; omega)
      cases b
      · go_wp2
        exact ⟨⟨k + 1, false, rfl, rfl, by omega, by omega, AllIn.fail hall, trivial⟩, by simp [intOf]; omega⟩
      · go_wp2
        exact ⟨⟨k + 1, _, rfl, rfl, by omega, by omega, AllIn.step hk0 hall, trivial⟩, by simp [intOf]; omega⟩
    · go_upto_region 7 with (fail)
      obtain rfl : k = s.size := by omega
      have hst : ∀ w1 w2 : World, (Blk w1 w.heap.size 24 (arr4 x0 x1 x2 x3) ∧ Blk w1 g 26 (nums .u8 m).toArray ∧ Below w.heap.size w w1) → Below w1.heap.size w1 w2 → (Blk w2 w.heap.size 24 (arr4 x0 x1 x2 x3) ∧ Blk w2 g 26 (nums .u8 m).toArray ∧ Below w.heap.size w w2) := fun _ _ ⟨h1, h2, h3⟩ h => ⟨h1.after h, h2.after h, below_after h3 h⟩
      refine start_ (n := 20) (S := (fun w' => Blk w' w.heap.size 24 (arr4 x0 x1 x2 x3) ∧ Blk w' g 26 (nums .u8 m).toArray ∧ Below w.heap.size w w')) (ds := []) #[false, false, false, false, false, false, false, false, false, false, false, false, false, false, false, false, false, false, false, false] (by kernel_rfl) rfl rfl ⟨b4.drew, hb2.drew, hbel.drew⟩ (fun hHeld => ?_)
      refine one_ (i := 0) (N := some 27) #[true, false, false, false, false, false, false, false, false, false, false, false, false, false, false, false, false, false, false, false] rfl rfl (by kernel_rfl) (by decide) (fun K hK => ?_)
      refine goes_ Try.func11 (by kernel_rfl) rfl #[] (by rfl) rfl rfl (by first | rfl | (simp only [List.map_toArray, List.map_cons, List.map_nil]; done) | (simp only [List.map_toArray, List.map_cons, List.map_nil]; rfl)) ?_
      refine (awake_any _).mono ?_
      rintro _ _ ⟨rfl, rfl⟩
      refine ⟨_, rfl, ?_⟩
      refine hK.out _ _ (hHeld) (fun hHeld => ?_)
      clear hK K
      refine norm_ (a' := ?_) ?_ ?_
      rotate_left
      · show Act.put _ (some 27) _ = _
        simp only [Act.put, List.setIfInBounds_toArray, List.set_cons_zero, List.set_cons_succ, i64_w, i32_w]
        rfl
      refine pure_ (i := 1) (N := some 28) (v := ?_) (a' := ?_) #[true, true, false, false, false, false, false, false, false, false, false, false, false, false, false, false, false, false, false, false] rfl rfl (by kernel_rfl) (fun _ _ _ h => h) (Or.inl ⟨by rfl, ?_⟩) ?_ ?_
      rotate_left
      · intro w'
        go_simp
        with_reducible rfl
      rotate_left
      · simp only [Act.put, List.setIfInBounds_toArray, List.set_cons_zero, List.set_cons_succ, i64_w, i32_w]
        rfl
      refine pure_ (i := 2) (N := some 29) (v := ?_) (a' := ?_) #[true, true, true, false, false, false, false, false, false, false, false, false, false, false, false, false, false, false, false, false] rfl rfl (by kernel_rfl) (fun _ _ _ h => h) (Or.inl ⟨by rfl, ?_⟩) ?_ ?_
      rotate_left
      · intro w'
        go_simp
        with_reducible rfl
      rotate_left
      · simp only [Act.put, List.setIfInBounds_toArray, List.set_cons_zero, List.set_cons_succ, i64_w, i32_w]
        rfl
      refine pure_ (i := 4) (N := some 31) (v := ?_) (a' := ?_) #[true, true, true, false, true, false, false, false, false, false, false, false, false, false, false, false, false, false, false, false] rfl rfl (by kernel_rfl) (fun _ _ _ h => h) (Or.inl ⟨by rfl, ?_⟩) ?_ ?_
      rotate_left
      · intro w'
        go_simp
        with_reducible rfl
      rotate_left
      · simp only [Act.put, List.setIfInBounds_toArray, List.set_cons_zero, List.set_cons_succ, i64_w, i32_w]
        rfl
      refine pure_ (i := 6) (N := some 33) (v := ?_) (a' := ?_) #[true, true, true, false, true, false, true, false, false, false, false, false, false, false, false, false, false, false, false, false] rfl rfl (by kernel_rfl) (fun _ _ _ h => h) (Or.inl ⟨by rfl, ?_⟩) ?_ ?_
      rotate_left
      · intro w'
        go_simp
        with_reducible rfl
      rotate_left
      · simp only [Act.put, List.setIfInBounds_toArray, List.set_cons_zero, List.set_cons_succ, i64_w, i32_w]
        rfl
      refine pure_ (i := 8) (N := some 35) (v := ?_) (a' := ?_) #[true, true, true, false, true, false, true, false, true, false, false, false, false, false, false, false, false, false, false, false] rfl rfl (by kernel_rfl) (fun _ _ _ h => h) (Or.inl ⟨by rfl, ?_⟩) ?_ ?_
      rotate_left
      · intro w'
        go_simp
        with_reducible rfl
      rotate_left
      · simp only [Act.put, List.setIfInBounds_toArray, List.set_cons_zero, List.set_cons_succ, i64_w, i32_w]
        rfl
      refine take_ (i := 3) (N := some 30) (v := ?_) (a' := ?_) #[true, true, true, true, true, false, true, false, true, false, false, false, false, false, false, false, false, false, false, false] rfl rfl (by kernel_rfl) (fun _ _ _ h => h) (Or.inl ⟨by rfl, ?_⟩) hHeld ?_ ?_
      rotate_left
      · rintro w' ⟨s0, s1, s2⟩
        obtain ⟨c0, c1, c2, c3⟩ := s0.cells4
        go_simp
        with_reducible rfl
      rotate_left
      · simp only [Act.put, List.setIfInBounds_toArray, List.set_cons_zero, List.set_cons_succ, i64_w, i32_w]
        rfl
      refine take_ (i := 7) (N := some 34) (v := ?_) (a' := ?_) #[true, true, true, true, true, false, true, true, true, false, false, false, false, false, false, false, false, false, false, false] rfl rfl (by kernel_rfl) (fun _ _ _ h => h) (Or.inl ⟨by rfl, ?_⟩) hHeld ?_ ?_
      rotate_left
      · rintro w' ⟨s0, s1, s2⟩
        refine exec_load_blk 26 (.tmp 7) ?_ g ?_ 26 s1 _ Try.underlying26 rfl 256 size_S (by rw [nums_size]; exact hm.1)
        · rfl
        · rfl
      rotate_left
      · simp only [Act.put, List.setIfInBounds_toArray, List.set_cons_zero, List.set_cons_succ, i64_w, i32_w]
        rfl
      refine one_ (i := 5) (N := some 32) #[true, true, true, true, true, true, true, true, true, false, false, false, false, false, false, false, false, false, false, false] rfl rfl (by kernel_rfl) (by decide) (fun K hK => ?_)
      refine goes_ Try.func12 (by kernel_rfl) rfl #[.string s, set4 x0 x1 x2 x3, .int .i64 fr] (by rfl) rfl rfl (by first | rfl | (simp only [List.map_toArray, List.map_cons, List.map_nil]; done) | (simp only [List.map_toArray, List.map_cons, List.map_nil]; rfl)) ?_
      refine (find_any s x0 x1 x2 x3 fr _ (by omega) (by omega)).mono ?_
      rintro _ wf ⟨r, hr, rfl, hbf⟩
      refine ⟨_, rfl, ?_⟩
      refine hK.out _ _ (hst _ _ hHeld hbf) (fun hHeld => ?_)
      clear hK K
      refine norm_ (a' := ?_) ?_ ?_
      rotate_left
      · show Act.put _ (some 32) _ = _
        simp only [Act.put, List.setIfInBounds_toArray, List.set_cons_zero, List.set_cons_succ, i64_w, i32_w]
        rfl
      refine one_ (i := 9) (N := some 36) #[true, true, true, true, true, true, true, true, true, true, false, false, false, false, false, false, false, false, false, false] rfl rfl (by kernel_rfl) (by decide) (fun K hK => ?_)
      refine goes_ Try.func13 (by kernel_rfl) rfl #[.string s, .agg (nums .u8 m).toArray, .int .i64 fr] (by rfl) rfl rfl (by first | rfl | (simp only [List.map_toArray, List.map_cons, List.map_nil]; done) | (simp only [List.map_toArray, List.map_cons, List.map_nil]; rfl)) ?_
      refine (rfind_any s m fr _ (by omega) hm.1).mono ?_
      rintro _ wg ⟨r', hr', rfl, hbg⟩
      refine ⟨_, rfl, ?_⟩
      have hrr : (r == r') = true := beq_iff_eq.2 (FirstAt.unique (fun j h0 h1 => (unw_in hm _ (byte_range_bt s j).1 (byte_range_bt s j).2).symm) hr hr')
      refine hK.out _ _ (hst _ _ hHeld hbg) (fun hHeld => ?_)
      clear hK K
      refine norm_ (a' := ?_) ?_ ?_
      rotate_left
      · show Act.put _ (some 36) _ = _
        simp only [Act.put, List.setIfInBounds_toArray, List.set_cons_zero, List.set_cons_succ, i64_w, i32_w]
        rfl
      refine pure_ (i := 10) (N := some 37) (v := ?_) (a' := ?_) #[true, true, true, true, true, true, true, true, true, true, true, false, false, false, false, false, false, false, false, false] rfl rfl (by kernel_rfl) (fun _ _ _ h => h) (Or.inl ⟨by rfl, ?_⟩) ?_ ?_
      rotate_left
      · intro w'
        go_simp
        with_reducible rfl
      rotate_left
      · simp only [Act.put, List.setIfInBounds_toArray, List.set_cons_zero, List.set_cons_succ, i64_w, i32_w]
        rfl
      refine pure_ (i := 11) (N := some 38) (v := ?_) (a' := ?_) #[true, true, true, true, true, true, true, true, true, true, true, true, false, false, false, false, false, false, false, false] rfl rfl (by kernel_rfl) (fun _ _ _ h => h) (Or.inl ⟨by rfl, ?_⟩) ?_ ?_
      rotate_left
      · intro w'
        go_simp
        with_reducible rfl
      rotate_left
      · simp only [Act.put, List.setIfInBounds_toArray, List.set_cons_zero, List.set_cons_succ, i64_w, i32_w]
        rfl
      refine pure_ (i := 12) (N := some 39) (v := ?_) (a' := ?_) #[true, true, true, true, true, true, true, true, true, true, true, true, true, false, false, false, false, false, false, false] rfl rfl (by kernel_rfl) (fun _ _ _ h => h) (Or.inl ⟨by rfl, ?_⟩) ?_ ?_
      rotate_left
      · intro w'
        go_simp
        with_reducible rfl
      rotate_left
      · simp only [Act.put, List.setIfInBounds_toArray, List.set_cons_zero, List.set_cons_succ, i64_w, i32_w]
        rfl
      refine pure_ (i := 13) (N := some 40) (v := ?_) (a' := ?_) #[true, true, true, true, true, true, true, true, true, true, true, true, true, true, false, false, false, false, false, false] rfl rfl (by kernel_rfl) (fun _ _ _ h => h) (Or.inl ⟨by rfl, ?_⟩) ?_ ?_
      rotate_left
      · intro w'
        go_simp
        with_reducible rfl
      rotate_left
      · simp only [Act.put, List.setIfInBounds_toArray, List.set_cons_zero, List.set_cons_succ, i64_w, i32_w]
        rfl
      refine pure_ (i := 16) (N := some 43) (v := ?_) (a' := ?_) #[true, true, true, true, true, true, true, true, true, true, true, true, true, true, false, false, true, false, false, false] rfl rfl (by kernel_rfl) (fun _ _ _ h => h) (Or.inl ⟨by rfl, ?_⟩) ?_ ?_
      rotate_left
      · intro w'
        go_simp
        with_reducible rfl
      rotate_left
      · simp only [Act.put, List.setIfInBounds_toArray, List.set_cons_zero, List.set_cons_succ, i64_w, i32_w]
        rfl
      refine take_ (i := 14) (N := some 41) (v := ?_) (a' := ?_) #[true, true, true, true, true, true, true, true, true, true, true, true, true, true, true, false, true, false, false, false] rfl rfl (by kernel_rfl) (fun _ _ _ h => h) (Or.inl ⟨by rfl, ?_⟩) hHeld ?_ ?_
      rotate_left
      · rintro w' ⟨s0, s1, s2⟩
        obtain ⟨c0, c1, c2, c3⟩ := s0.cells4
        go_simp
        with_reducible rfl
      rotate_left
      · simp only [Act.put, List.setIfInBounds_toArray, List.set_cons_zero, List.set_cons_succ, i64_w, i32_w]
        rfl
      refine one_ (i := 15) (N := some 42) #[true, true, true, true, true, true, true, true, true, true, true, true, true, true, true, true, true, false, false, false] rfl rfl (by kernel_rfl) (by decide) (fun K hK => ?_)
      refine goes_ Try.func14 (by kernel_rfl) rfl #[.string s, set4 x0 x1 x2 x3] (by rfl) rfl rfl (by first | rfl | (simp only [List.map_toArray, List.map_cons, List.map_nil]; done) | (simp only [List.map_toArray, List.map_cons, List.map_nil]; rfl)) ?_
      refine (all_any s x0 x1 x2 x3 _ (by omega)).mono ?_
      rintro _ wh ⟨b', hb', rfl, hbh⟩
      refine ⟨_, rfl, ?_⟩
      have hbb : (b' == b) = true := beq_iff_eq.2 (AllIn.unique (fun j h0 h1 => (unw_in hm _ (byte_range_bt s j).1 (byte_range_bt s j).2).symm) hb' hall)
      refine hK.out _ _ (hst _ _ hHeld hbh) (fun hHeld => ?_)
      clear hK K
      refine norm_ (a' := ?_) ?_ ?_
      rotate_left
      · show Act.put _ (some 42) _ = _
        simp only [Act.put, List.setIfInBounds_toArray, List.set_cons_zero, List.set_cons_succ, i64_w, i32_w]
        rfl
      refine pure_ (i := 17) (N := some 44) (v := ?_) (a' := ?_) #[true, true, true, true, true, true, true, true, true, true, true, true, true, true, true, true, true, true, false, false] rfl rfl (by kernel_rfl) (fun _ _ _ h => h) (Or.inl ⟨by rfl, ?_⟩) ?_ ?_
      rotate_left
      · intro w'
        go_simp
        with_reducible rfl
      rotate_left
      · simp only [Act.put, List.setIfInBounds_toArray, List.set_cons_zero, List.set_cons_succ, i64_w, i32_w]
        rfl
      refine pure_ (i := 18) (N := some 45) (v := ?_) (a' := ?_) #[true, true, true, true, true, true, true, true, true, true, true, true, true, true, true, true, true, true, true, false] rfl rfl (by kernel_rfl) (fun _ _ _ h => h) (Or.inl ⟨by rfl, ?_⟩) ?_ ?_
      rotate_left
      · intro w'
        go_simp
        with_reducible rfl
      rotate_left
      · simp only [Act.put, List.setIfInBounds_toArray, List.set_cons_zero, List.set_cons_succ, i64_w, i32_w]
        rfl
      refine pure_ (i := 19) (N := some 6) (v := ?_) (a' := ?_) #[true, true, true, true, true, true, true, true, true, true, true, true, true, true, true, true, true, true, true, true] rfl rfl (by kernel_rfl) (fun _ _ _ h => h) (Or.inl ⟨by rfl, ?_⟩) ?_ ?_
      rotate_left
      · intro w'
        go_simp
        with_reducible rfl
      rotate_left
      · simp only [Act.put, List.setIfInBounds_toArray, List.set_cons_zero, List.set_cons_succ, i64_w, i32_w]
        rfl
      refine done_ (by kernel_rfl) ?_
      go_wp2
      go_ret
      exact ⟨rfl, hHeld.2.2⟩
end Go.Proofs.Ytjiapggmiddpdaa
