/- The document's sets made: with, from, Words; the program's with and Make. -/
import Derived.Test.YtjiapggmiddpdaaOctS
import Derived.Test.YtjiapggmiddpdaaOctU
set_option linter.unusedVariables false
set_option linter.unusedSimpArgs false
namespace Go.Proofs.Ytjiapggmiddpdaa
open Go.RowKit Go.Proofs.YtjiapggmiddpdaaW.PrintWords Go.Proofs.YtjiapggmiddpdaaW.PrintLast
/-- byte b stands among the first k of a text -/
def inStr (s : ByteArray) (b : Int) : Nat → Bool
  | 0 => false
  | k + 1 => inStr s b k || decide (bt s k = b)
theorem inStr_zero (s : ByteArray) (b : Int) : inStr s b 0 = false := by simp only [inStr]
theorem inStr_step (s : ByteArray) (b k : Int) (h : 0 ≤ k) : inStr s b (k + 1).toNat = (inStr s b k.toNat || decide (bt s k = b)) := by
  obtain ⟨n, rfl⟩ := Int.eq_ofNat_of_zero_le h
  show inStr s b (n + 1) = _
  rw [inStr]; rfl
theorem rwith_step {s : ByteArray} {l m : List Int} {k : Int} (hk : 0 ≤ k) (hl : l.length = 256) (h0 : 0 ≤ bt s k) (h1 : bt s k < 256)
    (h : ∀ b, 0 ≤ b → b < 256 → rd l b = if inStr s b k.toNat = true then 1 else rd m b) : ∀ b, 0 ≤ b → b < 256 → rd (l.set (bt s k).toNat 1) b = if inStr s b (k + 1).toNat = true then 1 else rd m b := by
  intro b hb0 hb1
  rw [rd_set l (bt s k) b 1 h0 (by omega) hb0, inStr_step s b k hk, h b hb0 hb1]
  by_cases e : b = bt s k
  · subst e; simp
  · have e' : ¬ bt s k = b := fun h => e h.symm
    simp [e, e']
set_option maxRecDepth 100000 in
set_option maxHeartbeats 2000000 in
theorem rwith_any (m : List Int) (s : ByteArray) (w : World) (hm : m.length = 256) (hs : s.size ≤ 9223372036854775807) :
    Calls Try.prog 46 #[.agg (nums .u8 m).toArray, .string s] w (ListSuch .u8 (fun l => l.length = 256 ∧ ∀ b, 0 ≤ b → b < 256 → rd l b = if inStr s b s.size = true then 1 else rd m b) w) := by
  have hz := zero_S
  go_enter Try.func46, Try.ntmps46
  go_upto_region 1 with (fail)
  clear hz
  go_wp2
  go_loopw [5] (fun v wr => ∃ (k : Int) (l : List Int), v = .int .i64 k ∧ 0 ≤ k ∧ k ≤ s.size ∧ l.length = 256 ∧ Hid (∀ b, 0 ≤ b → b < 256 → rd l b = if inStr s b k.toNat = true then 1 else rd m b) ∧ Below w.heap.size w wr ∧ Blk wr w.heap.size 26 (nums .u8 l).toArray ∧ Blk wr (w.heap.size + 1) 26 (nums .u8 no256).toArray) (fun v _ => s.size - (intOf v).toNat)
  case atStart => exact ⟨0, m, rfl, by omega, by omega, hm, fun b h0 h1 => by rw [show (0 : Int).toNat = 0 from rfl, inStr_zero]; rfl, below_alloc (below_one _ _) _, (Blk.new _ _ _).alloc _, Blk.at_new (by simp)⟩
  case round =>
    obtain ⟨k, l, rfl, hk0, hk1, hl, hall, hbel, b0, b1⟩ := hrel
    by_cases hlt : k < s.size
    · have hbt := bt_at s k
      have hbr := bt_range s k
      have c1 := blk_num_at b0 (bt s k) hbr.1 (by omega)
      have c2 := b0.frozen (bt s k).toNat
      go_wp2
      exact ⟨⟨k + 1, l.set (bt s k).toNat 1, rfl, by omega, by omega, by rw [List.length_set, hl], rwith_step hk0 hl hbr.1 (by omega) hall.out, below_set hbel (by simp) _, blk_num_set b0 _ _, b1.far (by simp) _⟩, by simp [intOf]; omega⟩
    · obtain rfl : k = s.size := by omega
      go_wp2_with (first | (refine wp_load_blk rfl 26 _ rfl w.heap.size rfl 26 _ b0 _ Try.underlying26 rfl 256 size_S (by rw [nums_size, hl]) ?_) | (refine wp_store_blk rfl 26 _ _ rfl rfl (w.heap.size + 1) _ rfl rfl 26 _ b1 256 size_S (by rw [nums_size, hl]) rfl (nums_one _ _) ?_; intro w3 hb3 hg3))
      refine bodyPost_ret (ret_blk (ty := 26) rfl _ _ _ _ _ _ rfl hb3 Try.underlying26 rfl 256 size_S (by rw [nums_size, hl])) rfl ?_
      exact ⟨l, ⟨hl, hall.out⟩, rfl, below_grown hbel hg3 (by omega)⟩
theorem rfrom_step {l m : List Int} {a k : Int} (hk : 0 ≤ k) (hk1 : k < 256) (hak : a ≤ k) (hl : l.length = 256)
    (h : ∀ b, 0 ≤ b → b < 256 → rd l b = if a ≤ b ∧ b < k then 1 else rd m b) : ∀ b, 0 ≤ b → b < 256 → rd (l.set k.toNat 1) b = if a ≤ b ∧ b < k + 1 then 1 else rd m b := by
  intro b hb0 hb1
  rw [rd_set l k b 1 hk (by omega) hb0, h b hb0 hb1]
  by_cases e : b = k
  · subst e; rw [if_pos rfl, if_pos ⟨hak, by omega⟩]
  · rw [if_neg e]
    by_cases g : a ≤ b ∧ b < k
    · rw [if_pos g, if_pos ⟨g.1, by omega⟩]
    · rw [if_neg g, if_neg (by omega)]
set_option maxRecDepth 100000 in
set_option maxHeartbeats 2000000 in
theorem rfrom_any (m : List Int) (a z : Int) (w : World) (hm : m.length = 256) (ha : 0 ≤ a) (ha1 : a ≤ 255) (hz0 : 0 ≤ z) (hz1 : z ≤ 255) :
    Calls Try.prog 47 #[.agg (nums .u8 m).toArray, .int .i64 a, .int .i64 z] w (ListSuch .u8 (fun l => l.length = 256 ∧ ∀ b, 0 ≤ b → b < 256 → rd l b = if a ≤ b ∧ b ≤ z then 1 else rd m b) w) := by
  have hz := zero_S
  go_enter Try.func47, Try.ntmps47
  go_upto_region 1 with (fail)
  clear hz
  go_wp2
  go_loopw [7] (fun v wr => ∃ (k : Int) (l : List Int), v = .int .i64 k ∧ a ≤ k ∧ k ≤ 256 ∧ (k = a ∨ k ≤ z + 1) ∧ l.length = 256 ∧ Hid (∀ b, 0 ≤ b → b < 256 → rd l b = if a ≤ b ∧ b < k then 1 else rd m b) ∧ Below w.heap.size w wr ∧ Blk wr w.heap.size 26 (nums .u8 l).toArray ∧ Blk wr (w.heap.size + 1) 26 (nums .u8 no256).toArray) (fun v _ => 256 - (intOf v).toNat)
  case atStart => exact ⟨a, m, rfl, by omega, by omega, by omega, hm, fun b h0 h1 => by rw [if_neg (by omega)], below_alloc (below_one _ _) _, (Blk.new _ _ _).alloc _, Blk.at_new (by simp)⟩
  case round =>
    obtain ⟨k, l, rfl, hk0, hk1, hk2, hl, hall, hbel, b0, b1⟩ := hrel
    by_cases hlt : k ≤ z
    · have c1 := blk_num_at b0 k (by omega) (by omega)
      have c2 := b0.frozen k.toNat
      go_wp2
      exact ⟨⟨k + 1, l.set k.toNat 1, rfl, by omega, by omega, by omega, by rw [List.length_set, hl], rfrom_step (by omega) (by omega) hk0 hl hall.out, below_set hbel (by simp) _, blk_num_set b0 _ _, b1.far (by simp) _⟩, by simp [intOf]; omega⟩
    · go_wp2_with (first | (refine wp_load_blk rfl 26 _ rfl w.heap.size rfl 26 _ b0 _ Try.underlying26 rfl 256 size_S (by rw [nums_size, hl]) ?_) | (refine wp_store_blk rfl 26 _ _ rfl rfl (w.heap.size + 1) _ rfl rfl 26 _ b1 256 size_S (by rw [nums_size, hl]) rfl (nums_one _ _) ?_; intro w3 hb3 hg3))
      refine bodyPost_ret (ret_blk (ty := 26) rfl _ _ _ _ _ _ rfl hb3 Try.underlying26 rfl 256 size_S (by rw [nums_size, hl])) rfl ?_
      refine ⟨l, ⟨hl, fun b h0 h1 => ?_⟩, rfl, below_grown hbel hg3 (by omega)⟩
      rw [hall.out b h0 h1]
      by_cases g : a ≤ b ∧ b < k
      · rw [if_pos g, if_pos (by omega)]
      · rw [if_neg g, if_neg (by omega)]
set_option maxRecDepth 100000 in
set_option maxHeartbeats 4000000 in
theorem with_any (x0 x1 x2 x3 : Int) (s : ByteArray) (w : World) (hx : Wf4 x0 x1 x2 x3) (hs : s.size ≤ 9223372036854775807) :
    Calls Try.prog 48 #[set4 x0 x1 x2 x3, .string s] w (Set4Such (fun y0 y1 y2 y3 => Wf4 y0 y1 y2 y3 ∧ ∀ b, 0 ≤ b → b < 256 → inSet [y0, y1, y2, y3] b = (inSet [x0, x1, x2, x3] b || inStr s b s.size)) w) := by
  go_enter Try.func48, Try.ntmps48
  go_wp2
  go_loopw [8] (fun v wr => ∃ (k y0 y1 y2 y3 : Int), v = .int .i64 k ∧ 0 ≤ k ∧ k ≤ s.size ∧ Hid (Wf4 y0 y1 y2 y3 ∧ ∀ b, 0 ≤ b → b < 256 → inSet [y0, y1, y2, y3] b = (inSet [x0, x1, x2, x3] b || inStr s b k.toNat)) ∧ Below w.heap.size w wr ∧ Blk wr w.heap.size 24 (arr4 y0 y1 y2 y3) ∧ Blk wr (w.heap.size + 1) 24 (arr4 0 0 0 0)) (fun v _ => s.size - (intOf v).toNat)
  case atStart => exact ⟨0, x0, x1, x2, x3, rfl, by omega, by omega, ⟨hx, fun b h0 h1 => by rw [show (0 : Int).toNat = 0 from rfl, inStr_zero, Bool.or_false]⟩, below_alloc (below_one _ _) _, (Blk.new _ _ _).alloc _, Blk.at_new (by simp)⟩
  case round =>
    obtain ⟨k, y0, y1, y2, y3, rfl, hk0, hk1, hy, hbel, b0, b1⟩ := hrel
    by_cases hlt : k < s.size
    · have hbt := bt_at s k
      have hbr := bt_range s k
      go_upto_region 4 with (fail)
      have hst : ∀ w1 w2 : World, (Below w.heap.size w w1 ∧ Blk w1 w.heap.size 24 (arr4 y0 y1 y2 y3) ∧ Blk w1 (w.heap.size + 1) 24 (arr4 0 0 0 0)) → Below w1.heap.size w1 w2 → (Below w.heap.size w w2 ∧ Blk w2 w.heap.size 24 (arr4 y0 y1 y2 y3) ∧ Blk w2 (w.heap.size + 1) 24 (arr4 0 0 0 0)) := fun _ _ ⟨h1, h2, h3⟩ h => ⟨below_after h1 h, h2.after h, h3.after h⟩
      refine start_ (n := 6) (S := (fun w' => Below w.heap.size w w' ∧ Blk w' w.heap.size 24 (arr4 y0 y1 y2 y3) ∧ Blk w' (w.heap.size + 1) 24 (arr4 0 0 0 0))) (ds := [5]) #[false, false, false, false, false, false] (by kernel_rfl) rfl rfl ⟨hbel.drew, b0.drew, b1.drew⟩ (fun hHeld => ?_)
      refine pure_ (i := 1) (N := some 12) (v := ?_) (a' := ?_) #[false, true, false, false, false, false] rfl rfl (by kernel_rfl) (fun _ _ _ h => h) (Or.inl ⟨by rfl, ?_⟩) ?_ ?_
      rotate_left
      · intro w'
        go_simp
        with_reducible rfl
      rotate_left
      · simp only [Act.put, List.setIfInBounds_toArray, List.set_cons_zero, List.set_cons_succ, i64_w, i32_w]
        rfl
      refine pure_ (i := 2) (N := some 13) (v := ?_) (a' := ?_) #[false, true, true, false, false, false] rfl rfl (by kernel_rfl) (fun _ _ _ h => h) (Or.inl ⟨by rfl, ?_⟩) ?_ ?_
      rotate_left
      · intro w'
        go_simp
        with_reducible rfl
      rotate_left
      · simp only [Act.put, List.setIfInBounds_toArray, List.set_cons_zero, List.set_cons_succ, i64_w, i32_w]
        rfl
      refine take_ (i := 0) (N := some 11) (v := ?_) (a' := ?_) #[true, true, true, false, false, false] rfl rfl (by kernel_rfl) (fun _ _ _ h => h) (Or.inl ⟨by rfl, ?_⟩) hHeld ?_ ?_
      rotate_left
      · rintro w' ⟨s1, s2, s3⟩
        refine exec_load_blk 24 (.tmp 2) ?_ w.heap.size ?_ 24 s2 _ Try.underlying24 rfl 4 size_B rfl
        · rfl
        · rfl
      rotate_left
      · simp only [Act.put, List.setIfInBounds_toArray, List.set_cons_zero, List.set_cons_succ, i64_w, i32_w]
        rfl
      refine take_ (i := 3) (N := some 14) (v := ?_) (a' := ?_) #[true, true, true, true, false, false] rfl rfl (by kernel_rfl) (fun _ _ _ h => h) (Or.inl ⟨by rfl, ?_⟩) hHeld ?_ ?_
      rotate_left
      · rintro w' ⟨s1, s2, s3⟩
        go_simp
        with_reducible rfl
      rotate_left
      · simp only [Act.put, List.setIfInBounds_toArray, List.set_cons_zero, List.set_cons_succ, i64_w, i32_w]
        rfl
      refine one_ (i := 4) (N := some 15) #[true, true, true, true, true, false] rfl rfl (by kernel_rfl) (by decide) (fun K hK => ?_)
      refine goes_ Try.func45 (by kernel_rfl) rfl #[set4 y0 y1 y2 y3, .int .u8 (bt s k)] (by rfl) rfl rfl (by first | rfl | (simp only [List.map_toArray, List.map_cons, List.map_nil]; done) | (simp only [List.map_toArray, List.map_cons, List.map_nil]; rfl)) ?_
      refine (put_any y0 y1 y2 y3 (bt s k) _ hy.out.1 hbr.1 (by omega)).mono ?_
      rintro _ wq ⟨u0, u1, u2, u3, hu, rfl, hbc⟩
      refine ⟨_, rfl, ?_⟩
      have Hu := Lib.hid hu
      clear hu
      refine hK.out _ _ (hst _ _ hHeld hbc) (fun hHeld => ?_)
      clear hK K
      refine norm_ (a' := ?_) ?_ ?_
      rotate_left
      · show Act.put _ (some 15) _ = _
        simp only [Act.put, List.setIfInBounds_toArray, List.set_cons_zero, List.set_cons_succ, i64_w, i32_w]
        rfl
      refine last_ (i := 5) (N := none) #[true, true, true, true, true, true] rfl rfl (by kernel_rfl) (by decide) (fun K hK => ?_)
      refine store_ (by rfl) rfl 24 _ _ rfl w.heap.size (arr4 u0 u1 u2 u3) rfl rfl 24 _ hHeld.2.1 4 size_B rfl rfl (nums_one .u64 [u0, u1, u2, u3]) ?_
      intro w9 h9 k9
      have hf9 : Below w.heap.size w w9 ∧ Blk w9 w.heap.size 24 (arr4 u0 u1 u2 u3) ∧ Blk w9 (w.heap.size + 1) 24 (arr4 0 0 0 0) := ⟨below_grown hHeld.1 k9 (by omega), h9, hHeld.2.2.grown k9 (by simp)⟩
      clear hHeld
      refine hK.out _ _ ?_
      clear hK K
      refine done_ (by kernel_rfl) ?_
      go_wp2
      exact ⟨⟨k + 1, u0, u1, u2, u3, rfl, by omega, by omega, ⟨Hu.out.1, fun b h0 h1 => by rw [Hu.out.2 b h0 h1, hy.out.2 b h0 h1, inStr_step s b k hk0, Bool.or_assoc]; exact congrArg (inSet [x0, x1, x2, x3] b || ·) (congrArg (inStr s b k.toNat || ·) (decide_eq_decide.2 ⟨Eq.symm, Eq.symm⟩))⟩, hf9⟩, by simp [intOf]; omega⟩
    · obtain rfl : k = s.size := by omega
      go_wp2_with (first | (refine wp_load_blk rfl 24 _ rfl w.heap.size rfl 24 _ b0 _ Try.underlying24 rfl 4 size_B rfl ?_) | (refine wp_store_blk rfl 24 _ _ rfl rfl (w.heap.size + 1) _ rfl rfl 24 _ b1 4 size_B rfl rfl (nums_one .u64 [y0, y1, y2, y3]) ?_; intro w3 hb3 hg3))
      refine bodyPost_ret (ret_blk (ty := 24) rfl _ _ _ _ _ _ rfl hb3 Try.underlying24 rfl 4 size_B rfl) rfl ?_
      exact ⟨y0, y1, y2, y3, hy.out, rfl, below_grown hbel hg3 (by omega)⟩
end Go.Proofs.Ytjiapggmiddpdaa
