/- My walks over the document's sets (arrays of 256 bytes): Unwords, Find. -/
import Derived.Test.YtjiapggmiddpdaaOctA
import Derived.Test.YtjiapggmiddpdaaBase2
set_option linter.unusedVariables false
set_option linter.unusedSimpArgs false
namespace Go.Proofs.Ytjiapggmiddpdaa
open Go.RowKit Go.Proofs.YtjiapggmiddpdaaW.PrintWords Go.Proofs.YtjiapggmiddpdaaW.PrintLast
/-- the empty set of 256 bytes -/
def no256 : List Int := List.replicate 256 0
theorem info_S : (Try.prog.info? 26).map (fun i => (i.zero, i.size)) = some (some (.agg (nums .u8 no256).toArray), 256) := by kernel_rfl
theorem size_S : (Try.prog.info? 26).map (·.size) = some 256 := (zero_of_info info_S).2
theorem zero_S (w : World) : (zeroValue 26).run Try.prog w = .ok (.agg (nums .u8 no256).toArray) w := (zero_of_info info_S).1 w
theorem built_S : Try.prog.built 26 [] = some (nums .u8 no256).toArray := by kernel_rfl
def bit4 (x0 x1 x2 x3 i : Int) : Int := bits BinOp.and IntKind.u64 (rd [x0, x1, x2, x3] (i / 64) / 2 ^ (i % 64).toNat) 1
theorem and1_01 (x : Int) : bits BinOp.and IntKind.u64 x 1 = 0 ∨ bits BinOp.and IntKind.u64 x 1 = 1 := by
  have h : (BitVec.ofInt 64 x &&& BitVec.ofInt 64 1).toNat = (BitVec.ofInt 64 x).toNat % 2 := by
    rw [BitVec.toNat_and, show (BitVec.ofInt 64 1).toNat = 1 from rfl, Nat.and_one_is_mod]
  have e : bits BinOp.and IntKind.u64 x 1 = IntKind.u64.wrap (((BitVec.ofInt 64 x).toNat % 2 : Nat) : Int) := by
    rw [← h]; rfl
  rw [e, IntKind.wrap_u64]
  omega
def IsUnw (x0 x1 x2 x3 : Int) (l : List Int) : Prop := l.length = 256 ∧ ∀ i, 0 ≤ i → i < 256 → rd l i = bit4 x0 x1 x2 x3 i
set_option maxRecDepth 100000 in
set_option maxHeartbeats 1000000 in
theorem unwords_any (x0 x1 x2 x3 : Int) (w : World) :
    Calls Try.prog 10 #[set4 x0 x1 x2 x3] w (ListSuch .u8 (IsUnw x0 x1 x2 x3) w) := by
  have hz := zero_S
  go_enter Try.func10, Try.ntmps10
  go_upto_region 1 with (fail)
  go_wp2_with (first | (refine wp_build_nil rfl 26 rfl 5 rfl _ built_S ?_) | (refine wp_store_blk rfl 26 _ _ rfl rfl (w.heap.size + 1 + 1) _ rfl rfl 26 _ (Blk.at_new (by simp)) 256 size_S rfl rfl (nums_one _ _) ?_; intro w2 hb2 hg2))
  have b0 : Blk w2 w.heap.size 23 (arr4 x0 x1 x2 x3) := (((Blk.new _ _ _).alloc _).alloc _).grown hg2 (by simp <;> omega)
  have b1 : Blk w2 (w.heap.size + 1) 26 (nums .u8 no256).toArray := ((Blk.at_new (by simp)).alloc _).grown hg2 (by simp <;> omega)
  have hbel : Below w.heap.size w w2 := below_grown (below_alloc (below_alloc (below_one _ _) _) _) hg2 (by omega)
  clear hg2 hz
  go_loopw [4] (fun v wr => ∃ (k : Int) (l : List Int), v = .int .i64 k ∧ 0 ≤ k ∧ k ≤ 256 ∧ l.length = 256 ∧ Hid (∀ i, 0 ≤ i → i < k → rd l i = bit4 x0 x1 x2 x3 i) ∧ Below w.heap.size w wr ∧ Blk wr w.heap.size 23 (arr4 x0 x1 x2 x3) ∧ Blk wr (w.heap.size + 1) 26 (nums .u8 no256).toArray ∧ Blk wr (w.heap.size + 1 + 1) 26 (nums .u8 l).toArray) (fun v _ => 256 - (intOf v).toNat)
  case atStart => exact ⟨0, no256, rfl, by omega, by omega, rfl, fun i h0 h1 => by omega, hbel, b0, b1, hb2⟩
  case round =>
    obtain ⟨k, l, rfl, hk0, hk1, hl, hall, hbel, b0, b1, b2⟩ := hrel
    by_cases hlt : k < 256
    · have c0 := blk4_at b0 (k / 64) (by omega) (by omega)
      have c1 := blk_num_at b2 k hk0 (by omega)
      have c2 := b2.frozen k.toNat
      go_wp2
      refine ⟨⟨k + 1, l.set k.toNat _, rfl, by omega, by omega, by rw [List.length_set, hl], fun i h0 h1 => ?_, below_set hbel (by simp <;> omega) _, b0.far (by simp <;> omega) _, b1.far (by simp <;> omega) _, blk_num_set b2 _ _⟩, by simp [intOf]; omega⟩
      rw [rd_set l k i _ hk0 (by omega) h0]
      by_cases h : i = k
      · subst h
        rw [if_pos rfl]
        have := and1_01 (rd [x0, x1, x2, x3] (i / 64) / 2 ^ (i % 64).toNat)
        unfold bit4
        omega
      · rw [if_neg h]; exact hall.out i h0 (by omega)
    · obtain rfl : k = 256 := by omega
      go_wp2_with (first | (refine wp_load_blk rfl 26 _ rfl (w.heap.size + 1 + 1) rfl 26 _ b2 _ Try.underlying26 rfl 256 size_S (by rw [nums_size, hl]) ?_) | (refine wp_store_blk rfl 26 _ _ rfl rfl (w.heap.size + 1) _ rfl rfl 26 _ b1 256 size_S (by rw [nums_size, hl]) rfl (nums_one _ _) ?_; intro w3 hb3 hg3))
      refine bodyPost_ret (ret_blk (ty := 26) rfl _ _ _ _ _ _ rfl hb3 Try.underlying26 rfl 256 size_S (by rw [nums_size, hl])) rfl ?_
      exact ⟨l, ⟨hl, hall.out⟩, rfl, below_grown hbel hg3 (by omega)⟩
/- The document's Find, its set any array of 256 bytes. -/
set_option maxRecDepth 100000 in
set_option maxHeartbeats 1000000 in
theorem rfind_any (s : ByteArray) (l : List Int) (fr : Int) (w : World) (hs : s.size ≤ 9223372036854775807) (hl : l.length = 256) :
    Calls Try.prog 13 #[.string s, .agg (nums .u8 l).toArray, .int .i64 fr] w (IntSuch .i64 (FirstAt (fun i => rd l (bt s i) == 1) fr s.size) w) := by
  go_enter Try.func13, Try.ntmps13
  go_wp2
  go_loopw [7] (fun v wr => ∃ k : Int, v = .int .i64 k ∧ 0 ≤ k ∧ k ≤ s.size ∧ Hid (∀ j, fr ≤ j → 0 ≤ j → j < k → (rd l (bt s j) == 1) = false) ∧ Below w.heap.size w wr ∧ Blk wr w.heap.size 26 (nums .u8 l).toArray) (fun v _ => s.size - (intOf v).toNat)
  case atStart => exact ⟨0, rfl, by omega, by omega, fun j h1 h2 h3 => by omega, below_one _ _, Blk.new _ _ _⟩
  case round =>
    obtain ⟨k, rfl, hk0, hks, hall, hbel, hblk⟩ := hrel
    by_cases hlt : k < s.size
    · have hbt := bt_at s k
      have hbr := bt_range s k
      have c0 := blk_num_at hblk (bt s k) hbr.1 (by omega)
      by_cases hf : fr ≤ k
      · by_cases hp : (rd l (bt s k) == 1) = true
        · go_wp2
          go_ret
          exact ⟨k, FirstAt.hit hf hk0 hlt hp hall.out, rfl, hbel⟩
        · have hp' : (rd l (bt s k) == 1) = false := by simpa using hp
          go_wp2
          exact ⟨⟨k + 1, rfl, by omega, by omega, FirstAt.more (fun _ => hp') hall.out, hbel, hblk⟩, by simp [intOf]; omega⟩
      · go_wp2
        exact ⟨⟨k + 1, rfl, by omega, by omega, FirstAt.more (fun h => absurd h hf) hall.out, hbel, hblk⟩, by simp [intOf]; omega⟩
    · go_wp2
      go_ret
      exact ⟨-1, FirstAt.none (by omega) hall.out, rfl, hbel⟩
end Go.Proofs.Ytjiapggmiddpdaa
