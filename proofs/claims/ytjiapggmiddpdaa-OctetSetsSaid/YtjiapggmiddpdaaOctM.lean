/- The document's Words and Make; the program's Make. -/
import Derived.Test.YtjiapggmiddpdaaOctN
set_option linter.unusedVariables false
set_option linter.unusedSimpArgs false
namespace Go.Proofs.Ytjiapggmiddpdaa
open Go.RowKit Go.Proofs.YtjiapggmiddpdaaW.PrintWords Go.Proofs.YtjiapggmiddpdaaW.PrintLast
theorem size_4 : (Try.prog.info? 23).map (·.size) = some 4 := by kernel_rfl
theorem built_4 : Try.prog.built 23 [] = some (arr4 0 0 0 0) := by kernel_rfl
theorem shl_fact (k : Int) (h0 : 0 ≤ k) : IntKind.u64.wrap (2 ^ (k % 64).toNat) = 2 ^ (k % 64).toNat := by
  have hu := pow_U64 (k % 64).toNat (by omega)
  rw [IntKind.wrap_u64]
  exact Int.emod_eq_of_lt hu.1 hu.2
theorem words_step {y0 y1 y2 y3 k : Int} {m : List Int} (hk : 0 ≤ k) (hy : Wf4 y0 y1 y2 y3 ∧ ∀ b, 0 ≤ b → b < 256 → inSet [y0, y1, y2, y3] b = (decide (b < k) && (rd m b == 1))) (h1 : k < 256) (hm : (rd m k == 1) = true) :
    ∃ z0 z1 z2 z3, put4 [y0, y1, y2, y3] k = [z0, z1, z2, z3] ∧ Wf4 z0 z1 z2 z3 ∧ ∀ b, 0 ≤ b → b < 256 → inSet [z0, z1, z2, z3] b = (decide (b < k + 1) && (rd m b == 1)) := by
  obtain ⟨z0, z1, z2, z3, hz⟩ := put4_eq y0 y1 y2 y3 k hk h1
  have hp := put4_spec hy.1 hk h1 hz
  refine ⟨z0, z1, z2, z3, hz, hp.1, fun b h0 hb => ?_⟩
  rw [hp.2 b h0 hb, hy.2 b h0 hb]
  by_cases e : b = k
  · subst e; simp [hm]; omega
  · have e1 : decide (b = k) = false := by simpa using e
    have e2 : decide (b < k + 1) = decide (b < k) := decide_eq_decide.2 ⟨fun h => by omega, fun h => by omega⟩
    rw [e1, e2, Bool.or_false]
theorem words_skip {y0 y1 y2 y3 k : Int} {m : List Int} (hy : Wf4 y0 y1 y2 y3 ∧ ∀ b, 0 ≤ b → b < 256 → inSet [y0, y1, y2, y3] b = (decide (b < k) && (rd m b == 1))) (hm : (rd m k == 1) = false) :
    Wf4 y0 y1 y2 y3 ∧ ∀ b, 0 ≤ b → b < 256 → inSet [y0, y1, y2, y3] b = (decide (b < k + 1) && (rd m b == 1)) := by
  refine ⟨hy.1, fun b h0 hb => ?_⟩
  rw [hy.2 b h0 hb]
  by_cases e : b = k
  · subst e; simp [hm]
  · have e2 : decide (b < k + 1) = decide (b < k) := decide_eq_decide.2 ⟨fun h => by omega, fun h => by omega⟩
    rw [e2]
set_option maxRecDepth 100000 in
set_option maxHeartbeats 4000000 in
theorem rwords_any (m : List Int) (w : World) (hm : m.length = 256) :
    Calls Try.prog 31 #[.agg (nums .u8 m).toArray] w (Set4Such (fun y0 y1 y2 y3 => Wf4 y0 y1 y2 y3 ∧ ∀ b, 0 ≤ b → b < 256 → inSet [y0, y1, y2, y3] b = (rd m b == 1)) w) := by
  go_enter Try.func31, Try.ntmps31
  go_wp2
  go_loopw [4] (fun v wr => ∃ (k y0 y1 y2 y3 : Int), v = .int .i64 k ∧ 0 ≤ k ∧ k ≤ 256 ∧ Hid (Wf4 y0 y1 y2 y3 ∧ ∀ b, 0 ≤ b → b < 256 → inSet [y0, y1, y2, y3] b = (decide (b < k) && (rd m b == 1))) ∧ Below w.heap.size w wr ∧ Blk wr w.heap.size 26 (nums .u8 m).toArray ∧ Blk wr (w.heap.size + 1) 23 (arr4 0 0 0 0) ∧ Blk wr (w.heap.size + 1 + 1) 23 (arr4 y0 y1 y2 y3)) (fun v _ => 256 - (intOf v).toNat)
  case atStart =>
    refine ⟨0, 0, 0, 0, 0, rfl, by omega, by omega, ⟨wf_zero, fun b h0 h1 => by rw [inSet_zero b h0 h1, decide_eq_false (by omega), Bool.false_and]⟩, below_alloc (below_alloc (below_one _ _) _) _, ((Blk.new _ _ _).alloc _).alloc _, (Blk.at_new (by simp)).alloc _, Blk.at_new (by simp)⟩
  case round =>
    obtain ⟨k, y0, y1, y2, y3, rfl, hk0, hk1, hy, hbel, b0, b1, b2⟩ := hrel
    by_cases hlt : k < 256
    · have c0 := blk_num_at b0 k hk0 (by omega)
      cases hp : (rd m k == 1)
      · go_wp2
        exact ⟨⟨k + 1, y0, y1, y2, y3, rfl, by omega, by omega, words_skip hy.out hp, hbel, b0, b1, b2⟩, by simp [intOf]; omega⟩
      · have c1 := blk4_at b2 (k / 64) (by omega) (by omega)
        have c2 := b2.frozen (k / 64).toNat
        have c3 := shl_fact k hk0
        go_wp2
        obtain ⟨z0, z1, z2, z3, hz, hzz⟩ := words_step hk0 hy.out hlt hp
        have hnew := blk_num_set (l := [y0, y1, y2, y3]) b2 (k / 64).toNat (bits .or .u64 (rd [y0, y1, y2, y3] (k / 64)) (2 ^ (k % 64).toNat))
        rw [show ([y0, y1, y2, y3] : List Int).set (k / 64).toNat (bits .or .u64 (rd [y0, y1, y2, y3] (k / 64)) (2 ^ (k % 64).toNat)) = [z0, z1, z2, z3] from hz] at hnew
        exact ⟨⟨k + 1, z0, z1, z2, z3, rfl, by omega, by omega, hzz, below_set hbel (by simp <;> omega) _, b0.far (by simp <;> omega) _, b1.far (by simp <;> omega) _, hnew⟩, by simp [intOf]; omega⟩
    · obtain rfl : k = 256 := by omega
      go_wp2_with (first | (refine wp_load_blk rfl 23 _ rfl (w.heap.size + 1 + 1) rfl 23 _ b2 _ Try.underlying23 rfl 4 size_4 rfl ?_) | (refine wp_store_blk rfl 23 _ _ rfl rfl (w.heap.size + 1) _ rfl rfl 23 _ b1 4 size_4 rfl rfl (nums_one .u64 [y0, y1, y2, y3]) ?_; intro w3 hb3 hg3))
      refine bodyPost_ret (ret_blk (ty := 23) rfl _ _ _ _ _ _ rfl hb3 Try.underlying23 rfl 4 size_4 rfl) rfl ?_
      exact ⟨y0, y1, y2, y3, ⟨hy.out.1, fun b h0 h1 => by rw [hy.out.2 b h0 h1, decide_eq_true (by omega), Bool.true_and]⟩, rfl, below_grown hbel hg3 (by omega)⟩
/-- byte b stands among the first k of a list -/
def inList (xs : List Int) (b : Int) : Nat → Bool
  | 0 => false
  | k + 1 => inList xs b k || decide (rd xs k = b)
theorem inList_zero (xs : List Int) (b : Int) : inList xs b 0 = false := by simp only [inList]
theorem inList_step (xs : List Int) (b k : Int) (h : 0 ≤ k) : inList xs b (k + 1).toNat = (inList xs b k.toNat || decide (rd xs k = b)) := by
  obtain ⟨n, rfl⟩ := Int.eq_ofNat_of_zero_le h
  show inList xs b (n + 1) = _
  rw [inList]; rfl
theorem inRange_step {a b k : Int} (h : a ≤ k) : (decide (a ≤ b) && decide (b < k + 1)) = ((decide (a ≤ b) && decide (b < k)) || decide (b = k)) := by
  by_cases e : b = k
  · subst e; simp; omega
  · have e2 : decide (b < k + 1) = decide (b < k) := decide_eq_decide.2 ⟨fun h => by omega, fun h => by omega⟩
    rw [e2, decide_eq_false e, Bool.or_false]
theorem inRange_end {a b k z : Int} (h : ¬ k ≤ z) (hk : k = a ∨ k ≤ z + 1) : (decide (a ≤ b) && decide (b < k)) = (decide (a ≤ b) && decide (b ≤ z)) := by
  by_cases g : a ≤ b
  · rw [show decide (b < k) = decide (b ≤ z) from decide_eq_decide.2 ⟨fun h => by omega, fun h => by omega⟩]
  · rw [decide_eq_false g, Bool.false_and, Bool.false_and]
set_option maxRecDepth 100000 in
set_option maxHeartbeats 8000000 in
theorem make_any (a z : Int) (ad : Addr) (c : Nat) (xs : List Int) (w : World) (ha : 0 ≤ a) (ha1 : a ≤ 255) (hz0 : 0 ≤ z) (hz1 : z ≤ 255) (hr : ∀ k : Int, 0 ≤ k → k < xs.length → 0 ≤ rd xs k ∧ rd xs k ≤ 255) (hl : xs.length ≤ 9223372036854775807)
    (hc : ∀ k : Int, 0 ≤ k → k < xs.length → w.cell? (ad.add k.toNat) = some (.int .u8 (rd xs k))) :
    Calls Try.prog 29 #[.int .u8 a, .int .u8 z, .slice (some ad) xs.length c] w (Set4Such (fun y0 y1 y2 y3 => Wf4 y0 y1 y2 y3 ∧ ∀ b, 0 ≤ b → b < 256 → inSet [y0, y1, y2, y3] b = ((decide (a ≤ b) && decide (b ≤ z)) || inList xs b xs.length)) w) := by
  have Hc := Lib.hid hc
  have Hr := Lib.hid hr
  clear hc hr
  go_enter Try.func29, Try.ntmps29
  go_wp2
  go_loopw [8] (fun v wr => ∃ (k y0 y1 y2 y3 : Int), v = .int .i64 k ∧ a ≤ k ∧ k ≤ 256 ∧ (k = a ∨ k ≤ z + 1) ∧ Hid (Wf4 y0 y1 y2 y3 ∧ ∀ b, 0 ≤ b → b < 256 → inSet [y0, y1, y2, y3] b = (decide (a ≤ b) && decide (b < k))) ∧ Below w.heap.size w wr ∧ Blk wr w.heap.size 24 (arr4 0 0 0 0) ∧ Blk wr (w.heap.size + 1) 24 (arr4 y0 y1 y2 y3)) (fun v _ => 256 - (intOf v).toNat)
  case atStart => exact ⟨a, 0, 0, 0, 0, rfl, by omega, by omega, by omega, ⟨wf_zero, fun b h0 h1 => by rw [inSet_zero b h0 h1]; by_cases g : a ≤ b <;> simp [g]⟩, below_alloc (below_one _ _) _, (Blk.new _ _ _).alloc _, Blk.at_new (by simp)⟩
  case round =>
    obtain ⟨k, y0, y1, y2, y3, rfl, hk0, hk1, hk2, hy, hbel, b0, b1⟩ := hrel
    by_cases hlt : k ≤ z
    · go_wp2_with (first
        | (refine wp_load_blk rfl 24 _ rfl (w.heap.size + 1) rfl 24 _ b1 _ Try.underlying24 rfl 4 size_B rfl ?_)
        | (go_at_call 45; refine (put_any y0 y1 y2 y3 k _ hy.out.1 (by omega) (by omega)).mono ?_; rintro e w3 ⟨u0, u1, u2, u3, hu, rfl, hb3⟩; replace hbel := below_after hbel hb3; replace b0 := b0.after hb3; replace b1 := b1.after hb3; have Hu := Lib.hid hu; clear hu)
        | (refine wp_store_blk rfl 24 _ _ rfl rfl (w.heap.size + 1) _ rfl rfl 24 _ b1 4 size_B rfl rfl (nums_one .u64 [u0, u1, u2, u3]) ?_; intro w4 hb4 hg4))
      exact ⟨⟨k + 1, u0, u1, u2, u3, rfl, by omega, by omega, by omega, ⟨Hu.out.1, fun b h0 h1 => by rw [Hu.out.2 b h0 h1, hy.out.2 b h0 h1, inRange_step hk0]⟩, below_grown hbel hg4 (by omega), b0.grown hg4 (by simp), hb4⟩, by simp [intOf]; omega⟩
    · go_wp2
      replace hy := Lib.hid (And.intro hy.out.1 (fun (b : Int) (h0 : 0 ≤ b) (h1 : b < 256) => (hy.out.2 b h0 h1).trans (inRange_end (b := b) (z := z) (by omega) hk2)))
      go_loopw [25] (fun v wr => ∃ (k y0 y1 y2 y3 : Int), v = .int .i64 k ∧ 0 ≤ k ∧ k ≤ xs.length ∧ Hid (Wf4 y0 y1 y2 y3 ∧ ∀ b, 0 ≤ b → b < 256 → inSet [y0, y1, y2, y3] b = ((decide (a ≤ b) && decide (b ≤ z)) || inList xs b k.toNat)) ∧ Below w.heap.size w wr ∧ Blk wr w.heap.size 24 (arr4 0 0 0 0) ∧ Blk wr (w.heap.size + 1) 24 (arr4 y0 y1 y2 y3)) (fun v _ => xs.length - (intOf v).toNat)
      case atStart => exact ⟨0, y0, y1, y2, y3, rfl, by omega, by omega, ⟨hy.out.1, fun b h0 h1 => by rw [hy.out.2 b h0 h1, show (0 : Int).toNat = 0 from rfl, inList_zero, Bool.or_false]⟩, hbel, b0, b1⟩
      case round =>
        clear hy b0 b1 hbel hk0 hk1 hk2 hlt
        obtain ⟨j, v0, v1, v2, v3, rfl, hj0, hj1, hv, hbel, b0, b1⟩ := hrel
        by_cases hlj : j < xs.length
        · have c0 := pw_cell_below hbel (Hc.out j hj0 hlj)
          have hrj := Hr.out j hj0 hlj
          generalize hx : rd xs j = x at *
          have Hx := Lib.hid hx
          clear hx
          go_wp2_with (first
            | (refine wp_load_blk rfl 24 _ rfl (w.heap.size + 1) rfl 24 _ b1 _ Try.underlying24 rfl 4 size_B rfl ?_)
            | (go_at_call 45; refine (put_any v0 v1 v2 v3 x _ hv.out.1 hrj.1 (by omega)).mono ?_; rintro e w3 ⟨u0, u1, u2, u3, hu, rfl, hb3⟩; replace hbel := below_after hbel hb3; replace b0 := b0.after hb3; replace b1 := b1.after hb3; have Hu := Lib.hid hu; clear hu)
            | (refine wp_store_blk rfl 24 _ _ rfl rfl (w.heap.size + 1) _ rfl rfl 24 _ b1 4 size_B rfl rfl (nums_one .u64 [u0, u1, u2, u3]) ?_; intro w4 hb4 hg4))
          exact ⟨⟨j + 1, u0, u1, u2, u3, rfl, by omega, by omega, ⟨Hu.out.1, fun b h0 h1 => by rw [Hu.out.2 b h0 h1, hv.out.2 b h0 h1, inList_step xs b j hj0, Hx.out, Bool.or_assoc]; exact congrArg ((decide (a ≤ b) && decide (b ≤ z)) || ·) (congrArg (inList xs b j.toNat || ·) (decide_eq_decide.2 ⟨Eq.symm, Eq.symm⟩))⟩, below_grown hbel hg4 (by omega), b0.grown hg4 (by simp), hb4⟩, by simp [intOf]; omega⟩
        · obtain rfl : j = xs.length := by omega
          go_wp2_with (first | (refine wp_load_blk rfl 24 _ rfl (w.heap.size + 1) rfl 24 _ b1 _ Try.underlying24 rfl 4 size_B rfl ?_) | (refine wp_store_blk rfl 24 _ _ rfl rfl w.heap.size _ rfl rfl 24 _ b0 4 size_B rfl rfl (nums_one .u64 [v0, v1, v2, v3]) ?_; intro w3 hb3 hg3))
          refine bodyPost_ret (ret_blk (ty := 24) rfl _ _ _ _ _ _ rfl hb3 Try.underlying24 rfl 4 size_B rfl) rfl ?_
          exact ⟨v0, v1, v2, v3, hv.out, rfl, below_grown hbel hg3 (by omega)⟩
end Go.Proofs.Ytjiapggmiddpdaa
