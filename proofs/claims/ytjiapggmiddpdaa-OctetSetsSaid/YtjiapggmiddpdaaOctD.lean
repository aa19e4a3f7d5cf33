/- Package octet: sets made of sets: Cross, Minus, Union, put, Make, with, Members. -/
import Derived.Test.YtjiapggmiddpdaaOctW
import Derived.Test.YtjiapggmiddpdaaBase2
import Derived.Test.YtjiapggmiddpdaaBase3
set_option linter.unusedVariables false
set_option linter.unusedSimpArgs false
namespace Go.Proofs.Ytjiapggmiddpdaa
open Go.RowKit Go.Proofs.YtjiapggmiddpdaaW.PrintWords Go.Proofs.YtjiapggmiddpdaaW.PrintLast
theorem index4 (x0 x1 x2 x3 : Int) : (∀ w : World, (Instr.index 24 (set4 x0 x1 x2 x3) (.int .i64 0)).run Try.prog w = .ok (.int .u64 x0) w) ∧ (∀ w : World, (Instr.index 24 (set4 x0 x1 x2 x3) (.int .i64 1)).run Try.prog w = .ok (.int .u64 x1) w) ∧
    (∀ w : World, (Instr.index 24 (set4 x0 x1 x2 x3) (.int .i64 2)).run Try.prog w = .ok (.int .u64 x2) w) ∧ (∀ w : World, (Instr.index 24 (set4 x0 x1 x2 x3) (.int .i64 3)).run Try.prog w = .ok (.int .u64 x3) w) :=
  ⟨fun _ => by kernel_rfl, fun _ => by kernel_rfl, fun _ => by kernel_rfl, fun _ => by kernel_rfl⟩
set_option maxRecDepth 100000 in
set_option maxHeartbeats 2000000 in
theorem Cross_any (x0 x1 x2 x3 y0 y1 y2 y3 : Int) (w : World) : Calls Try.prog 24 #[set4 x0 x1 x2 x3, set4 y0 y1 y2 y3] w fun e w' => e = .returned (set4 (bits .and .u64 x0 y0) (bits .and .u64 x1 y1) (bits .and .u64 x2 y2) (bits .and .u64 x3 y3)) ∧ Below w.heap.size w w' := by
  obtain ⟨i0, i1, i2, i3⟩ := index4 y0 y1 y2 y3
  go_enter Try.func24, Try.ntmps24
  go_wp2
  refine wp_loop_rounds 5 ?_
  iterate 5
    rw [rounds_succ]
    go_wp2
  exact bodyPost_ret (v := set4 _ _ _ _) (by simp [results, Try.results24, go_sem]) rfl ⟨rfl, below_alloc (below_alloc (below_one _ _) _) _⟩
set_option maxRecDepth 100000 in
set_option maxHeartbeats 2000000 in
theorem Minus_any (x0 x1 x2 x3 y0 y1 y2 y3 : Int) (w : World) : Calls Try.prog 25 #[set4 x0 x1 x2 x3, set4 y0 y1 y2 y3] w fun e w' => e = .returned (set4 (bits .andNot .u64 x0 y0) (bits .andNot .u64 x1 y1) (bits .andNot .u64 x2 y2) (bits .andNot .u64 x3 y3)) ∧ Below w.heap.size w w' := by
  obtain ⟨i0, i1, i2, i3⟩ := index4 y0 y1 y2 y3
  go_enter Try.func25, Try.ntmps25
  go_wp2
  refine wp_loop_rounds 5 ?_
  iterate 5
    rw [rounds_succ]
    go_wp2
  exact bodyPost_ret (v := set4 _ _ _ _) (by simp [results, Try.results25, go_sem]) rfl ⟨rfl, below_alloc (below_alloc (below_one _ _) _) _⟩
set_option maxRecDepth 100000 in
set_option maxHeartbeats 2000000 in
theorem put_any (x0 x1 x2 x3 c : Int) (w : World) (hx : Wf4 x0 x1 x2 x3) (h0 : 0 ≤ c) (h1 : c < 256) :
    Calls Try.prog 45 #[set4 x0 x1 x2 x3, .int .u8 c] w (Set4Such (fun y0 y1 y2 y3 => Wf4 y0 y1 y2 y3 ∧ ∀ b, 0 ≤ b → b < 256 → inSet [y0, y1, y2, y3] b = (inSet [x0, x1, x2, x3] b || decide (b = c))) w) := by
  obtain ⟨y0, y1, y2, y3, hy⟩ := put4_eq x0 x1 x2 x3 c h0 h1
  have hp := put4_spec hx h0 h1 hy
  have hc : c / 64 = 0 ∨ c / 64 = 1 ∨ c / 64 = 2 ∨ c / 64 = 3 := by omega
  have hwr : IntKind.u64.wrap (2 ^ (c % 64).toNat) = 2 ^ (c % 64).toNat := by
    have hu := pow_U64 (c % 64).toNat (by omega)
    rw [IntKind.wrap_u64]
    exact Int.emod_eq_of_lt hu.1 hu.2
  rcases hc with e | e | e | e
  all_goals
    unfold put4 at hy
    rw [e] at hy
    simp [rd] at hy
    obtain ⟨rfl, rfl, rfl, rfl⟩ := hy
    have Hp := Lib.hid hp
    clear hp
    go_enter Try.func45, Try.ntmps45
    go_wp2
    exact bodyPost_ret (v := set4 _ _ _ _) (by simp [results, Try.results45, go_sem]) rfl ⟨_, _, _, _, Hp.out, rfl, below_alloc (below_one _ _) _⟩
def allB : List Int := (List.range 256).map fun (i : Nat) => (i : Int)
/-- the members below k, rising -/
def memK (p : Int → Bool) : Nat → List Int
  | 0 => []
  | k + 1 => if p k then memK p k ++ [(k : Int)] else memK p k
theorem memK_zero (p : Int → Bool) : memK p 0 = [] := by simp only [memK]
theorem memK_len (p : Int → Bool) : ∀ k, (memK p k).length ≤ k
  | 0 => by simp [memK]
  | k + 1 => by
    have := memK_len p k
    rw [memK]
    split <;> simp <;> omega
theorem memK_mem (p : Int → Bool) : ∀ k x, x ∈ memK p k → 0 ≤ x ∧ x < k ∧ p x = true
  | 0, x, h => by simp [memK] at h
  | k + 1, x, h => by
    rw [memK] at h
    split at h
    · rcases List.mem_append.1 h with h | h
      · have := memK_mem p k x h; exact ⟨this.1, by omega, this.2.2⟩
      · simp at h; subst h; exact ⟨by omega, by omega, by assumption⟩
    · have := memK_mem p k x h; exact ⟨this.1, by omega, this.2.2⟩
theorem memK_hit (p : Int → Bool) (k : Int) (h : 0 ≤ k) (hp : p k = true) : memK p (k + 1).toNat = memK p k.toNat ++ [k] := by
  obtain ⟨n, rfl⟩ := Int.eq_ofNat_of_zero_le h
  show memK p (n + 1) = _
  rw [memK, if_pos hp]; rfl
theorem memK_miss (p : Int → Bool) (k : Int) (h : 0 ≤ k) (hp : p k = false) : memK p (k + 1).toNat = memK p k.toNat := by
  obtain ⟨n, rfl⟩ := Int.eq_ofNat_of_zero_le h
  show memK p (n + 1) = _
  rw [memK, if_neg (by rw [hp]; simp)]; rfl
set_option maxRecDepth 100000 in
set_option maxHeartbeats 2000000 in
theorem members_any (x0 x1 x2 x3 : Int) (w : World) : Calls Try.prog 28 #[set4 x0 x1 x2 x3] w fun e w' => e = .returned (.string (strOfNums (memK (inSet [x0, x1, x2, x3]) 256))) ∧ Below w.heap.size w w' := by
  go_enter Try.func28, Try.ntmps28
  go_wp2
  go_loopw [3, 5] (fun u v wr => ∃ (k : Int) (xs : List Int), 0 ≤ k ∧ k ≤ 256 ∧ v = .int .i64 k ∧ Hid (xs = memK (inSet [x0, x1, x2, x3]) k.toNat) ∧ xs.length ≤ 256 ∧ Below w.heap.size w wr ∧ Blk wr w.heap.size 24 (arr4 x0 x1 x2 x3) ∧ wr.ownsRow w.heap.size 5 1 u xs.length (nums .u8 xs)) (fun _ v _ => 256 - (intOf v).toNat)
  case atStart => exact ⟨0, [], by omega, by omega, rfl, (memK_zero _).symm, by simp, below_one _ _, Blk.new _ _ _, own_nil _ _ _ _⟩
  case round =>
    obtain ⟨k, xs, hk0, hk1, rfl, hx, hxl, hbel, hblk, ho⟩ := hrel
    by_cases hlt : k < 256
    · obtain ⟨c0, c1, c2, c3⟩ := hblk.cells4
      have hlen : xs.length ≤ k.toNat := by have := memK_len (inSet [x0, x1, x2, x3]) k.toNat; rw [← hx.out] at this; exact this
      go_wp2_with (first
        | (go_at_call 27; refine (has_any _ _ _ _ _ _ (by omega) (by omega)).mono ?_; rintro e w3 ⟨rfl, hb3⟩; replace hbel := below_after hbel hb3; have hblk2 := hblk.after hb3; replace ho := pw_own_below ho hb3)
        | (at_builtin; refine print_append_num (w0 := w) (W := w3) w.heap.size rfl (.tmp 12) (.tmp 15) 44 5 .u8 1 rfl Try.underlying44 info_u8 (by decide) _ xs _ rfl rfl ho hbel hbel.size (by omega) ?_; intro v1 w1 ho1 hb1 hg1 hat1))
      · have hp : inSet [x0, x1, x2, x3] k = true := by assumption
        exact ⟨⟨k + 1, xs ++ [k], by omega, by omega, rfl, (show xs ++ [k] = memK (inSet [x0, x1, x2, x3]) (k + 1).toNat from by rw [memK_hit _ k hk0 hp, ← hx.out]), by simp; omega, hb1, hblk2.grown hg1 (own_ne ho hblk2 (by decide)), ho1⟩, by simp [intOf]; omega⟩
      · have hp : inSet [x0, x1, x2, x3] k = false := by assumption
        exact ⟨⟨k + 1, xs, by omega, by omega, rfl, (show xs = memK (inSet [x0, x1, x2, x3]) (k + 1).toNat from by rw [memK_miss _ k hk0 hp, ← hx.out]), hxl, hbel, hblk2, ho⟩, by simp [intOf]; omega⟩
    · obtain rfl : k = 256 := by omega
      have ht := own_string (P := Try.prog) Try.underlying44 Try.underlying5 Try.underlying9 ho
      rw [hx.out] at ht
      go_wp2
      go_ret
      exact ⟨rfl, hbel⟩
/-- the i-th set of a flat list of words -/
def quadIn (xs : List Int) (i : Nat) (b : Int) : Bool := inSet [xs.getD (4 * i) 0, xs.getD (4 * i + 1) 0, xs.getD (4 * i + 2) 0, xs.getD (4 * i + 3) 0] b
/-- is byte b in one of the first n sets -/
def anyK (xs : List Int) (b : Int) : Nat → Bool
  | 0 => false
  | n + 1 => anyK xs b n || quadIn xs n b
theorem anyK_zero (xs : List Int) (b : Int) : anyK xs b 0 = false := by simp only [anyK]
theorem anyK_succ (xs : List Int) (b : Int) (k : Int) (h : 0 ≤ k) : anyK xs b (k + 1).toNat = (anyK xs b k.toNat || quadIn xs k.toNat b) := by
  obtain ⟨n, rfl⟩ := Int.eq_ofNat_of_zero_le h
  show anyK xs b (n + 1) = _
  rw [anyK]; rfl
theorem quad_at (xs : List Int) (k : Nat) (hx : ∀ x ∈ xs, U64 x) : Wf4 (xs.getD (4 * k) 0) (xs.getD (4 * k + 1) 0) (xs.getD (4 * k + 2) 0) (xs.getD (4 * k + 3) 0) ∧
    ∀ b, quadIn xs k b = inSet [xs.getD (4 * k) 0, xs.getD (4 * k + 1) 0, xs.getD (4 * k + 2) 0, xs.getD (4 * k + 3) 0] b := by
  have h : ∀ j, U64 (xs.getD j 0) := fun j => by
    rw [List.getD_eq_getElem?_getD]
    rcases Nat.lt_or_ge j xs.length with g | g
    · rw [List.getElem?_eq_getElem g]; exact hx _ (List.getElem_mem g)
    · rw [List.getElem?_eq_none g]; exact ⟨by simp, by simp⟩
  exact ⟨⟨h _, h _, h _, h _⟩, fun b => rfl⟩
theorem size_B : (Try.prog.info? 24).map (·.size) = some 4 := by kernel_rfl
theorem Blk.four {w : World} {g : Nat} {t : TypeId} {y0 y1 y2 y3 : Int} (h : Blk w g t (arr4 y0 y1 y2 y3)) (v0 v1 v2 v3 : Int) :
    Blk ((((w.setCell ⟨g, 0, none⟩ (.int .u64 v0)).setCell ⟨g, 1, none⟩ (.int .u64 v1)).setCell ⟨g, 2, none⟩ (.int .u64 v2)).setCell ⟨g, 3, none⟩ (.int .u64 v3)) g t (arr4 v0 v1 v2 v3) :=
  (((h.set_ 0 (.int .u64 v0)).set_ 1 (.int .u64 v1)).set_ 2 (.int .u64 v2)).set_ 3 (.int .u64 v3)
theorem union_step {xs : List Int} {k : Int} {y0 y1 y2 y3 z0 z1 z2 z3 : Int} (hk : 0 ≤ k) (hy : Wf4 y0 y1 y2 y3) (hs : ∀ b, 0 ≤ b → b < 256 → inSet [y0, y1, y2, y3] b = anyK xs b k.toNat) (hz : Wf4 z0 z1 z2 z3) (hq : ∀ b, quadIn xs k.toNat b = inSet [z0, z1, z2, z3] b) :
    Wf4 (bits .or .u64 y0 z0) (bits .or .u64 y1 z1) (bits .or .u64 y2 z2) (bits .or .u64 y3 z3) ∧ ∀ b, 0 ≤ b → b < 256 → inSet [bits .or .u64 y0 z0, bits .or .u64 y1 z1, bits .or .u64 y2 z2, bits .or .u64 y3 z3] b = anyK xs b (k + 1).toNat :=
  ⟨⟨hy.1.or hz.1, hy.2.1.or hz.2.1, hy.2.2.1.or hz.2.2.1, hy.2.2.2.or hz.2.2.2⟩, fun b h0 h1 => by
    rw [inSet_op (f := fun x y => bits .or .u64 x y) (g := fun a b => a || b) (fun hx hy => hx.or hy) (fun hx hy j _ => inW_or hx hy j) hy hz b h0 h1, hs b h0 h1, anyK_succ _ _ _ hk, hq b]⟩
set_option maxRecDepth 100000 in
set_option maxHeartbeats 4000000 in
theorem union_any (g n c : Nat) (xs : List Int) (w : World) (hn : xs.length = 4 * n) (hc : ∀ j, j < xs.length → w.cell? ⟨g, j, none⟩ = some (.int .u64 (xs.getD j 0))) (hx : ∀ x ∈ xs, U64 x) (hmax : n ≤ 1000000) :
    Calls Try.prog 26 #[.slice (some ⟨g, 0, none⟩) n c] w (Set4Such (fun y0 y1 y2 y3 => Wf4 y0 y1 y2 y3 ∧ ∀ b, 0 ≤ b → b < 256 → inSet [y0, y1, y2, y3] b = anyK xs b n) w) := by
  go_enter Try.func26, Try.ntmps26
  go_wp2
  go_loopw [10] (fun v wr => ∃ (k : Int) (y0 y1 y2 y3 : Int), 0 ≤ k ∧ k ≤ n ∧ v = .int .i64 k ∧ Hid (Wf4 y0 y1 y2 y3 ∧ ∀ b, 0 ≤ b → b < 256 → inSet [y0, y1, y2, y3] b = anyK xs b k.toNat) ∧ Below w.heap.size w wr ∧ Blk wr w.heap.size 24 (arr4 0 0 0 0) ∧ Blk wr (w.heap.size + 1) 24 (arr4 y0 y1 y2 y3)) (fun v _ => n - (intOf v).toNat)
  case atStart =>
    have z : U64 0 := ⟨by omega, by omega⟩
    exact ⟨0, 0, 0, 0, 0, by omega, by omega, rfl, ⟨⟨z, z, z, z⟩, fun b h0 h1 => by rw [inSet_zero b h0 h1]; exact (anyK_zero xs b).symm⟩, below_alloc (below_one _ _) _, (Blk.new _ _ _).alloc _, Blk.at_new (by simp)⟩
  case round =>
    obtain ⟨k, y0, y1, y2, y3, hk0, hk1, rfl, hy, hbel, hb0, hb1⟩ := hrel
    by_cases hlt : k < n
    · have e0 := pw_cell_below hbel (hc (k.toNat * 4) (by omega))
      have e1 := pw_cell_below hbel (hc (k.toNat * 4 + 1) (by omega))
      have e2 := pw_cell_below hbel (hc (k.toNat * 4 + 2) (by omega))
      have e3 := pw_cell_below hbel (hc (k.toNat * 4 + 3) (by omega))
      have hz := quad_at xs k.toNat hx
      rw [Nat.mul_comm 4 k.toNat] at hz
      generalize xs.getD (k.toNat * 4) 0 = z0 at *
      generalize xs.getD (k.toNat * 4 + 1) 0 = z1 at *
      generalize xs.getD (k.toNat * 4 + 2) 0 = z2 at *
      generalize xs.getD (k.toNat * 4 + 3) 0 = z3 at *
      have Hz := Lib.hid hz
      have Hc := Lib.hid hc
      have Hx := Lib.hid hx
      clear hz hc hx
      obtain ⟨i0, i1, i2, i3⟩ := index4 z0 z1 z2 z3
      go_wp2
      have hb0' : Blk (wr.alloc (.cells (arr4 z0 z1 z2 z3) 24)) w.heap.size 24 (arr4 0 0 0 0) := hb0.alloc _
      have hb1' : Blk (wr.alloc (.cells (arr4 z0 z1 z2 z3) 24)) (w.heap.size + 1) 24 (arr4 y0 y1 y2 y3) := hb1.alloc _
      have hbel' : Below w.heap.size w (wr.alloc (.cells (arr4 z0 z1 z2 z3) 24)) := below_alloc hbel _
      clear e0 e1 e2 e3 hbel hb0 hb1
      generalize wr.alloc (.cells (arr4 z0 z1 z2 z3) 24) = w2 at *
      obtain ⟨d0, d1, d2, d3⟩ := hb1'.cells4
      have f0 := hb1'.frozen 0
      have f1 := hb1'.frozen 1
      have f2 := hb1'.frozen 2
      have f3 := hb1'.frozen 3
      refine wp_loop_rounds 5 ?_
      iterate 5
        rw [rounds_succ]
        go_wp2
      have hs := hy.out
      refine ⟨⟨k + 1, _, _, _, _, by omega, by omega, rfl, union_step hk0 hs.1 hs.2 Hz.out.1 Hz.out.2, ?_, ?_, hb1'.four _ _ _ _⟩, by simp [intOf]; omega⟩
      · exact below_set (below_set (below_set (below_set hbel' (by simp) _) (by simp) _) (by simp) _) (by simp) _
      · exact (((hb0'.far (by simp) _).far (by simp) _).far (by simp) _).far (by simp) _
    · obtain rfl : k = n := by omega
      go_wp2_with (first | (refine wp_load_blk rfl 24 _ rfl (w.heap.size + 1) rfl 24 _ hb1 _ Try.underlying24 rfl 4 size_B rfl ?_) | (refine wp_store_blk rfl 24 _ _ rfl rfl w.heap.size _ rfl rfl 24 _ hb0 4 size_B rfl rfl (nums_one .u64 [y0, y1, y2, y3]) ?_; intro w3 hb3 hg3))
      refine bodyPost_ret (ret_blk (ty := 24) rfl _ _ _ _ _ _ rfl hb3 Try.underlying24 rfl 4 size_B rfl) rfl ?_
      exact ⟨y0, y1, y2, y3, hy.out, rfl, below_grown hbel hg3 (Nat.le_refl _)⟩
set_option maxHeartbeats 1000000 in
theorem union_nil (w : World) : Calls Try.prog 26 #[.slice none 0 0] w fun e w' => e = .returned (set4 0 0 0 0) ∧ Below w.heap.size w w' := by
  go_enter Try.func26, Try.ntmps26
  go_wp2
  refine wp_loop_rounds 1 ?_
  rw [rounds_succ]
  go_wp2
  exact bodyPost_ret (v := set4 _ _ _ _) (by simp [results, Try.results26, go_sem]) rfl ⟨rfl, below_alloc (below_one _ _) _⟩
end Go.Proofs.Ytjiapggmiddpdaa
