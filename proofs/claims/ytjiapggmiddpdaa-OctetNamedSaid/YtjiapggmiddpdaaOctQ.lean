/- The named sets: the walk of octet.Named. (Written by wip/gen/octp.py.) -/
import Derived.Test.YtjiapggmiddpdaaOctP
set_option linter.unusedVariables false
set_option linter.unusedSimpArgs false
namespace Go.Proofs.Ytjiapggmiddpdaa
open Go.RowKit Go.Proofs.YtjiapggmiddpdaaW.PrintWords Go.Proofs.YtjiapggmiddpdaaW.PrintLast
theorem wp_lits2 {ops : Array Oper} {oi : Oper} {a : Act} {w : World} {Q : Exit → Act → World → Prop} {rest : List Oper} {N : Option Tmp} (hgd : oi.guard = none) (hN : oi.dst = N) (u v : Operand) (ho : oi.op = .buildSlice 72 2 #[(0, u), (1, v)]) {x0 x1 x2 x3 y0 y1 y2 y3 : Int} (hu : a.eval u = set4 x0 x1 x2 x3) (hv : a.eval v = set4 y0 y1 y2 y3)
    (h : ∀ (g : Nat) (w1 : World), Blk w1 g 24 (nums .u64 [x0, x1, x2, x3, y0, y1, y2, y3]).toArray → Below w.heap.size w w1 → wpList Try.prog ops Q rest (a.put N (.slice (some ⟨g, 0, none⟩) 2 2)) w1) : wpList Try.prog ops Q (oi :: rest) a w := by
  obtain ⟨ie, h1, h2, h3⟩ := info_B
  subst hN
  refine wpList_buildSlice hgd 72 24 2 _ ho _ ie _ Try.underlying72 h1 h3 (by rw [h2]; omega) (by rw [h2]; omega) (by
    rw [h2]; simp only [List.map_toArray, List.map_cons, List.map_nil, hu, hv]; exact fill2 ..) (h _ _ (Blk.new _ _ _) (below_one _ _))
theorem info_u8b : (Try.prog.info? 5).map (fun i => (i.size, i.zero)) = some (1, some (.int .u8 0)) := by kernel_rfl
theorem fillu2 (x y : Int) : Instr.fill (fun i => some (i * 1, 1)) ((Array.range (2 * 1)).map ((Value.int .u8 0).cells[· % (Value.int .u8 0).cells.size]!)) [(0, .int .u8 x), (1, .int .u8 y)] = some (#[.int .u8 x, .int .u8 y] : Array Value) := by kernel_rfl
theorem litu2_ {ops : Array Oper} {oi : Oper} {a : Act} {w : World} {K : Act → World → Prop} {Q : Exit → Act → World → Prop} {N : Option Tmp} (hw : Region.wanted oi (yielded ops a.tmps) = true) (hN : oi.dst = N) (x y : Int) (ho : oi.op = .buildSlice 44 2 #[(0, .const (.int .u8 x)), (1, .const (.int .u8 y))])
    (h : ∀ (g : Nat) (w1 : World), Blk w1 g 5 (nums .u8 [x, y]).toArray → Below w.heap.size w w1 → K (a.put N (.slice (some ⟨g, 0, none⟩) 2 2)) w1) : if Region.wanted oi (yielded ops a.tmps) = true then Oper.wp Try.prog oi a w K Q else K (a.put N undef) w := by
  obtain ⟨ie, h1, h2⟩ := Option.map_eq_some_iff.1 info_u8b
  injection h2 with h3 h4
  refine lits_ hw hN 44 5 2 _ ho _ ie _ Try.underlying44 h1 h4 (by rw [h3]; omega) (by rw [h3]; omega) (by
    rw [h3]; simp only [List.map_toArray, List.map_cons, List.map_nil, Act.eval]; exact fillu2 ..) (fun g w1 _ hb hl => h g w1 hb hl)
set_option maxRecDepth 100000 in
set_option maxHeartbeats 20000000 in
theorem named_any (n : Int) (w : World) : Calls Try.prog 32 #[.int .i64 n] w fun e w' => e = .returned (.tuple #[set4 (rd (nW n) 0) (rd (nW n) 1) (rd (nW n) 2) (rd (nW n) 3), .int .i64 (nE n)]) ∧ Below w.heap.size w w' := by
  go_enter Try.func32, Try.ntmps32
  go_upto_region 1 with (fail)
  have b2 : Blk (w.alloc (.cells (arr4 0 0 0 0) 24)) w.heap.size 24 (arr4 0 0 0 0) := Blk.new _ _ _
  have hbel : Below w.heap.size w (w.alloc (.cells (arr4 0 0 0 0) 24)) := below_one _ _
  generalize w.alloc (.cells (arr4 0 0 0 0) 24) = w0 at *
  go_upto_region 2 with (first | (go_at_call 29; with_reducible refine (make_lo31 _).mono ?_; rintro e w1 ⟨rfl, hbc⟩; replace b2 := b2.after hbc; replace hbel := below_after hbel hbc; clear hbc) | (go_at_call 29; with_reducible refine (make_hi _).mono ?_; rintro e w2 ⟨rfl, hbc⟩; replace b2 := b2.after hbc; replace hbel := below_after hbel hbc; clear hbc) | (refine wp_lits2 rfl rfl _ _ rfl rfl rfl ?_; intro gL wL hbL hbc; replace b2 := b2.after hbc; replace hbel := below_after hbel hbc; clear hbc) | (go_at_call 26; refine (union_control hbL).mono ?_; rintro e w3 ⟨rfl, hbc⟩; clear hbL; replace b2 := b2.after hbc; replace hbel := below_after hbel hbc; clear hbc) | (refine wp_store_blk rfl 24 _ _ rfl rfl w3.heap.size (arr4 4294967295 9223372036854775808 18446744073709551615 18446744073709551615) rfl rfl 24 _ (Blk.new _ _ _) 4 size_B rfl rfl (nums_one .u64 [4294967295, 9223372036854775808, 18446744073709551615, 18446744073709551615]) ?_; intro wS b4 kS))
  have m2 := b2.lt
  have m0 := hbel.size
  replace b2 := (b2.alloc _).grown kS (by simp; omega)
  replace hbel := below_grown (below_alloc hbel _) kS (by omega)
  clear kS m2 m0
  generalize w3.heap.size = P4 at *
  go_upto_region 3 with (first | (refine wp_load_blk rfl 24 _ rfl P4 rfl 24 _ b4 _ Try.underlying24 rfl 4 size_B rfl ?_) | (go_at_call 48; with_reducible refine (with_query _).mono ?_; rintro e w3 ⟨rfl, hbc⟩; replace b2 := b2.after hbc; replace b4 := b4.after hbc; replace hbel := below_after hbel hbc; clear hbc) | (refine wp_store_blk rfl 24 _ _ rfl rfl w3.heap.size (arr4 5764607583163777023 9223372036854775808 18446744073709551615 18446744073709551615) rfl rfl 24 _ (Blk.new _ _ _) 4 size_B rfl rfl (nums_one .u64 [5764607583163777023, 9223372036854775808, 18446744073709551615, 18446744073709551615]) ?_; intro wS b5 kS))
  have m2 := b2.lt
  have m4 := b4.lt
  have m0 := hbel.size
  replace b2 := (b2.alloc _).grown kS (by simp; omega)
  replace b4 := (b4.alloc _).grown kS (by simp; omega)
  replace hbel := below_grown (below_alloc hbel _) kS (by omega)
  clear kS m2 m4 m0
  generalize w3.heap.size = P5 at *
  go_upto_region 4 with (first | (refine wp_load_blk rfl 24 _ rfl P5 rfl 24 _ b5 _ Try.underlying24 rfl 4 size_B rfl ?_) | (go_at_call 48; with_reducible refine (with_path _).mono ?_; rintro e w3 ⟨rfl, hbc⟩; replace b2 := b2.after hbc; replace b4 := b4.after hbc; replace b5 := b5.after hbc; replace hbel := below_after hbel hbc; clear hbc) | (refine wp_store_blk rfl 24 _ _ rfl rfl w3.heap.size (arr4 14987979620018552831 12105675803740602368 18446744073709551615 18446744073709551615) rfl rfl 24 _ (Blk.new _ _ _) 4 size_B rfl rfl (nums_one .u64 [14987979620018552831, 12105675803740602368, 18446744073709551615, 18446744073709551615]) ?_; intro wS b6 kS))
  have m2 := b2.lt
  have m4 := b4.lt
  have m5 := b5.lt
  have m0 := hbel.size
  replace b2 := (b2.alloc _).grown kS (by simp; omega)
  replace b4 := (b4.alloc _).grown kS (by simp; omega)
  replace b5 := (b5.alloc _).grown kS (by simp; omega)
  replace hbel := below_grown (below_alloc hbel _) kS (by omega)
  clear kS m2 m4 m5 m0
  generalize w3.heap.size = P6 at *
  go_upto_region 5 with (first | (refine wp_load_blk rfl 24 _ rfl P6 rfl 24 _ b6 _ Try.underlying24 rfl 4 size_B rfl ?_) | (go_at_call 48; with_reducible refine (with_user _).mono ?_; rintro e w3 ⟨rfl, hbc⟩; replace b2 := b2.after hbc; replace b4 := b4.after hbc; replace b5 := b5.after hbc; replace b6 := b6.after hbc; replace hbel := below_after hbel hbc; clear hbc) | (refine wp_store_blk rfl 24 _ _ rfl rfl w3.heap.size (arr4 18158654495175737343 13258597309286973441 18446744073709551615 18446744073709551615) rfl rfl 24 _ (Blk.new _ _ _) 4 size_B rfl rfl (nums_one .u64 [18158654495175737343, 13258597309286973441, 18446744073709551615, 18446744073709551615]) ?_; intro wS b7 kS))
  have m2 := b2.lt
  have m4 := b4.lt
  have m5 := b5.lt
  have m6 := b6.lt
  have m0 := hbel.size
  replace b2 := (b2.alloc _).grown kS (by simp; omega)
  replace b4 := (b4.alloc _).grown kS (by simp; omega)
  replace b5 := (b5.alloc _).grown kS (by simp; omega)
  replace b6 := (b6.alloc _).grown kS (by simp; omega)
  replace hbel := below_grown (below_alloc hbel _) kS (by omega)
  clear kS m2 m4 m5 m6 m0
  generalize w3.heap.size = P7 at *
  go_upto_region 6 with (first | (refine wp_load_blk rfl 24 _ rfl P7 rfl 24 _ b7 _ Try.underlying24 rfl 4 size_B rfl ?_) | (go_at_call 48; with_reducible refine (with_comp _).mono ?_; rintro e w3 ⟨rfl, hbc⟩; replace b2 := b2.after hbc; replace b4 := b4.after hbc; replace b5 := b5.after hbc; replace b6 := b6.after hbc; replace b7 := b7.after hbc; replace hbel := below_after hbel hbc; clear hbc) | (refine wp_store_blk rfl 24 _ _ rfl rfl w3.heap.size (arr4 18158681364491141119 13258597309286973441 18446744073709551615 18446744073709551615) rfl rfl 24 _ (Blk.new _ _ _) 4 size_B rfl rfl (nums_one .u64 [18158681364491141119, 13258597309286973441, 18446744073709551615, 18446744073709551615]) ?_; intro wS b8 kS))
  have m2 := b2.lt
  have m4 := b4.lt
  have m5 := b5.lt
  have m6 := b6.lt
  have m7 := b7.lt
  have m0 := hbel.size
  replace b2 := (b2.alloc _).grown kS (by simp; omega)
  replace b4 := (b4.alloc _).grown kS (by simp; omega)
  replace b5 := (b5.alloc _).grown kS (by simp; omega)
  replace b6 := (b6.alloc _).grown kS (by simp; omega)
  replace b7 := (b7.alloc _).grown kS (by simp; omega)
  replace hbel := below_grown (below_alloc hbel _) kS (by omega)
  clear kS m2 m4 m5 m6 m7 m0
  generalize w3.heap.size = P8 at *
  go_upto_region 7 with (first | (refine wpList_buildFlat rfl 44 5 3 _ rfl .u8 [9, 10, 13] Try.underlying44 (by kernel_rfl) (by kernel_rfl) rfl (by omega) (by omega) (by kernel_rfl) ?_) | (go_at_call 29; refine (make_h0 (Blk.new _ _ _)).mono ?_; rintro e w2 ⟨rfl, hbc⟩; replace b2 := (b2.alloc _).after hbc; replace b4 := (b4.alloc _).after hbc; replace b5 := (b5.alloc _).after hbc; replace b6 := (b6.alloc _).after hbc; replace b7 := (b7.alloc _).after hbc; replace b8 := (b8.alloc _).after hbc; replace hbel := below_after (below_alloc hbel _) hbc; clear hbc) | (go_at_call 48; with_reducible refine (with_host _).mono ?_; rintro e w3 ⟨rfl, hbc⟩; replace b2 := b2.after hbc; replace b4 := b4.after hbc; replace b5 := b5.after hbc; replace b6 := b6.after hbc; replace b7 := b7.after hbc; replace b8 := b8.after hbc; replace hbel := below_after hbel hbc; clear hbc) | (refine wp_store_blk rfl 24 _ _ rfl rfl w3.heap.size (arr4 15276350712183793153 1152921506620112897 0 0) rfl rfl 24 _ (Blk.new _ _ _) 4 size_B rfl rfl (nums_one .u64 [15276350712183793153, 1152921506620112897, 0, 0]) ?_; intro wS b9 kS))
  have m2 := b2.lt
  have m4 := b4.lt
  have m5 := b5.lt
  have m6 := b6.lt
  have m7 := b7.lt
  have m8 := b8.lt
  have m0 := hbel.size
  replace b2 := (b2.alloc _).grown kS (by simp; omega)
  replace b4 := (b4.alloc _).grown kS (by simp; omega)
  replace b5 := (b5.alloc _).grown kS (by simp; omega)
  replace b6 := (b6.alloc _).grown kS (by simp; omega)
  replace b7 := (b7.alloc _).grown kS (by simp; omega)
  replace b8 := (b8.alloc _).grown kS (by simp; omega)
  replace hbel := below_grown (below_alloc hbel _) kS (by omega)
  clear kS m2 m4 m5 m6 m7 m8 m0
  generalize w3.heap.size = P9 at *
  by_cases h1 : n = 1
  · subst h1
    go_wp2_with (first | (refine wp_load_blk rfl 24 _ rfl P4 rfl 24 _ b4 _ Try.underlying24 rfl 4 size_B rfl ?_) | (refine wp_store_blk rfl 24 _ _ rfl rfl w.heap.size (arr4 4294967295 9223372036854775808 18446744073709551615 18446744073709551615) rfl rfl 24 _ b2 4 size_B rfl rfl (nums_one .u64 [4294967295, 9223372036854775808, 18446744073709551615, 18446744073709551615]) ?_; intro wS bS kS))
    refine bodyPost_ret (ret_blk2 (ty := 24) rfl _ _ _ _ _ _ _ rfl rfl bS Try.underlying24 rfl 4 size_B rfl) rfl ?_
    exact ⟨rfl, below_grown hbel kS (Nat.le_refl _)⟩
  by_cases h2 : n = 2
  · subst h2
    go_wp2_with (first | (refine wp_load_blk rfl 24 _ rfl P4 rfl 24 _ b4 _ Try.underlying24 rfl 4 size_B rfl ?_) | (go_at_call 48; with_reducible refine (with_frag _).mono ?_; rintro e wq ⟨rfl, hbc⟩; replace b2 := b2.after hbc; replace b4 := b4.after hbc; replace b5 := b5.after hbc; replace b6 := b6.after hbc; replace b7 := b7.after hbc; replace b8 := b8.after hbc; replace b9 := b9.after hbc; replace hbel := below_after hbel hbc; clear hbc) | (refine wp_store_blk rfl 24 _ _ rfl rfl w.heap.size (arr4 5764607548804038655 9223372041149743104 18446744073709551615 18446744073709551615) rfl rfl 24 _ b2 4 size_B rfl rfl (nums_one .u64 [5764607548804038655, 9223372041149743104, 18446744073709551615, 18446744073709551615]) ?_; intro wS bS kS))
    refine bodyPost_ret (ret_blk2 (ty := 24) rfl _ _ _ _ _ _ _ rfl rfl bS Try.underlying24 rfl 4 size_B rfl) rfl ?_
    exact ⟨rfl, below_grown hbel kS (Nat.le_refl _)⟩
  by_cases h3 : n = 3
  · subst h3
    go_wp2_with (first | (refine wp_load_blk rfl 24 _ rfl P5 rfl 24 _ b5 _ Try.underlying24 rfl 4 size_B rfl ?_) | (refine wp_store_blk rfl 24 _ _ rfl rfl w.heap.size (arr4 5764607583163777023 9223372036854775808 18446744073709551615 18446744073709551615) rfl rfl 24 _ b2 4 size_B rfl rfl (nums_one .u64 [5764607583163777023, 9223372036854775808, 18446744073709551615, 18446744073709551615]) ?_; intro wS bS kS))
    refine bodyPost_ret (ret_blk2 (ty := 24) rfl _ _ _ _ _ _ _ rfl rfl bS Try.underlying24 rfl 4 size_B rfl) rfl ?_
    exact ⟨rfl, below_grown hbel kS (Nat.le_refl _)⟩
  by_cases h4 : n = 4
  · subst h4
    go_wp2_with (first | (refine wp_load_blk rfl 24 _ rfl P5 rfl 24 _ b5 _ Try.underlying24 rfl 4 size_B rfl ?_) | (go_at_call 48; with_reducible refine (with_squery _).mono ?_; rintro e wq ⟨rfl, hbc⟩; replace b2 := b2.after hbc; replace b4 := b4.after hbc; replace b5 := b5.after hbc; replace b6 := b6.after hbc; replace b7 := b7.after hbc; replace b8 := b8.after hbc; replace b9 := b9.after hbc; replace hbel := below_after hbel hbc; clear hbc) | (refine wp_store_blk rfl 24 _ _ rfl rfl w.heap.size (arr4 5764608132919590911 9223372036854775808 18446744073709551615 18446744073709551615) rfl rfl 24 _ b2 4 size_B rfl rfl (nums_one .u64 [5764608132919590911, 9223372036854775808, 18446744073709551615, 18446744073709551615]) ?_; intro wS bS kS))
    refine bodyPost_ret (ret_blk2 (ty := 24) rfl _ _ _ _ _ _ _ rfl rfl bS Try.underlying24 rfl 4 size_B rfl) rfl ?_
    exact ⟨rfl, below_grown hbel kS (Nat.le_refl _)⟩
  by_cases h5 : n = 5
  · subst h5
    go_wp2_with (first | (refine wp_load_blk rfl 24 _ rfl P6 rfl 24 _ b6 _ Try.underlying24 rfl 4 size_B rfl ?_) | (refine wp_store_blk rfl 24 _ _ rfl rfl w.heap.size (arr4 14987979620018552831 12105675803740602368 18446744073709551615 18446744073709551615) rfl rfl 24 _ b2 4 size_B rfl rfl (nums_one .u64 [14987979620018552831, 12105675803740602368, 18446744073709551615, 18446744073709551615]) ?_; intro wS bS kS))
    refine bodyPost_ret (ret_blk2 (ty := 24) rfl _ _ _ _ _ _ _ rfl rfl bS Try.underlying24 rfl 4 size_B rfl) rfl ?_
    exact ⟨rfl, below_grown hbel kS (Nat.le_refl _)⟩
  by_cases h6 : n = 6
  · subst h6
    go_wp2_with (first | (refine wp_load_blk rfl 24 _ rfl P7 rfl 24 _ b7 _ Try.underlying24 rfl 4 size_B rfl ?_) | (refine wp_store_blk rfl 24 _ _ rfl rfl w.heap.size (arr4 18158654495175737343 13258597309286973441 18446744073709551615 18446744073709551615) rfl rfl 24 _ b2 4 size_B rfl rfl (nums_one .u64 [18158654495175737343, 13258597309286973441, 18446744073709551615, 18446744073709551615]) ?_; intro wS bS kS))
    refine bodyPost_ret (ret_blk2 (ty := 24) rfl _ _ _ _ _ _ _ rfl rfl bS Try.underlying24 rfl 4 size_B rfl) rfl ?_
    exact ⟨rfl, below_grown hbel kS (Nat.le_refl _)⟩
  by_cases h7 : n = 7
  · subst h7
    go_wp2_with (first | (refine wp_load_blk rfl 24 _ rfl P8 rfl 24 _ b8 _ Try.underlying24 rfl 4 size_B rfl ?_) | (refine wp_store_blk rfl 24 _ _ rfl rfl w.heap.size (arr4 18158681364491141119 13258597309286973441 18446744073709551615 18446744073709551615) rfl rfl 24 _ b2 4 size_B rfl rfl (nums_one .u64 [18158681364491141119, 13258597309286973441, 18446744073709551615, 18446744073709551615]) ?_; intro wS bS kS))
    refine bodyPost_ret (ret_blk2 (ty := 24) rfl _ _ _ _ _ _ _ rfl rfl bS Try.underlying24 rfl 4 size_B rfl) rfl ?_
    exact ⟨rfl, below_grown hbel kS (Nat.le_refl _)⟩
  by_cases h8 : n = 8
  · subst h8
    go_wp2_with (first | (refine wp_load_blk rfl 24 _ rfl P8 rfl 24 _ b8 _ Try.underlying24 rfl 4 size_B rfl ?_) | (go_at_call 48; with_reducible refine (with_form _).mono ?_; rintro e wq ⟨rfl, hbc⟩; replace b2 := b2.after hbc; replace b4 := b4.after hbc; replace b5 := b5.after hbc; replace b6 := b6.after hbc; replace b7 := b7.after hbc; replace b8 := b8.after hbc; replace b9 := b9.after hbc; replace hbel := below_after hbel hbc; clear hbc) | (refine wp_store_blk rfl 24 _ _ rfl rfl w.heap.size (arr4 18158685221371772927 17870283327714361345 18446744073709551615 18446744073709551615) rfl rfl 24 _ b2 4 size_B rfl rfl (nums_one .u64 [18158685221371772927, 17870283327714361345, 18446744073709551615, 18446744073709551615]) ?_; intro wS bS kS))
    refine bodyPost_ret (ret_blk2 (ty := 24) rfl _ _ _ _ _ _ _ rfl rfl bS Try.underlying24 rfl 4 size_B rfl) rfl ?_
    exact ⟨rfl, below_grown hbel kS (Nat.le_refl _)⟩
  by_cases h9 : n = 9
  · subst h9
    go_wp2_with (first | (refine wp_load_blk rfl 24 _ rfl P9 rfl 24 _ b9 _ Try.underlying24 rfl 4 size_B rfl ?_) | (refine wp_store_blk rfl 24 _ _ rfl rfl w.heap.size (arr4 15276350712183793153 1152921506620112897 0 0) rfl rfl 24 _ b2 4 size_B rfl rfl (nums_one .u64 [15276350712183793153, 1152921506620112897, 0, 0]) ?_; intro wS bS kS))
    refine bodyPost_ret (ret_blk2 (ty := 24) rfl _ _ _ _ _ _ _ rfl rfl bS Try.underlying24 rfl 4 size_B rfl) rfl ?_
    exact ⟨rfl, below_grown hbel kS (Nat.le_refl _)⟩
  by_cases h10 : n = 10
  · subst h10
    go_upto_region 27 with (fail)
    have hst : ∀ w1 w2 : World, (Below w.heap.size w w1 ∧ Blk w1 w.heap.size 24 (arr4 0 0 0 0) ∧ Blk w1 P9 24 (arr4 15276350712183793153 1152921506620112897 0 0)) → Below w1.heap.size w1 w2 → (Below w.heap.size w w2 ∧ Blk w2 w.heap.size 24 (arr4 0 0 0 0) ∧ Blk w2 P9 24 (arr4 15276350712183793153 1152921506620112897 0 0)) := fun _ _ ⟨h1, h2, h3⟩ h => ⟨below_after h1 h, h2.after h, h3.after h⟩
    refine start_ (n := 7) (S := (fun w' => Below w.heap.size w w' ∧ Blk w' w.heap.size 24 (arr4 0 0 0 0) ∧ Blk w' P9 24 (arr4 15276350712183793153 1152921506620112897 0 0))) (ds := [5]) #[false, false, false, false, false, false, false] (by kernel_rfl) rfl rfl ⟨hbel.drew, b2.drew, b9.drew⟩ (fun hHeld => ?_)
    refine take_ (i := 0) (N := some 58) (v := ?_) (a' := ?_) #[true, false, false, false, false, false, false] rfl rfl (by kernel_rfl) (fun _ _ _ h => h) (Or.inl ⟨by rfl, ?_⟩) hHeld ?_ ?_
    rotate_left
    · rintro w' ⟨s1, s2, s3⟩
      refine exec_load_blk 24 (.tmp 9) ?_ P9 ?_ 24 s3 _ Try.underlying24 rfl 4 size_B rfl
      · rfl
      · rfl
    rotate_left
    · simp only [Act.put, List.setIfInBounds_toArray, List.set_cons_zero, List.set_cons_succ, i64_w, i32_w]
      rfl
    refine one_ (i := 1) (N := some 59) #[true, true, false, false, false, false, false] rfl rfl (by kernel_rfl) (by decide) (fun K hK => ?_)
    refine litu2_ (by rfl) rfl 37 127 rfl ?_
    intro G1 W1 B1 hbc
    refine hK.out _ _ (hst _ _ hHeld hbc) (fun hHeld => ?_)
    clear hK K
    refine norm_ (a' := ?_) ?_ ?_
    rotate_left
    · show Act.put _ (some 59) _ = _
      simp only [Act.put, List.setIfInBounds_toArray, List.set_cons_zero, List.set_cons_succ, i64_w, i32_w]
      rfl
    refine one_ (i := 2) (N := some 60) #[true, true, true, false, false, false, false] rfl rfl (by kernel_rfl) (by decide) (fun K hK => ?_)
    refine goes_ Try.func29 (by kernel_rfl) rfl #[.int .u8 0, .int .u8 31, .slice (some ⟨G1, 0, none⟩) 2 2] (by rfl) rfl rfl (by first | rfl | (simp only [List.map_toArray, List.map_cons, List.map_nil]; done) | (simp only [List.map_toArray, List.map_cons, List.map_nil]; rfl)) ?_
    refine (make_d31 B1).mono ?_
    rintro _ wq ⟨rfl, hbc⟩
    refine ⟨_, rfl, ?_⟩
    clear B1
    refine hK.out _ _ (hst _ _ hHeld hbc) (fun hHeld => ?_)
    clear hK K
    refine norm_ (a' := ?_) ?_ ?_
    rotate_left
    · show Act.put _ (some 60) _ = _
      simp only [Act.put, List.setIfInBounds_toArray, List.set_cons_zero, List.set_cons_succ, i64_w, i32_w]
      rfl
    refine one_ (i := 3) (N := some 61) #[true, true, true, true, false, false, false] rfl rfl (by kernel_rfl) (by decide) (fun K hK => ?_)
    refine lits2_ (by rfl) rfl _ _ rfl rfl rfl ?_
    intro G3 W3 B3 hbc
    refine hK.out _ _ (hst _ _ hHeld hbc) (fun hHeld => ?_)
    clear hK K
    refine norm_ (a' := ?_) ?_ ?_
    rotate_left
    · show Act.put _ (some 61) _ = _
      simp only [Act.put, List.setIfInBounds_toArray, List.set_cons_zero, List.set_cons_succ, i64_w, i32_w]
      rfl
    refine one_ (i := 4) (N := some 62) #[true, true, true, true, true, false, false] rfl rfl (by kernel_rfl) (by decide) (fun K hK => ?_)
    refine goes_ Try.func26 (by kernel_rfl) rfl #[.slice (some ⟨G3, 0, none⟩) 2 2] (by rfl) rfl rfl (by first | rfl | (simp only [List.map_toArray, List.map_cons, List.map_nil]; done) | (simp only [List.map_toArray, List.map_cons, List.map_nil]; rfl)) ?_
    refine (union_dom B3).mono ?_
    rintro _ wq ⟨rfl, hbc⟩
    refine ⟨_, rfl, ?_⟩
    clear B3
    refine hK.out _ _ (hst _ _ hHeld hbc) (fun hHeld => ?_)
    clear hK K
    refine norm_ (a' := ?_) ?_ ?_
    rotate_left
    · show Act.put _ (some 62) _ = _
      simp only [Act.put, List.setIfInBounds_toArray, List.set_cons_zero, List.set_cons_succ, i64_w, i32_w]
      rfl
    refine last_ (i := 5) (N := none) #[true, true, true, true, true, true, false] rfl rfl (by kernel_rfl) (by decide) (fun K hK => ?_)
    refine store_ (by rfl) rfl 24 _ _ rfl w.heap.size (arr4 15276350853917704191 10376293543474888705 0 0) rfl rfl 24 _ hHeld.2.1 4 size_B rfl rfl (nums_one .u64 [15276350853917704191, 10376293543474888705, 0, 0]) ?_
    intro wS bS kS
    refine hK.out _ _ ?_
    clear hK K
    refine pure_ (i := 6) (N := some 3) (v := ?_) (a' := ?_) #[true, true, true, true, true, true, true] rfl rfl (by kernel_rfl) (fun _ _ _ h => h) (Or.inl ⟨by rfl, ?_⟩) ?_ ?_
    rotate_left
    · intro w'
      go_simp
      with_reducible rfl
    rotate_left
    · simp only [Act.put, List.setIfInBounds_toArray, List.set_cons_zero, List.set_cons_succ, i64_w, i32_w]
      rfl
    refine done_ (by kernel_rfl) ?_
    go_wp2
    refine bodyPost_ret (ret_blk2 (ty := 24) rfl _ _ _ _ _ _ _ rfl rfl bS Try.underlying24 rfl 4 size_B rfl) rfl ?_
    exact ⟨rfl, below_grown hHeld.1 kS (Nat.le_refl _)⟩
  go_wp2_with (first | (refine wp_store_blk rfl 24 _ _ rfl rfl w.heap.size (arr4 0 0 0 0) rfl rfl 24 _ b2 4 size_B rfl rfl (nums_one .u64 [0, 0, 0, 0]) ?_; intro wS bS kS))
  refine bodyPost_ret (ret_blk2 (ty := 24) rfl _ _ _ _ _ _ _ rfl rfl bS Try.underlying24 rfl 4 size_B rfl) rfl ?_
  have e1 : nW n = [0, 0, 0, 0] := by simp [nW, h1, h2, h3, h4, h5, h6, h7, h8, h9, h10]
  have e2 : nE n = 10 := by unfold nE; rw [if_neg (by omega)]
  rw [e1, e2]
  exact ⟨rfl, below_grown hbel kS (Nat.le_refl _)⟩
end Go.Proofs.Ytjiapggmiddpdaa
