/- The named sets: the walk of the document's Named. (Written by wip/gen/octp.py.) -/
import Derived.Test.YtjiapggmiddpdaaOctP
set_option linter.unusedVariables false
set_option linter.unusedSimpArgs false
namespace Go.Proofs.Ytjiapggmiddpdaa
open Go.RowKit Go.Proofs.YtjiapggmiddpdaaW.PrintWords Go.Proofs.YtjiapggmiddpdaaW.PrintLast
set_option maxRecDepth 100000 in
set_option maxHeartbeats 20000000 in
theorem rnamed_any (n : Int) (w : World) : Calls Try.prog 33 #[.int .i64 n] w fun e w' => e = .returned (.tuple #[.agg (nums .u8 (bl (nW n))).toArray, .int .i64 (nE n)]) ∧ Below w.heap.size w w' := by
  have hz := zero_S
  go_enter Try.func33, Try.ntmps33
  go_upto_region 1 with (fail)
  have b2 : Blk (w.alloc (.cells (nums .u8 no256).toArray 26)) w.heap.size 26 (nums .u8 no256).toArray := Blk.new _ _ _
  have hbel : Below w.heap.size w (w.alloc (.cells (nums .u8 no256).toArray 26)) := below_one _ _
  generalize w.alloc (.cells (nums .u8 no256).toArray 26) = w0 at *
  go_upto_region 2 with (first | (refine wp_build_nil rfl 26 rfl 10 rfl _ built_S ?_) | (go_at_call 47; with_reducible refine (rfrom_lo31z _).mono ?_; rintro e w1 ⟨rfl, hbc⟩; replace b2 := b2.after hbc; replace hbel := below_after hbel hbc; clear hbc) | (go_at_call 47; with_reducible refine (rfrom_control _).mono ?_; rintro e w3 ⟨rfl, hbc⟩; replace b2 := b2.after hbc; replace hbel := below_after hbel hbc; clear hbc) | (refine wp_store_blk rfl 26 _ _ rfl rfl w3.heap.size (nums .u8 (bl [4294967295, 9223372036854775808, 18446744073709551615, 18446744073709551615])).toArray rfl rfl 26 _ (Blk.new _ _ _) 256 size_S (by rw [nums_size, bl_len]) rfl (nums_one _ _) ?_; intro wS b4 kS))
  have m2 := b2.lt
  have m0 := hbel.size
  replace b2 := (b2.alloc _).grown kS (by simp; omega)
  replace hbel := below_grown (below_alloc hbel _) kS (by omega)
  clear kS m2 m0
  generalize w3.heap.size = P4 at *
  go_upto_region 3 with (first | (refine wp_load_blk rfl 26 _ rfl P4 rfl 26 _ b4 _ Try.underlying26 rfl 256 size_S (by rw [nums_size, bl_len]) ?_) | (go_at_call 46; with_reducible refine (rwith_query _).mono ?_; rintro e w3 ⟨rfl, hbc⟩; replace b2 := b2.after hbc; replace b4 := b4.after hbc; replace hbel := below_after hbel hbc; clear hbc) | (refine wp_store_blk rfl 26 _ _ rfl rfl w3.heap.size (nums .u8 (bl [5764607583163777023, 9223372036854775808, 18446744073709551615, 18446744073709551615])).toArray rfl rfl 26 _ (Blk.new _ _ _) 256 size_S (by rw [nums_size, bl_len]) rfl (nums_one _ _) ?_; intro wS b5 kS))
  have m2 := b2.lt
  have m4 := b4.lt
  have m0 := hbel.size
  replace b2 := (b2.alloc _).grown kS (by simp; omega)
  replace b4 := (b4.alloc _).grown kS (by simp; omega)
  replace hbel := below_grown (below_alloc hbel _) kS (by omega)
  clear kS m2 m4 m0
  generalize w3.heap.size = P5 at *
  go_upto_region 4 with (first | (refine wp_load_blk rfl 26 _ rfl P5 rfl 26 _ b5 _ Try.underlying26 rfl 256 size_S (by rw [nums_size, bl_len]) ?_) | (go_at_call 46; with_reducible refine (rwith_path _).mono ?_; rintro e w3 ⟨rfl, hbc⟩; replace b2 := b2.after hbc; replace b4 := b4.after hbc; replace b5 := b5.after hbc; replace hbel := below_after hbel hbc; clear hbc) | (refine wp_store_blk rfl 26 _ _ rfl rfl w3.heap.size (nums .u8 (bl [14987979620018552831, 12105675803740602368, 18446744073709551615, 18446744073709551615])).toArray rfl rfl 26 _ (Blk.new _ _ _) 256 size_S (by rw [nums_size, bl_len]) rfl (nums_one _ _) ?_; intro wS b6 kS))
  have m2 := b2.lt
  have m4 := b4.lt
  have m5 := b5.lt
  have m0 := hbel.size
  replace b2 := (b2.alloc _).grown kS (by simp; omega)
  replace b4 := (b4.alloc _).grown kS (by simp; omega)
  replace b5 := (b5.alloc _).grown kS (by simp; omega)
  replace hbel := below_grown (below_alloc hbel _) kS (by omega)
  clear kS m2 m4 m5 m0
  generalize w3.heap.size = P6 at *
  go_upto_region 5 with (first | (refine wp_load_blk rfl 26 _ rfl P6 rfl 26 _ b6 _ Try.underlying26 rfl 256 size_S (by rw [nums_size, bl_len]) ?_) | (go_at_call 46; with_reducible refine (rwith_user _).mono ?_; rintro e w3 ⟨rfl, hbc⟩; replace b2 := b2.after hbc; replace b4 := b4.after hbc; replace b5 := b5.after hbc; replace b6 := b6.after hbc; replace hbel := below_after hbel hbc; clear hbc) | (refine wp_store_blk rfl 26 _ _ rfl rfl w3.heap.size (nums .u8 (bl [18158654495175737343, 13258597309286973441, 18446744073709551615, 18446744073709551615])).toArray rfl rfl 26 _ (Blk.new _ _ _) 256 size_S (by rw [nums_size, bl_len]) rfl (nums_one _ _) ?_; intro wS b7 kS))
  have m2 := b2.lt
  have m4 := b4.lt
  have m5 := b5.lt
  have m6 := b6.lt
  have m0 := hbel.size
  replace b2 := (b2.alloc _).grown kS (by simp; omega)
  replace b4 := (b4.alloc _).grown kS (by simp; omega)
  replace b5 := (b5.alloc _).grown kS (by simp; omega)
  replace b6 := (b6.alloc _).grown kS (by simp; omega)
  replace hbel := below_grown (below_alloc hbel _) kS (by omega)
  clear kS m2 m4 m5 m6 m0
  generalize w3.heap.size = P7 at *
  go_upto_region 6 with (first | (refine wp_load_blk rfl 26 _ rfl P7 rfl 26 _ b7 _ Try.underlying26 rfl 256 size_S (by rw [nums_size, bl_len]) ?_) | (go_at_call 46; with_reducible refine (rwith_comp _).mono ?_; rintro e w3 ⟨rfl, hbc⟩; replace b2 := b2.after hbc; replace b4 := b4.after hbc; replace b5 := b5.after hbc; replace b6 := b6.after hbc; replace b7 := b7.after hbc; replace hbel := below_after hbel hbc; clear hbc) | (refine wp_store_blk rfl 26 _ _ rfl rfl w3.heap.size (nums .u8 (bl [18158681364491141119, 13258597309286973441, 18446744073709551615, 18446744073709551615])).toArray rfl rfl 26 _ (Blk.new _ _ _) 256 size_S (by rw [nums_size, bl_len]) rfl (nums_one _ _) ?_; intro wS b8 kS))
  have m2 := b2.lt
  have m4 := b4.lt
  have m5 := b5.lt
  have m6 := b6.lt
  have m7 := b7.lt
  have m0 := hbel.size
  replace b2 := (b2.alloc _).grown kS (by simp; omega)
  replace b4 := (b4.alloc _).grown kS (by simp; omega)
  replace b5 := (b5.alloc _).grown kS (by simp; omega)
  replace b6 := (b6.alloc _).grown kS (by simp; omega)
  replace b7 := (b7.alloc _).grown kS (by simp; omega)
  replace hbel := below_grown (below_alloc hbel _) kS (by omega)
  clear kS m2 m4 m5 m6 m7 m0
  generalize w3.heap.size = P8 at *
  go_upto_region 7 with (first | (refine wp_build_nil rfl 26 rfl 21 rfl _ built_S ?_) | (go_at_call 46; with_reducible refine (rwith_hostz _).mono ?_; rintro e w3 ⟨rfl, hbc⟩; replace b2 := b2.after hbc; replace b4 := b4.after hbc; replace b5 := b5.after hbc; replace b6 := b6.after hbc; replace b7 := b7.after hbc; replace b8 := b8.after hbc; replace hbel := below_after hbel hbc; clear hbc) | (refine wp_store_blk rfl 26 _ _ rfl rfl w3.heap.size (nums .u8 (bl [15276350712183793153, 1152921506620112897, 0, 0])).toArray rfl rfl 26 _ (Blk.new _ _ _) 256 size_S (by rw [nums_size, bl_len]) rfl (nums_one _ _) ?_; intro wS b9 kS))
  have m2 := b2.lt
  have m4 := b4.lt
  have m5 := b5.lt
  have m6 := b6.lt
  have m7 := b7.lt
  have m8 := b8.lt
  have m0 := hbel.size
  replace b2 := (b2.alloc _).grown kS (by simp; omega)
  replace b4 := (b4.alloc _).grown kS (by simp; omega)
  replace b5 := (b5.alloc _).grown kS (by simp; omega)
  replace b6 := (b6.alloc _).grown kS (by simp; omega)
  replace b7 := (b7.alloc _).grown kS (by simp; omega)
  replace b8 := (b8.alloc _).grown kS (by simp; omega)
  replace hbel := below_grown (below_alloc hbel _) kS (by omega)
  clear kS m2 m4 m5 m6 m7 m8 m0
  generalize w3.heap.size = P9 at *
  clear hz
  by_cases h1 : n = 1
  · subst h1
    go_wp2_with (first | (refine wp_load_blk rfl 26 _ rfl P4 rfl 26 _ b4 _ Try.underlying26 rfl 256 size_S (by rw [nums_size, bl_len]) ?_) | (refine wp_store_blk rfl 26 _ _ rfl rfl w.heap.size (nums .u8 (bl [4294967295, 9223372036854775808, 18446744073709551615, 18446744073709551615])).toArray rfl rfl 26 _ b2 256 size_S (by rw [nums_size, bl_len]) rfl (nums_one _ _) ?_; intro wS bS kS))
    refine bodyPost_ret (ret_blk2 (ty := 26) rfl _ _ _ _ _ _ _ rfl rfl bS Try.underlying26 rfl 256 size_S (by rw [nums_size, bl_len])) rfl ?_
    exact ⟨rfl, below_grown hbel kS (Nat.le_refl _)⟩
  by_cases h2 : n = 2
  · subst h2
    go_wp2_with (first | (refine wp_load_blk rfl 26 _ rfl P4 rfl 26 _ b4 _ Try.underlying26 rfl 256 size_S (by rw [nums_size, bl_len]) ?_) | (go_at_call 46; with_reducible refine (rwith_frag _).mono ?_; rintro e wq ⟨rfl, hbc⟩; replace b2 := b2.after hbc; replace b4 := b4.after hbc; replace b5 := b5.after hbc; replace b6 := b6.after hbc; replace b7 := b7.after hbc; replace b8 := b8.after hbc; replace b9 := b9.after hbc; replace hbel := below_after hbel hbc; clear hbc) | (refine wp_store_blk rfl 26 _ _ rfl rfl w.heap.size (nums .u8 (bl [5764607548804038655, 9223372041149743104, 18446744073709551615, 18446744073709551615])).toArray rfl rfl 26 _ b2 256 size_S (by rw [nums_size, bl_len]) rfl (nums_one _ _) ?_; intro wS bS kS))
    refine bodyPost_ret (ret_blk2 (ty := 26) rfl _ _ _ _ _ _ _ rfl rfl bS Try.underlying26 rfl 256 size_S (by rw [nums_size, bl_len])) rfl ?_
    exact ⟨rfl, below_grown hbel kS (Nat.le_refl _)⟩
  by_cases h3 : n = 3
  · subst h3
    go_wp2_with (first | (refine wp_load_blk rfl 26 _ rfl P5 rfl 26 _ b5 _ Try.underlying26 rfl 256 size_S (by rw [nums_size, bl_len]) ?_) | (refine wp_store_blk rfl 26 _ _ rfl rfl w.heap.size (nums .u8 (bl [5764607583163777023, 9223372036854775808, 18446744073709551615, 18446744073709551615])).toArray rfl rfl 26 _ b2 256 size_S (by rw [nums_size, bl_len]) rfl (nums_one _ _) ?_; intro wS bS kS))
    refine bodyPost_ret (ret_blk2 (ty := 26) rfl _ _ _ _ _ _ _ rfl rfl bS Try.underlying26 rfl 256 size_S (by rw [nums_size, bl_len])) rfl ?_
    exact ⟨rfl, below_grown hbel kS (Nat.le_refl _)⟩
  by_cases h4 : n = 4
  · subst h4
    go_wp2_with (first | (refine wp_load_blk rfl 26 _ rfl P5 rfl 26 _ b5 _ Try.underlying26 rfl 256 size_S (by rw [nums_size, bl_len]) ?_) | (go_at_call 46; with_reducible refine (rwith_squery _).mono ?_; rintro e wq ⟨rfl, hbc⟩; replace b2 := b2.after hbc; replace b4 := b4.after hbc; replace b5 := b5.after hbc; replace b6 := b6.after hbc; replace b7 := b7.after hbc; replace b8 := b8.after hbc; replace b9 := b9.after hbc; replace hbel := below_after hbel hbc; clear hbc) | (refine wp_store_blk rfl 26 _ _ rfl rfl w.heap.size (nums .u8 (bl [5764608132919590911, 9223372036854775808, 18446744073709551615, 18446744073709551615])).toArray rfl rfl 26 _ b2 256 size_S (by rw [nums_size, bl_len]) rfl (nums_one _ _) ?_; intro wS bS kS))
    refine bodyPost_ret (ret_blk2 (ty := 26) rfl _ _ _ _ _ _ _ rfl rfl bS Try.underlying26 rfl 256 size_S (by rw [nums_size, bl_len])) rfl ?_
    exact ⟨rfl, below_grown hbel kS (Nat.le_refl _)⟩
  by_cases h5 : n = 5
  · subst h5
    go_wp2_with (first | (refine wp_load_blk rfl 26 _ rfl P6 rfl 26 _ b6 _ Try.underlying26 rfl 256 size_S (by rw [nums_size, bl_len]) ?_) | (refine wp_store_blk rfl 26 _ _ rfl rfl w.heap.size (nums .u8 (bl [14987979620018552831, 12105675803740602368, 18446744073709551615, 18446744073709551615])).toArray rfl rfl 26 _ b2 256 size_S (by rw [nums_size, bl_len]) rfl (nums_one _ _) ?_; intro wS bS kS))
    refine bodyPost_ret (ret_blk2 (ty := 26) rfl _ _ _ _ _ _ _ rfl rfl bS Try.underlying26 rfl 256 size_S (by rw [nums_size, bl_len])) rfl ?_
    exact ⟨rfl, below_grown hbel kS (Nat.le_refl _)⟩
  by_cases h6 : n = 6
  · subst h6
    go_wp2_with (first | (refine wp_load_blk rfl 26 _ rfl P7 rfl 26 _ b7 _ Try.underlying26 rfl 256 size_S (by rw [nums_size, bl_len]) ?_) | (refine wp_store_blk rfl 26 _ _ rfl rfl w.heap.size (nums .u8 (bl [18158654495175737343, 13258597309286973441, 18446744073709551615, 18446744073709551615])).toArray rfl rfl 26 _ b2 256 size_S (by rw [nums_size, bl_len]) rfl (nums_one _ _) ?_; intro wS bS kS))
    refine bodyPost_ret (ret_blk2 (ty := 26) rfl _ _ _ _ _ _ _ rfl rfl bS Try.underlying26 rfl 256 size_S (by rw [nums_size, bl_len])) rfl ?_
    exact ⟨rfl, below_grown hbel kS (Nat.le_refl _)⟩
  by_cases h7 : n = 7
  · subst h7
    go_wp2_with (first | (refine wp_load_blk rfl 26 _ rfl P8 rfl 26 _ b8 _ Try.underlying26 rfl 256 size_S (by rw [nums_size, bl_len]) ?_) | (refine wp_store_blk rfl 26 _ _ rfl rfl w.heap.size (nums .u8 (bl [18158681364491141119, 13258597309286973441, 18446744073709551615, 18446744073709551615])).toArray rfl rfl 26 _ b2 256 size_S (by rw [nums_size, bl_len]) rfl (nums_one _ _) ?_; intro wS bS kS))
    refine bodyPost_ret (ret_blk2 (ty := 26) rfl _ _ _ _ _ _ _ rfl rfl bS Try.underlying26 rfl 256 size_S (by rw [nums_size, bl_len])) rfl ?_
    exact ⟨rfl, below_grown hbel kS (Nat.le_refl _)⟩
  by_cases h8 : n = 8
  · subst h8
    go_wp2_with (first | (refine wp_load_blk rfl 26 _ rfl P8 rfl 26 _ b8 _ Try.underlying26 rfl 256 size_S (by rw [nums_size, bl_len]) ?_) | (go_at_call 46; with_reducible refine (rwith_form _).mono ?_; rintro e wq ⟨rfl, hbc⟩; replace b2 := b2.after hbc; replace b4 := b4.after hbc; replace b5 := b5.after hbc; replace b6 := b6.after hbc; replace b7 := b7.after hbc; replace b8 := b8.after hbc; replace b9 := b9.after hbc; replace hbel := below_after hbel hbc; clear hbc) | (refine wp_store_blk rfl 26 _ _ rfl rfl w.heap.size (nums .u8 (bl [18158685221371772927, 17870283327714361345, 18446744073709551615, 18446744073709551615])).toArray rfl rfl 26 _ b2 256 size_S (by rw [nums_size, bl_len]) rfl (nums_one _ _) ?_; intro wS bS kS))
    refine bodyPost_ret (ret_blk2 (ty := 26) rfl _ _ _ _ _ _ _ rfl rfl bS Try.underlying26 rfl 256 size_S (by rw [nums_size, bl_len])) rfl ?_
    exact ⟨rfl, below_grown hbel kS (Nat.le_refl _)⟩
  by_cases h9 : n = 9
  · subst h9
    go_wp2_with (first | (refine wp_load_blk rfl 26 _ rfl P9 rfl 26 _ b9 _ Try.underlying26 rfl 256 size_S (by rw [nums_size, bl_len]) ?_) | (refine wp_store_blk rfl 26 _ _ rfl rfl w.heap.size (nums .u8 (bl [15276350712183793153, 1152921506620112897, 0, 0])).toArray rfl rfl 26 _ b2 256 size_S (by rw [nums_size, bl_len]) rfl (nums_one _ _) ?_; intro wS bS kS))
    refine bodyPost_ret (ret_blk2 (ty := 26) rfl _ _ _ _ _ _ _ rfl rfl bS Try.underlying26 rfl 256 size_S (by rw [nums_size, bl_len])) rfl ?_
    exact ⟨rfl, below_grown hbel kS (Nat.le_refl _)⟩
  by_cases h10 : n = 10
  · subst h10
    go_wp2_with (first | (refine wp_load_blk rfl 26 _ rfl P9 rfl 26 _ b9 _ Try.underlying26 rfl 256 size_S (by rw [nums_size, bl_len]) ?_) | (go_at_call 47; with_reducible refine (rfrom_h31 _).mono ?_; rintro e wq ⟨rfl, hbc⟩; replace b2 := b2.after hbc; replace b4 := b4.after hbc; replace b5 := b5.after hbc; replace b6 := b6.after hbc; replace b7 := b7.after hbc; replace b8 := b8.after hbc; replace b9 := b9.after hbc; replace hbel := below_after hbel hbc; clear hbc) | (go_at_call 46; with_reducible refine (rwith_dom _).mono ?_; rintro e wq ⟨rfl, hbc⟩; replace b2 := b2.after hbc; replace b4 := b4.after hbc; replace b5 := b5.after hbc; replace b6 := b6.after hbc; replace b7 := b7.after hbc; replace b8 := b8.after hbc; replace b9 := b9.after hbc; replace hbel := below_after hbel hbc; clear hbc) | (refine wp_store_blk rfl 26 _ _ rfl rfl w.heap.size (nums .u8 (bl [15276350853917704191, 10376293543474888705, 0, 0])).toArray rfl rfl 26 _ b2 256 size_S (by rw [nums_size, bl_len]) rfl (nums_one _ _) ?_; intro wS bS kS))
    refine bodyPost_ret (ret_blk2 (ty := 26) rfl _ _ _ _ _ _ _ rfl rfl bS Try.underlying26 rfl 256 size_S (by rw [nums_size, bl_len])) rfl ?_
    exact ⟨rfl, below_grown hbel kS (Nat.le_refl _)⟩
  go_wp2_with (first | (refine wp_build_nil rfl 26 rfl 59 rfl _ built_S ?_) | (refine wp_store_blk rfl 26 _ _ rfl rfl w.heap.size (nums .u8 no256).toArray rfl rfl 26 _ b2 256 size_S rfl rfl (nums_one _ _) ?_; intro wS bS kS))
  refine bodyPost_ret (ret_blk2 (ty := 26) rfl _ _ _ _ _ _ _ rfl rfl bS Try.underlying26 rfl 256 size_S rfl) rfl ?_
  have e1 : nW n = [0, 0, 0, 0] := by simp [nW, h1, h2, h3, h4, h5, h6, h7, h8, h9, h10]
  have e2 : nE n = 10 := by unfold nE; rw [if_neg (by omega)]
  rw [e1, e2, ← no256_bl]
  exact ⟨rfl, below_grown hbel kS (Nat.le_refl _)⟩
end Go.Proofs.Ytjiapggmiddpdaa
