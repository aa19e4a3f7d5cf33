/- PercentBack: the walk. -/
import Derived.Test.YtfbgmlophkbejaaDoorPctN
set_option linter.unusedVariables false
set_option linter.unusedSimpArgs false
namespace Go.Proofs.YtfbgmlophkbejaaDoor
open Go.RowKit Go.Proofs.YtfbgmlophkbejaaDoorW.PrintWords Go.Proofs.YtfbgmlophkbejaaDoorW.PrintLast
theorem with_sign {x0 x1 x2 x3 : Int} (hx : Wf4 x0 x1 x2 x3) : inSet [bits .or .u64 x0 137438953472, x1, x2, x3] 37 = true := by
  have hp : U64 137438953472 := wf_sign.1
  have h := inSet_word (x0 := bits .or .u64 x0 137438953472) (x1 := x1) (x2 := x2) (x3 := x3) ⟨hx.1.or hp, hx.2⟩ 37 (by omega) (by omega)
  rw [h]
  show inW (bits .or .u64 x0 137438953472) 37 = true
  rw [inW_or hx.1 hp]
  have : inW 137438953472 37 = true := by decide +kernel
  rw [this, Bool.or_true]
set_option maxRecDepth 100000 in
set_option maxHeartbeats 4000000 in
theorem percentBack_any (s : ByteArray) (x0 x1 x2 x3 : Int) (w : World) (hs : s.size ≤ 1048576) (hx : Wf4 x0 x1 x2 x3) (M : MaxL w) : Calls Tryd.prog 4 #[.string s, set4 x0 x1 x2 x3] w fun e w' => e = .returned (.bool true) ∧ Below w.heap.size w w' := by
  have hsg := with_sign hx
  have hN := fun W => Z.normal_any s x0 x1 x2 x3 W (by omega)
  have hnz := normS_size (inSet [x0, x1, x2, x3]) s
  have hN2 := fun W => Z.normal_any (Z.normS (inSet [x0, x1, x2, x3]) s) x0 x1 x2 x3 W (by omega)
  rw [norm_norm] at hN2
  have hE := fun W => Z.encode_any s (bits .or .u64 x0 137438953472) x1 x2 x3 W (by omega)
  have hez : (strOfNums (Z.encL (inSet [bits .or .u64 x0 137438953472, x1, x2, x3]) (bytesOf s))).size ≤ 3 * s.size := by
    have := Z.encL_len (inSet [bits .or .u64 x0 137438953472, x1, x2, x3]) (bytesOf s)
    rw [bytesOf_length] at this
    rw [strOfNums_size]
    exact this
  have hD1 := fun W => Z.decode_any (strOfNums (Z.encL (inSet [bits .or .u64 x0 137438953472, x1, x2, x3]) (bytesOf s))) W (by omega)
  rw [enc_back _ hsg] at hD1
  have hD2 := fun W => Z.decode_any (Z.normS (inSet [x0, x1, x2, x3]) s) W (by omega)
  rw [norm_dec] at hD2
  have hD3 := fun W => Z.decode_any s W (by omega)
  have hF := fun W (h : Below w.heap.size w W) => form_any s W (by omega) (MaxL_below M h)
  have hfz := formS_size s
  have hG := fun W (h : Below w.heap.size w W) => fdec_any (formS s) W (by omega) (MaxL_below M h)
  rw [form_decodes] at hG
  generalize strOfNums (Z.encL (inSet [bits .or .u64 x0 137438953472, x1, x2, x3]) (bytesOf s)) = X at *
  generalize Z.normS (inSet [x0, x1, x2, x3]) s = Y at *
  generalize Z.decS s = D at *
  generalize formS s = Fm at *
  have HN := Lib.hid hN
  have HN2 := Lib.hid hN2
  have HE := Lib.hid hE
  have HD1 := Lib.hid hD1
  have HD2 := Lib.hid hD2
  have HD3 := Lib.hid hD3
  have HF := Lib.hid hF
  have HG := Lib.hid hG
  clear hN hN2 hE hD1 hD2 hD3 hF hG hsg hx
  go_enter Tryd.func4, Tryd.ntmps4
  go_upto_region 2 with (first
    | (refine wp_load_blk rfl 27 _ rfl w.heap.size rfl 27 _ (Blk.new _ _ _) _ Tryd.underlying27 rfl 4 size_B rfl ?_)
    | (refine wp_store_blk rfl 27 _ _ rfl rfl (w.heap.size + 1) (arr4 x0 x1 x2 x3) rfl rfl 27 _ (Blk.at_new (by simp)) 4 size_B rfl rfl (nums_one .u64 [x0, x1, x2, x3]) ?_; intro w2 hb2 hg2))
  have b0 : Blk w2 w.heap.size 27 (arr4 x0 x1 x2 x3) := ((Blk.new w 27 (arr4 x0 x1 x2 x3)).alloc _).grown hg2 (by simp)
  have hbel : Below w.heap.size w w2 := below_grown (below_alloc (below_one _ _) _) hg2 (by omega)
  clear hg2
  obtain ⟨c0, c1, c2, c3⟩ := hb2.cells4
  have f0 := hb2.frozen 0
  go_upto_region 3 with (fail)
  have b1 : Blk (w2.setCell ⟨w.heap.size + 1, 0, none⟩ (.int .u64 (bits .or .u64 x0 137438953472))) (w.heap.size + 1) 27 (arr4 (bits .or .u64 x0 137438953472) x1 x2 x3) := hb2.set_ 0 _
  have b0' := b0.far (p := ⟨w.heap.size + 1, 0, none⟩) (by simp) (.int .u64 (bits .or .u64 x0 137438953472))
  have hbel' := below_set (a := ⟨w.heap.size + 1, 0, none⟩) hbel (by show w.heap.size ≤ w.heap.size + 1; omega) (.int .u64 (bits .or .u64 x0 137438953472))
  generalize w2.setCell ⟨w.heap.size + 1, 0, none⟩ (.int .u64 (bits .or .u64 x0 137438953472)) = w3 at *
  clear hb2 b0 hbel c0 c1 c2 c3 f0
  have B0 := Lib.hid b0'
  have B1 := Lib.hid b1
  clear b0' b1
  go_wp2_with (first
    | (refine wp_load_blk rfl 27 _ rfl w.heap.size rfl 27 _ B0.out _ Tryd.underlying27 rfl 4 size_B rfl ?_)
    | (go_at_call 14; (with_reducible refine (HN.out _).mono ?_); rintro e w4 ⟨rfl, hb4⟩)
    | (go_at_call 9; (with_reducible refine (Z.awake_any _).mono ?_); rintro e w5 ⟨rfl, hb5⟩; have q5 := below_after hb4 hb5; obtain ⟨d0, d1, d2, d3⟩ := (B1.out.after q5).cells4)
    | (go_at_call 16; (with_reducible refine (HE.out _).mono ?_); rintro e w6 ⟨rfl, hb6⟩; have q6 := below_after q5 hb6)
    | (go_at_call 15; (with_reducible refine (HD1.out _).mono ?_); rintro e w7 ⟨rfl, hb7⟩; have q7 := below_after q6 hb7; obtain ⟨c0, c1, c2, c3⟩ := (B0.out.after q7).cells4)
    | (go_at_call 14; (with_reducible refine (HN2.out _).mono ?_); rintro e w8 ⟨rfl, hb8⟩; have q8 := below_after q7 hb8)
    | (go_at_call 15; (with_reducible refine (HD2.out _).mono ?_); rintro e w9 ⟨rfl, hb9⟩; have q9 := below_after q8 hb9)
    | (go_at_call 15; (with_reducible refine (HD3.out _).mono ?_); rintro e w10 ⟨rfl, hb10⟩; have q10 := below_after q9 hb10; have r10 := below_after hbel' q10)
    | (go_at_call 10; (with_reducible refine (HF.out _ r10).mono ?_); rintro e w11 ⟨rfl, hb11⟩; have r11 := below_after r10 hb11)
    | (go_at_call 12; (with_reducible refine (HG.out _ r11).mono ?_); rintro e w12 ⟨rfl, hb12⟩; have r12 := below_after r11 hb12))
  go_ret
  exact ⟨by simp, r12⟩
end Go.Proofs.YtfbgmlophkbejaaDoor
