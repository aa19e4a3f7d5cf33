/- ScalarBack: the walk. -/
import Derived.Test.YtgippjhkimohlaaDoorScX
set_option linter.unusedVariables false
set_option linter.unusedSimpArgs false
namespace Go.Proofs.YtgippjhkimohlaaDoor
open Go.RowKit Go.Proofs.YtgippjhkimohlaaDoorW.PrintWords Go.Proofs.YtgippjhkimohlaaDoorW.PrintLast
theorem runeLen_wid (r : Int) : (if Lib.runeLen r < 0 then 0 else Lib.runeLen r) = wid r := by
  have hw : wid r = if (0 ≤ r ∧ r < 55296) ∨ (57343 < r ∧ r ≤ 1114111) then (if r < 128 then 1 else if r < 2048 then 2 else if r < 65536 then 3 else 4) else 0 := by
    unfold wid scal
    by_cases h : (0 ≤ r ∧ r < 55296) ∨ (57343 < r ∧ r ≤ 1114111)
    · rw [if_pos h, decide_eq_true h]; rfl
    · rw [if_neg h, decide_eq_false h]; rfl
  rw [hw]
  unfold Lib.runeLen
  repeat' split
  all_goals omega
theorem Width_any (r : Int) (w : World) : Calls Tryd.prog 34 #[.int .i32 r] w fun e w' => e = .returned (.int .i64 (wid r)) ∧ w' = w := by
  have h := Tryd.utf8_RuneLen r w
  have hx := runeLen_wid r
  have hr : -1 ≤ Lib.runeLen r ∧ Lib.runeLen r ≤ 4 := by
    unfold Lib.runeLen
    repeat' split
    all_goals omega
  generalize Lib.runeLen r = x at *
  generalize wid r = y at *
  have H := Lib.hid h
  clear h
  go_enter Tryd.func34, Tryd.ntmps34
  go_wp2_with (go_at_call 66; (with_reducible refine (H.out).mono ?_); rintro e w1 ⟨rfl, hw⟩; obtain rfl : w = w1 := hw.symm)
  go_ret
  refine ⟨?_, rfl⟩
  refine congrArg (fun z => Ending.returned (.int .i64 z)) (show max 0 x = y from ?_)
  rw [← hx, Int.max_def]
  repeat' split
  all_goals omega
theorem get_pc (l : List (Int × Pc)) (k : Nat) (h : k < l.length) : rd (l.map (·.2.rune)) (k : Int) = (l.getD k pc0).2.rune := by
  unfold rd
  simp only [Int.toNat_natCast, List.getD_eq_getElem?_getD, List.getElem?_map, List.getElem?_eq_getElem h]
  rfl
set_option maxRecDepth 100000 in
set_option maxHeartbeats 4000000 in
theorem scalarBack_any (s : ByteArray) (w : World) (hs : s.size ≤ 1048576) (T : Tabs w) : Calls Tryd.prog 7 #[.string s] w fun e w' => e = .returned (.bool true) ∧ Below w.heap.size w w' := by
  have Haw := Lib.hid (awake_any w T)
  have hdl : (decT s).length ≤ s.size := by unfold decT; rw [List.length_map]; exact pcs_len s s.size 0 (by omega) (by omega)
  have hsc := decT_scal s
  have hde := dec_enc_dec s
  have hel : (encS (decT s)).size ≤ 4 * (decT s).length := by rw [encS_size]; exact encL_len _
  have Hd := Lib.hid (fun W (h : Below w.heap.size w W) => Decode_any s W (by omega) (Utf8Tabs_below T h))
  have hd2 := fun W (h : Below w.heap.size w W) => Decode_any (encS (decT s)) W (by omega) (Utf8Tabs_below T h)
  rw [hde] at hd2
  have Hd2 := Lib.hid hd2
  have Hp := Lib.hid (fun W (h : Below w.heap.size w W) => Pieces_any s W (by omega) (Utf8Tabs_below T h))
  have hT := Lib.hid (To.all s s.size 0 (by omega) (by omega) (by omega))
  have hru : decT s = (pcs s 0).map (·.2.rune) := rfl
  have hsame := fun A B ca cb W => runes_same (decT s) A B ca cb W
  have henc := fun A c W hr => Encode_ok (decT s) A c W (by omega) hr hsc
  generalize encS (decT s) = t at *
  generalize decT s = dl at *
  generalize hl : pcs s 0 = l at *
  clear hd2 hde
  have Hsame := Lib.hid hsame
  have Henc := Lib.hid henc
  have Hscal := Lib.hid (fun r w => Scalar_any r w)
  have Hwid := Lib.hid (fun r w => Width_any r w)
  have Hsc := Lib.hid hsc
  have hll : dl.length = l.length := by rw [hru, List.length_map]
  have Hru := Lib.hid hru
  have Hll := Lib.hid hll
  clear hll
  clear hsame henc hsc hru hl
  go_enter Tryd.func7, Tryd.ntmps7
  go_wp2_with (first
    | (go_at_call 17; (with_reducible refine (Haw.out).mono ?_); rintro e w1 ⟨rfl, hb1⟩)
    | (go_at_call 19; (with_reducible refine (Hd.out _ hb1).mono ?_); rintro e w2 ⟨hb2, v2, rfl, ho2⟩; obtain ⟨A2, c2, rfl, hr2⟩ := own_reads ho2; have hbb2 := below_after hb1 hb2))
  have HR2 := Lib.hid hr2
  clear ho2 hr2
  go_loopw [18] (fun i wr => ∃ k : Nat, i = .int .i64 (k : Int) ∧ k ≤ dl.length ∧ Below w2.heap.size w2 wr) (fun i _ => dl.length - (intOf i).toNat)
  case atStart => exact ⟨0, rfl, by omega, Below.refl _ _⟩
  case round =>
    obtain ⟨k, rfl, hk, hbel⟩ := hrel
    by_cases hlt : k < dl.length
    · obtain ⟨ad, rfl, d0⟩ := (HR2.out.below hbel).at_ k (by omega) (by omega)
      simp only [Int.toNat_natCast] at d0
      have hs1 : scal (rd dl k) = true := Hsc.out _ (by
        have e : rd dl k = dl[k] := by simp [rd, List.getD_eq_getElem?_getD, List.getElem?_eq_getElem hlt]
        rw [e]; exact List.getElem_mem _)
      have hsr := Hscal.out (rd dl k)
      rw [hs1] at hsr
      have HS := Lib.hid hsr
      clear hsr hs1
      go_wp2_with (go_at_call 32; (with_reducible refine (HS.out _).mono ?_); rintro e w3 ⟨rfl, hb3⟩)
      exact ⟨⟨k + 1, rfl, by omega, below_after hbel hb3⟩, by simp [intOf]; omega⟩
    · obtain rfl : k = dl.length := by omega
      have hbbr := below_after hbb2 hbel
      have hr3 := HR2.out.below hbel
      go_wp2_with (first
        | (go_at_call 27; (with_reducible refine (Henc.out _ _ _ hr3).mono ?_); rintro e w4 ⟨rfl, hb4⟩; have hbb4 := below_after hbbr hb4; have hr4 := (fun h => ReadsInt.below h hb4) hr3)
        | (go_at_call 19; (with_reducible refine (Hd2.out _ hbb4).mono ?_); rintro e w5 ⟨hb5, v5, rfl, ho5⟩; obtain ⟨A5, c5, rfl, hr5⟩ := own_reads ho5; have hbb5 := below_after hbb4 hb5; have hr4' := (fun h => ReadsInt.below h hb5) hr4)
        | (go_at_call 18; (with_reducible refine (Hsame.out _ _ _ _ _ hr5 hr4').mono ?_); rintro e w6 ⟨rfl, n6, rfl⟩; have hbb6 := below_drewN hbb5 n6)
        | (go_at_call 21; (with_reducible refine (Hp.out _ hbb6).mono ?_); rintro e w7 ⟨hb7, v7, rfl, ho7⟩; obtain ⟨A7, c7, rfl, hc7, hr7⟩ := ho7.reads; have hbb7 := below_after hbb6 hb7; have hr4'' := (fun h => ReadsInt.below h hb7) (ReadsInt.drewN hr4' n6)))
      have HR7 := Lib.hid hr7
      have HR4 := Lib.hid hr4''
      clear ho5 hr5 ho7 hr7 hr4 hr4' hr4'' hr3
      go_loopw [9, 44] (fun a i wr => ∃ (a' : Int) (k : Nat), a = .int .i64 a' ∧ i = .int .i64 (k : Int) ∧ k ≤ l.length ∧ 0 ≤ a' ∧ a' ≤ s.size ∧ Hid (To s a' (l.drop k) s.size) ∧ Below w7.heap.size w7 wr) (fun _ i _ => l.length - (intOf i).toNat)
      case atStart => exact ⟨0, 0, rfl, rfl, by omega, by omega, by omega, by rw [List.drop_zero]; exact hT, Below.refl _ _⟩
      case round =>
        obtain ⟨a, k, rfl, rfl, hk, ha0, ha1, hTo, hbel⟩ := hrel
        by_cases hlt : k < l.length
        · obtain ⟨ad, rfl, d0, d1, d2, d3⟩ := piece_at (HR7.out.imp_ hbel (fun p c h => h)) k hlt
          obtain ⟨bd, rfl, e0⟩ := (HR4.out.below hbel).at_ k (by omega) (by have := Hll.out; omega)
          rw [Hru.out, get_pc l k hlt] at e0
          have hto := hTo.out
          rw [List.drop_eq_getElem_cons hlt] at hto
          have hg : l.getD k pc0 = l[k] := by rw [List.getD_eq_getElem?_getD, List.getElem?_eq_getElem hlt]; rfl
          rw [← hg] at hto
          generalize l.getD k pc0 = q at *
          cases hto with
          | cons hlt2 r =>
            have hts := tail_size s a ha0 (by omega)
            have hfs := fst_scal (tail s a) (by omega)
            have hst := fst_step s a ha0 hlt2
            generalize fstT (tail s a) = p at *
            obtain ⟨n, ru, b⟩ := p
            simp only at d0 d1 d2 d3 e0 hfs hst r
            obtain ⟨_, f1, f2, f3, f4⟩ := hfs
            have HN := Lib.hid r
            have g1 : ¬ n < 1 := by omega
            have g2 : ¬ 4 < n := by omega
            have g3 : ¬ (l.length : Int) ≤ k := by omega
            have g4 : ¬ (dl.length : Int) ≤ k := by have := Hll.out; omega
            have e1 := cell_keep_alloc e0 (.cells #[.int .i64 a, .int .i64 n, .int .i32 ru, .bool b] 32)
            simp only [Int.toNat_natCast] at e1
            have g6 : k < dl.length := by have := Hll.out; omega
            have g7 : (k : Int) < dl.length := by omega
            clear hts hg r hTo
            cases b
            · have f1 := f1 rfl
              have F1 := Lib.hid (fun W => Hwid.out ru W)
              rw [f1] at F1
              clear f1
              clear f2
              go_upto_region 17 with (fail)
              go_quiet (go_loud (refine Calls.quiet_of_same (F1.out _)))
              go_wp2
              exact ⟨⟨_, k + 1, rfl, rfl, by omega, by omega, by omega, HN, below_drewN (below_alloc hbel _) _⟩, by simp [intOf]; omega⟩
            · obtain ⟨rfl, f2⟩ := f2 rfl
              have g5 : ¬ 3 < n := by omega
              clear f1
              go_upto_region 17 with (fail)
              go_quiet (fail)
              go_wp2
              exact ⟨⟨_, k + 1, rfl, rfl, by omega, by omega, by omega, HN, below_drewN (below_alloc hbel _) _⟩, by simp [intOf]; omega⟩
        · obtain rfl : k = l.length := by omega
          have hto := hTo.out
          rw [List.drop_length] at hto
          cases hto
          go_wp2
          go_ret
          exact ⟨by simp, below_after hbb7 hbel⟩
end Go.Proofs.YtgippjhkimohlaaDoor
