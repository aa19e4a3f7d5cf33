/- Opaque: Parse by the program. -/
import Derived.Test.YtebpghpaglpdlaaDoorOpqA
set_option linter.unusedVariables false
set_option linter.unusedSimpArgs false
namespace Go.Proofs.YtebpghpaglpdlaaDoor
open Go.RowKit Go.Proofs.YtebpghpaglpdlaaDoorW.PrintWords Go.Proofs.YtebpghpaglpdlaaDoorW.PrintLast
theorem Host_any (p : Int) (w : World) : Calls Tryd.prog 14 #[.int .i32 p] w fun e w' => e = .returned (.bool (inT p 9)) ∧ Below w.heap.size w w' := by
  have H := Lib.hid (fun W => in_any p 9 W)
  go_enter Tryd.func14, Tryd.ntmps14
  go_wp2_with (go_at_call 37; (with_reducible refine (H.out _).mono ?_); rintro e w1 ⟨rfl, hb⟩)
  go_ret
  exact ⟨rfl, hb⟩
/-- where the first piece begins that says something of a kind; -1: none does -/
def fstF (f : Int → Bool) : List (Int × Pc) → Int
  | [] => -1
  | p :: l => if f p.2.rune then p.1 else fstF f l
/-- a text, its bytes of the control set coded -/
def ctlS (s : ByteArray) : ByteArray := strOfNums (Z.encL (inSet (nW 1)) (bytesOf s))
theorem fstF_drop {f : Int → Bool} {l : List (Int × Pc)} {k : Nat} (h : k < l.length) : fstF f (l.drop k) = if f (l.getD k pc0).2.rune then (l.getD k pc0).1 else fstF f (l.drop (k + 1)) := by
  rw [List.drop_eq_getElem_cons h]
  have hg : l.getD k pc0 = l[k] := by rw [List.getD_eq_getElem?_getD, List.getElem?_eq_getElem h]; rfl
  rw [hg]
  rfl
/-- what Parse tells -/
def parV (s : ByteArray) : Value := if 0 ≤ fstF (fun r => inT r 9) (pcs s 0) then .tuple #[.string ByteArray.empty, .int .i64 (fstF (fun r => inT r 9) (pcs s 0)), .int .i64 220] else .tuple #[.string (ctlS (encS (decT s))), .int .i64 0, .int .i64 0]
set_option maxRecDepth 100000 in
set_option maxHeartbeats 4000000 in
theorem Parse_any (s : ByteArray) (w : World) (hs : s.size ≤ 16777216) (T : Tabs w) : Calls Tryd.prog 11 #[.string s] w fun e w' => e = .returned (parV s) ∧ Below w.heap.size w w' := by
  have hp := Pieces_any s w (by omega) T
  have hn := pcs_len s s.size 0 (by omega) (by omega)
  have hpos : ∀ p ∈ pcs s 0, 0 ≤ p.1 := fun p hp => ((To.all s s.size 0 (by omega) (by omega) (by omega)).mem (by omega) p hp).1
  have hcl := fun W (h : Below w.heap.size w W) => Clean_any s W (by omega) (Utf8Tabs_below T h)
  have hdl : (decT s).length ≤ s.size := by unfold decT; rw [List.length_map]; exact hn
  have hel : (encS (decT s)).size ≤ 4 * (decT s).length := by rw [encS_size]; exact encL_len _
  have henc := fun W => Z.encode_any (encS (decT s)) (rd (nW 1) 0) (rd (nW 1) 1) (rd (nW 1) 2) (rd (nW 1) 3) W (by omega)
  have hnm := fun W => named_any 1 W
  have hctl : strOfNums (Z.encL (inSet [rd (nW 1) 0, rd (nW 1) 1, rd (nW 1) 2, rd (nW 1) 3]) (bytesOf (encS (decT s)))) = ctlS (encS (decT s)) := by rw [← nW_four]; rfl
  rw [hctl] at henc
  obtain ⟨V, hV⟩ : ∃ V, parV s = V := ⟨_, rfl⟩
  rw [hV]
  obtain ⟨F, hF⟩ : ∃ F, fstF (fun r => inT r 9) (pcs s 0) = F := ⟨_, rfl⟩
  unfold parV at hV
  rw [hF] at hV
  have hF0 : fstF (fun r => inT r 9) ((pcs s 0).drop 0) = F := hF
  clear hctl hF
  generalize ctlS (encS (decT s)) = E at *
  generalize encS (decT s) = C at *
  generalize rd (nW 1) 0 = x0 at *
  generalize rd (nW 1) 1 = x1 at *
  generalize rd (nW 1) 2 = x2 at *
  generalize rd (nW 1) 3 = x3 at *
  generalize nE 1 = ne at *
  have hV1 : 0 ≤ F → V = .tuple #[.string ByteArray.empty, .int .i64 F, .int .i64 220] := fun h => by rw [← hV, if_pos h]
  have hV2 : F = -1 → V = .tuple #[.string E, .int .i64 0, .int .i64 0] := fun h => by rw [← hV, if_neg (by omega)]
  have HV1 := Lib.hid hV1
  have HV2 := Lib.hid hV2
  clear hV hV1 hV2
  generalize pcs s 0 = l at *
  have HF0 := Lib.hid hF0
  have Hp := Lib.hid hp
  have Hcl := Lib.hid hcl
  have Henc := Lib.hid henc
  have Hnm := Lib.hid hnm
  have Hpos := Lib.hid hpos
  have Hho := Lib.hid (fun r W => Host_any r W)
  clear hF0 hp hcl henc hnm hpos hel hdl
  go_enter Tryd.func11, Tryd.ntmps11
  go_wp2_with (go_at_call 33; (with_reducible refine (Hp.out).mono ?_); rintro e w1 ⟨hb1, v, rfl, ho⟩; obtain ⟨A1, c1, rfl, hc1, hr⟩ := ho.reads)
  have Hr := Lib.hid hr
  clear ho hr
  go_loopw [12] (fun i wr => ∃ k : Nat, i = .int .i64 (k : Int) ∧ k ≤ l.length ∧ Hid (fstF (fun r => inT r 9) (l.drop k) = F) ∧ Below w1.heap.size w1 wr) (fun i _ => l.length - (intOf i).toNat)
  case atStart => exact ⟨0, rfl, by omega, HF0, Below.refl _ _⟩
  case round =>
    clear HF0
    obtain ⟨k, rfl, hk, hw, hbel⟩ := hrel
    have hb3 := below_after hb1 hbel
    by_cases hlt : k < l.length
    · obtain ⟨ad, rfl, d0, d1, d2, d3⟩ := piece_at (Hr.out.imp_ hbel (fun p c h => h)) k hlt
      have hw2 := hw.out
      rw [fstF_drop hlt] at hw2
      have hp0 : 0 ≤ (l.getD k pc0).1 := Hpos.out _ (by rw [List.getD_eq_getElem?_getD, List.getElem?_eq_getElem hlt]; exact List.getElem_mem _)
      generalize (l.getD k pc0).1 = x at *
      generalize (l.getD k pc0).2.size = x1' at *
      generalize (l.getD k pc0).2.rune = x2' at *
      generalize (l.getD k pc0).2.bad = x3' at *
      have hh := Hho.out x2'
      have hblk := Blk.new wr 49 #[.int .i64 x, .int .i64 x1', .int .i32 x2', .bool x3']
      have hL := below_alloc hb3 (.cells #[.int .i64 x, .int .i64 x1', .int .i32 x2', .bool x3'] 49)
      cases hc : inT x2' 9 with
      | true =>
        rw [hc] at hw2 hh
        simp only [if_true] at hw2
        subst hw2
        have HH := Lib.hid hh
        clear hh hc hw
        go_upto_region 5 with (go_at_call 14; (with_reducible refine (HH.out _).mono ?_); rintro e w2 ⟨rfl, hb2⟩; have hblk2 := (fun h => Blk.after h hb2) hblk; have hL2 := below_after hL hb2; (obtain ⟨g0, g1, g2, g3, g4, g5, g6, g7⟩ := Blk.facts hblk2))
        go_quiet (fail)
        go_wp2
        go_ret3
        exact ⟨by rw [HV1.out hp0]; rfl, below_drewN hL2 _⟩
      | false =>
        rw [hc] at hw2 hh
        simp only [Bool.false_eq_true, if_false] at hw2
        have HH := Lib.hid hh
        have HW := Lib.hid hw2
        clear hh hc hw hw2
        go_wp2_with (go_at_call 14; (with_reducible refine (HH.out _).mono ?_); rintro e w2 ⟨rfl, hb2⟩)
        exact ⟨⟨k + 1, rfl, by omega, HW, (below_alloc hbel _).trans ⟨hb2.os, hb2.tape, hb2.output, hb2.size, fun i hi => hb2.block i (by have := hbel.size; rw [size_alloc]; omega)⟩⟩, by simp [intOf]; omega⟩
    · obtain rfl : k = l.length := by omega
      have hw2 := hw.out
      rw [List.drop_length] at hw2
      have hFn : F = -1 := hw2.symm
      subst hFn
      clear hw hw2
      go_upto_region 8 with (go_at_call 34; (with_reducible refine (Hnm.out _).mono ?_); rintro e w2 ⟨rfl, hb2⟩)
      have hB2 := Blk.new w2 52 (arr4 x0 x1 x2 x3)
      have hL2 := below_alloc (below_after hb3 hb2) (.cells (arr4 x0 x1 x2 x3) 52)
      obtain ⟨g, hg⟩ : ∃ g, w2.heap.size = g := ⟨_, rfl⟩
      rw [hg] at hB2
      simp only [hg]
      have Hg := Lib.hid hg
      clear hg
      refine start_ (n := 7) (S := (fun w' => Blk w' g 52 (arr4 x0 x1 x2 x3) ∧ Below w.heap.size w w')) (ds := []) #[false, false, false, false, false, false, false] (by kernel_rfl) rfl rfl ⟨hB2.drew, hL2.drew⟩ (fun hHeld => ?_)
      refine pure_ (i := 0) (N := some 26) (v := ?_) (a' := ?_) #[true, false, false, false, false, false, false] rfl rfl (by kernel_rfl) (fun _ _ _ h => h) (Or.inl ⟨by rfl, ?_⟩) ?_ ?_
      rotate_left
      · intro w'
        go_simp
        with_reducible rfl
      rotate_left
      · simp only [Act.put, List.setIfInBounds_toArray, List.set_cons_zero, List.set_cons_succ, i64_w, i32_w]
        rfl
      refine take_ (i := 2) (N := some 28) (v := ?_) (a' := ?_) #[true, false, true, false, false, false, false] rfl rfl (by kernel_rfl) (fun _ _ _ h => h) (Or.inl ⟨by rfl, ?_⟩) hHeld ?_ ?_
      rotate_left
      · rintro w' ⟨s1, s2⟩
        refine exec_load_blk 52 (.tmp 7) ?_ g ?_ 52 s1 _ Tryd.underlying52 rfl 4 size_B rfl
        · rfl
        · rfl
      rotate_left
      · simp only [Act.put, List.setIfInBounds_toArray, List.set_cons_zero, List.set_cons_succ, i64_w, i32_w]
        rfl
      refine one_ (i := 1) (N := some 27) #[true, true, true, false, false, false, false] rfl rfl (by kernel_rfl) (by decide) (fun K hK => ?_)
      refine goes_ Tryd.func36 (by kernel_rfl) rfl #[.string s] (by rfl) rfl rfl (by first | rfl | (simp only [List.map_toArray, List.map_cons, List.map_nil]; done) | (simp only [List.map_toArray, List.map_cons, List.map_nil]; rfl)) ?_
      refine (Hcl.out _ hHeld.2).mono ?_
      rintro _ w5 ⟨rfl, hb5⟩
      refine ⟨_, rfl, ?_⟩
      refine hK.out _ _ (⟨hHeld.1.after hb5, below_after hHeld.2 hb5⟩) (fun hHeld => ?_)
      clear hK K
      refine norm_ (a' := ?_) ?_ ?_
      rotate_left
      · show Act.put _ (some 27) _ = _
        simp only [Act.put, List.setIfInBounds_toArray, List.set_cons_zero, List.set_cons_succ, i64_w, i32_w]
        rfl
      refine one_ (i := 3) (N := some 29) #[true, true, true, true, false, false, false] rfl rfl (by kernel_rfl) (by decide) (fun K hK => ?_)
      refine goes_ Tryd.func35 (by kernel_rfl) rfl #[.string C, set4 x0 x1 x2 x3] (by rfl) rfl rfl (by first | rfl | (simp only [List.map_toArray, List.map_cons, List.map_nil]; done) | (simp only [List.map_toArray, List.map_cons, List.map_nil]; rfl)) ?_
      refine (Henc.out _).mono ?_
      rintro _ w6 ⟨rfl, hb6⟩
      refine ⟨_, rfl, ?_⟩
      refine hK.out _ _ (⟨hHeld.1.after hb6, below_after hHeld.2 hb6⟩) (fun hHeld => ?_)
      clear hK K
      refine norm_ (a' := ?_) ?_ ?_
      rotate_left
      · show Act.put _ (some 29) _ = _
        simp only [Act.put, List.setIfInBounds_toArray, List.set_cons_zero, List.set_cons_succ, i64_w, i32_w]
        rfl
      refine pure_ (i := 4) (N := some 2) (v := ?_) (a' := ?_) #[true, true, true, true, true, false, false] rfl rfl (by kernel_rfl) (fun _ _ _ h => h) (Or.inl ⟨by rfl, ?_⟩) ?_ ?_
      rotate_left
      · intro w'
        go_simp
        with_reducible rfl
      rotate_left
      · simp only [Act.put, List.setIfInBounds_toArray, List.set_cons_zero, List.set_cons_succ, i64_w, i32_w]
        rfl
      refine pure_ (i := 5) (N := some 3) (v := ?_) (a' := ?_) #[true, true, true, true, true, true, false] rfl rfl (by kernel_rfl) (fun _ _ _ h => h) (Or.inl ⟨by rfl, ?_⟩) ?_ ?_
      rotate_left
      · intro w'
        go_simp
        with_reducible rfl
      rotate_left
      · simp only [Act.put, List.setIfInBounds_toArray, List.set_cons_zero, List.set_cons_succ, i64_w, i32_w]
        rfl
      refine pure_ (i := 6) (N := some 4) (v := ?_) (a' := ?_) #[true, true, true, true, true, true, true] rfl rfl (by kernel_rfl) (fun _ _ _ h => h) (Or.inl ⟨by rfl, ?_⟩) ?_ ?_
      rotate_left
      · intro w'
        go_simp
        with_reducible rfl
      rotate_left
      · simp only [Act.put, List.setIfInBounds_toArray, List.set_cons_zero, List.set_cons_succ, i64_w, i32_w]
        rfl
      refine done_ (by kernel_rfl) ?_
      go_wp2
      go_ret3
      exact ⟨by rw [HV2.out (by first | trivial | rfl)]; rfl, hHeld.2⟩
end Go.Proofs.YtebpghpaglpdlaaDoor
