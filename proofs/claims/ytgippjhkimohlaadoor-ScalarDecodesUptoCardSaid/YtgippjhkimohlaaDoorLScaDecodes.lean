/- ScalarDecodes: the walk. -/
import Derived.Test.YtgippjhkimohlaaDoorScaO
import Derived.Test.YtgippjhkimohlaaDoorScaP
set_option linter.unusedVariables false
set_option linter.unusedSimpArgs false
namespace Go.Proofs.YtgippjhkimohlaaDoor
open Go.RowKit Go.Proofs.YtgippjhkimohlaaDoorW.PrintWords Go.Proofs.YtgippjhkimohlaaDoorW.PrintLast
/-- what is known of the first wrong piece behind k pieces -/
def WAt (l : List (Int × Pc)) (R x : Int) (k : Nat) : Prop := (x = -1 ∧ wrgT (l.drop k) = R) ∨ (0 ≤ x ∧ x = R)
theorem WAt.keep {l : List (Int × Pc)} {R x : Int} {k : Nat} (h : WAt l R x k) (hk : k < l.length) (hb : (l.getD k pc0).2.bad = false ∨ 0 ≤ x) : WAt l R x (k + 1) := by
  rcases h with ⟨rfl, h⟩ | h
  · rcases hb with hb | hb
    · refine Or.inl ⟨rfl, ?_⟩
      rw [List.drop_eq_getElem_cons hk] at h
      have hg : l.getD k pc0 = l[k] := by rw [List.getD_eq_getElem?_getD, List.getElem?_eq_getElem hk]; rfl
      rw [← hg] at h
      unfold wrgT at h
      rw [if_neg (by rw [hb]; decide)] at h
      exact h
    · omega
  · exact Or.inr h
theorem WAt.set_ {l : List (Int × Pc)} {R x : Int} {k : Nat} (h : WAt l R x k) (hk : k < l.length) (hx : x < 0) (hb : (l.getD k pc0).2.bad = true) (h0 : 0 ≤ (l.getD k pc0).1) : WAt l R (l.getD k pc0).1 (k + 1) := by
  rcases h with ⟨rfl, h⟩ | h
  · refine Or.inr ⟨h0, ?_⟩
    rw [List.drop_eq_getElem_cons hk] at h
    have hg : l.getD k pc0 = l[k] := by rw [List.getD_eq_getElem?_getD, List.getElem?_eq_getElem hk]; rfl
    rw [← hg] at h
    unfold wrgT at h
    rw [if_pos hb] at h
    exact h
  · omega
set_option maxRecDepth 100000 in
set_option maxHeartbeats 4000000 in
theorem scalarDecodes_any (s : ByteArray) (w : World) (hs : s.size ≤ 1048576) (T : Tabs w) : Calls Tryd.prog 3 #[.string s] w fun e w' => e = .returned (.bool true) ∧ Below w.heap.size w w' := by
  have Haw := Lib.hid (awake_any w T)
  have Hd := Lib.hid (fun W (h : Below w.heap.size w W) => Decode_any s W (by omega) (Utf8Tabs_below T h))
  have Hrd := Lib.hid (fun W => RDecode_any s W (by omega))
  have Hp := Lib.hid (fun W (h : Below w.heap.size w W) => Pieces_any s W (by omega) (Utf8Tabs_below T h))
  have Hrp := Lib.hid (fun W => RPieces_any s W (by omega))
  have Hw := Lib.hid (fun W (h : Below w.heap.size w W) => Wrong_any s W (by omega) (Utf8Tabs_below T h))
  have hpos : ∀ p ∈ pcs s 0, 0 ≤ p.1 := fun p hp => ((To.all s s.size 0 (by omega) (by omega) (by omega)).mem (by omega) p hp).1
  have hn := pcs_len s s.size 0 (by omega) (by omega)
  have hst : WAt (pcs s 0) (wrgT (pcs s 0)) (-1) 0 := Or.inl ⟨rfl, rfl⟩
  generalize decT s = dl at *
  generalize wrgT (pcs s 0) = R at *
  generalize pcs s 0 = l at *
  have Hsame := Lib.hid (fun A B ca cb W => runes_same dl A B ca cb W)
  have HW0 := Lib.hid hst
  have Hpos := Lib.hid hpos
  clear hst hpos
  go_enter Tryd.func3, Tryd.ntmps3
  go_wp2_with (first
    | (go_at_call 17; (with_reducible refine (Haw.out).mono ?_); rintro e w1 ⟨rfl, hb1⟩)
    | (go_at_call 19; (with_reducible refine (Hd.out _ hb1).mono ?_); rintro e w2 ⟨hb2, v2, rfl, ho2⟩; obtain ⟨A2, c2, rfl, hr2⟩ := own_reads ho2; have hbb2 := below_after hb1 hb2)
    | (go_at_call 20; (with_reducible refine (Hrd.out _).mono ?_); rintro e w3 ⟨hb3, v3, rfl, ho3⟩; obtain ⟨A3, c3, rfl, hr3⟩ := own_reads ho3; have hbb3 := below_after hbb2 hb3; have hr2' := (fun h => ReadsInt.below h hb3) hr2)
    | (go_at_call 18; (with_reducible refine (Hsame.out _ _ _ _ _ hr2' hr3).mono ?_); rintro e w4 ⟨rfl, n4, rfl⟩; have hbb4 := below_drewN hbb3 n4)
    | (go_at_call 21; (with_reducible refine (Hp.out _ hbb4).mono ?_); rintro e w5 ⟨hb5, v5, rfl, ho5⟩; obtain ⟨A5, c5, rfl, hc5, hr5⟩ := ho5.reads; have hbb5 := below_after hbb4 hb5)
    | (go_at_call 22; (with_reducible refine (Hrp.out _).mono ?_); rintro e w6 ⟨hb6, v6, rfl, ho6⟩; obtain ⟨A6, c6, rfl, hc6, hr6⟩ := ho6.reads; have hbb6 := below_after hbb5 hb6; have hr5' := (fun h => ReadsRow.imp_ h hb6 (fun p c h => h)) hr5))
  have H5 := Lib.hid hr5'
  have H6 := Lib.hid hr6
  clear hr2 hr2' hr3 hr5 hr5' hr6 ho2 ho3 ho5 ho6
  go_loopw [5, 28] (fun x i wr => ∃ (x' : Int) (k : Nat), x = .int .i64 x' ∧ i = .int .i64 (k : Int) ∧ k ≤ l.length ∧ Hid (WAt l R x' k) ∧ Below w6.heap.size w6 wr) (fun _ i _ => l.length - (intOf i).toNat)
  case atStart => exact ⟨-1, 0, rfl, rfl, by omega, HW0, Below.refl _ _⟩
  case round =>
    clear HW0
    obtain ⟨x, k, rfl, rfl, hk, hW, hbel⟩ := hrel
    by_cases hlt : k < l.length
    · obtain ⟨ad, rfl, d0, d1, d2, d3⟩ := piece_at (H5.out.imp_ hbel (fun p c h => h)) k hlt
      obtain ⟨bd, rfl, e0, e1, e2, e3⟩ := piece_at (H6.out.imp_ hbel (fun p c h => h)) k hlt
      have hke := fun h => Lib.hid (hW.out.keep hlt h)
      have hse := fun h1 h2 => Lib.hid (hW.out.set_ hlt h1 h2 (Hpos.out _ (by rw [List.getD_eq_getElem?_getD, List.getElem?_eq_getElem hlt]; exact List.getElem_mem _)))
      have Hpc := Lib.hid (fun W => piece_same (l.getD k pc0).1 (l.getD k pc0).2 W)
      have hxr : -1 ≤ x := by rcases hW.out with h | h <;> omega
      obtain ⟨⟨y, n, r, b⟩, hg⟩ : ∃ q, l.getD k pc0 = q := ⟨_, rfl⟩
      simp only [hg] at d0 d1 d2 d3 e0 e1 e2 e3 hke hse Hpc
      have Hg := Lib.hid hg
      clear hW hg
      go_upto_region 10 with (fail)
      refine start_ (n := 10) (S := (fun w' => Below w6.heap.size w6 w')) (ds := []) #[false, false, false, false, false, false, false, false, false, false] (by kernel_rfl) rfl rfl hbel.drew (fun hHeld => ?_)
      refine pure_ (i := 0) (N := some 31) (v := ?_) (a' := ?_) #[true, false, false, false, false, false, false, false, false, false] rfl rfl (by kernel_rfl) (fun _ _ _ h => h) (Or.inl ⟨by rfl, ?_⟩) ?_ ?_
      rotate_left
      · intro w'
        go_simp
        with_reducible rfl
      rotate_left
      · simp only [Act.put, List.setIfInBounds_toArray, List.set_cons_zero, List.set_cons_succ, i64_w, i32_w]
        rfl
      refine pure_ (i := 1) (N := some 32) (v := ?_) (a' := ?_) #[true, true, false, false, false, false, false, false, false, false] rfl rfl (by kernel_rfl) (fun _ _ _ h => h) (Or.inl ⟨by rfl, ?_⟩) ?_ ?_
      rotate_left
      · intro w'
        go_simp
        with_reducible rfl
      rotate_left
      · simp only [Act.put, List.setIfInBounds_toArray, List.set_cons_zero, List.set_cons_succ, i64_w, i32_w]
        rfl
      refine pure_ (i := 2) (N := some 33) (v := ?_) (a' := ?_) #[true, true, true, false, false, false, false, false, false, false] rfl rfl (by kernel_rfl) (fun _ _ _ h => h) (Or.inl ⟨by rfl, ?_⟩) ?_ ?_
      rotate_left
      · intro w'
        go_simp
        with_reducible rfl
      rotate_left
      · simp only [Act.put, List.setIfInBounds_toArray, List.set_cons_zero, List.set_cons_succ, i64_w, i32_w]
        rfl
      refine pure_ (i := 4) (N := some 35) (v := ?_) (a' := ?_) #[true, true, true, false, true, false, false, false, false, false] rfl rfl (by kernel_rfl) (fun _ _ _ h => h) (Or.inl ⟨by rfl, ?_⟩) ?_ ?_
      rotate_left
      · intro w'
        go_simp
        with_reducible rfl
      rotate_left
      · simp only [Act.put, List.setIfInBounds_toArray, List.set_cons_zero, List.set_cons_succ, i64_w, i32_w]
        rfl
      refine pure_ (i := 5) (N := some 36) (v := ?_) (a' := ?_) #[true, true, true, false, true, true, false, false, false, false] rfl rfl (by kernel_rfl) (fun _ _ _ h => h) (Or.inl ⟨by rfl, ?_⟩) ?_ ?_
      rotate_left
      · intro w'
        go_simp
        with_reducible rfl
      rotate_left
      · simp only [Act.put, List.setIfInBounds_toArray, List.set_cons_zero, List.set_cons_succ, i64_w, i32_w]
        rfl
      refine pure_ (i := 6) (N := some 37) (v := ?_) (a' := ?_) #[true, true, true, false, true, true, true, false, false, false] rfl rfl (by kernel_rfl) (fun _ _ _ h => h) (Or.inl ⟨by rfl, ?_⟩) ?_ ?_
      rotate_left
      · intro w'
        go_simp
        with_reducible rfl
      rotate_left
      · simp only [Act.put, List.setIfInBounds_toArray, List.set_cons_zero, List.set_cons_succ, i64_w, i32_w]
        rfl
      refine take_ (i := 3) (N := some 34) (v := ?_) (a' := ?_) #[true, true, true, true, true, true, true, false, false, false] rfl rfl (by kernel_rfl) (fun _ _ _ h => h) (Or.inl ⟨by rfl, ?_⟩) hHeld ?_ ?_
      rotate_left
      · rintro w' s0
        obtain ⟨ad1, had1, m0, m1, m2, m3⟩ := piece_at (H5.out.imp_ s0 (fun p c h => h)) k hlt
        obtain rfl := Option.some.inj had1
        obtain ⟨bd1, hbd1, f0, f1, f2, f3⟩ := piece_at (H6.out.imp_ s0 (fun p c h => h)) k hlt
        obtain rfl := Option.some.inj hbd1
        simp only [Hg.out] at m0 m1 m2 m3 f0 f1 f2 f3
        go_simp
        with_reducible rfl
      rotate_left
      · simp only [Act.put, List.setIfInBounds_toArray, List.set_cons_zero, List.set_cons_succ, i64_w, i32_w]
        rfl
      refine take_ (i := 7) (N := some 38) (v := ?_) (a' := ?_) #[true, true, true, true, true, true, true, true, false, false] rfl rfl (by kernel_rfl) (fun _ _ _ h => h) (Or.inl ⟨by rfl, ?_⟩) hHeld ?_ ?_
      rotate_left
      · rintro w' s0
        obtain ⟨ad1, had1, m0, m1, m2, m3⟩ := piece_at (H5.out.imp_ s0 (fun p c h => h)) k hlt
        obtain rfl := Option.some.inj had1
        obtain ⟨bd1, hbd1, f0, f1, f2, f3⟩ := piece_at (H6.out.imp_ s0 (fun p c h => h)) k hlt
        obtain rfl := Option.some.inj hbd1
        simp only [Hg.out] at m0 m1 m2 m3 f0 f1 f2 f3
        go_simp
        with_reducible rfl
      rotate_left
      · simp only [Act.put, List.setIfInBounds_toArray, List.set_cons_zero, List.set_cons_succ, i64_w, i32_w]
        rfl
      refine one_ (i := 8) (N := some 39) #[true, true, true, true, true, true, true, true, true, false] rfl rfl (by kernel_rfl) (by decide) (fun K hK => ?_)
      refine goes_ Tryd.func23 (by kernel_rfl) rfl #[pcV y ⟨n, r, b⟩, pcV y ⟨n, r, b⟩] (by rfl) rfl rfl (by first | rfl | (simp only [List.map_toArray, List.map_cons, List.map_nil]; done) | (simp only [List.map_toArray, List.map_cons, List.map_nil]; rfl)) ?_
      refine (Hpc.out _).mono ?_
      rintro _ w7 ⟨rfl, hb7⟩
      refine ⟨_, rfl, ?_⟩
      refine hK.out _ _ (below_after hHeld hb7) (fun hHeld => ?_)
      clear hK K
      refine norm_ (a' := ?_) ?_ ?_
      rotate_left
      · show Act.put _ (some 39) _ = _
        simp only [Act.put, List.setIfInBounds_toArray, List.set_cons_zero, List.set_cons_succ, i64_w, i32_w]
        rfl
      refine pure_ (i := 9) (N := some 40) (v := ?_) (a' := ?_) #[true, true, true, true, true, true, true, true, true, true] rfl rfl (by kernel_rfl) (fun _ _ _ h => h) (Or.inl ⟨by rfl, ?_⟩) ?_ ?_
      rotate_left
      · intro w'
        go_simp
        with_reducible rfl
      rotate_left
      · simp only [Act.put, List.setIfInBounds_toArray, List.set_cons_zero, List.set_cons_succ, i64_w, i32_w]
        rfl
      refine done_ (by kernel_rfl) ?_
      obtain ⟨bd1, hbd1, f0, f1, f2, f3⟩ := piece_at (H6.out.imp_ hHeld (fun p c h => h)) k hlt
      obtain rfl := Option.some.inj hbd1
      simp only [Hg.out] at f0 f1 f2 f3
      have hz : Below w6.heap.size w6 w7 := hHeld
      by_cases hx0 : x < 0
      · cases b
        · have HN := hke (Or.inl rfl)
          go_wp2
          exact ⟨⟨_, k + 1, rfl, rfl, by omega, HN, hz⟩, by simp [intOf]; omega⟩
        · have HN := hse hx0 rfl
          go_wp2
          exact ⟨⟨_, k + 1, rfl, rfl, by omega, HN, hz⟩, by simp [intOf]; omega⟩
      · have HN := hke (Or.inr (by omega))
        go_wp2
        exact ⟨⟨_, k + 1, rfl, rfl, by omega, HN, hz⟩, by simp [intOf]; omega⟩
    · obtain rfl : k = l.length := by omega
      have hx : x = R := by
        rcases hW.out with ⟨rfl, h⟩ | h
        · rw [List.drop_length] at h; unfold wrgT at h; exact h
        · exact h.2
      subst hx
      go_wp2_with (go_at_call 24; (with_reducible refine (Hw.out _ (below_after hbb6 hbel)).mono ?_); rintro e w7 ⟨rfl, hb7⟩)
      go_ret
      exact ⟨by simp, below_after (below_after hbb6 hbel) hb7⟩
end Go.Proofs.YtgippjhkimohlaaDoor
