/- Desk: the document reads a quoted word. -/
import Derived.Test.YtjfdbdjcceecjaaDskB
set_option linter.unusedVariables false
set_option linter.unusedSimpArgs false
namespace Go.Proofs.Ytjfdbdjcceecjaa
open Go.RowKit Go.Proofs.YtjfdbdjcceecjaaW.PrintWords Go.Proofs.YtjfdbdjcceecjaaW.PrintLast
/-- what the document tells of a quoted word -/
def RQRes : Option (List Int × Int) → Value
  | none => .tuple #[.string ByteArray.empty, .int .i64 (-1)]
  | some (l, j) => .tuple #[.string (strOfNums l), .int .i64 j]
set_option maxRecDepth 100000 in
set_option maxHeartbeats 8000000 in
theorem rquoted_any (s : ByteArray) (w : World) (hs : s.size ≤ 140737488351232) : Calls Try.prog 14 #[.string s] w fun e w' => e = .returned (RQRes (qR s 0)) ∧ Below w.heap.size w w' := by
  have hst := QAt.start s 0 (by omega)
  generalize qR s 0 = R at *
  have Hst := Lib.hid hst
  clear hst
  go_enter Try.func14, Try.ntmps14
  go_wp2
  go_loopw [4, 5] (fun v u wr => ∃ (i : Int) (xs : List Int), u = .int .i64 i ∧ 0 ≤ i ∧ i ≤ s.size ∧ Hid (QAt s R i xs) ∧ wr.ownsRow w.heap.size 5 1 v xs.length (nums .u8 xs) ∧ Below w.heap.size w wr) (fun _ u _ => s.size - (intOf u).toNat)
  case atStart => exact ⟨0, [], rfl, by omega, by omega, Hst, own_lit w w.heap.size 5 .u8 [] (Nat.le_refl _) (by simp), below_one _ _⟩
  case round =>
    clear Hst
    obtain ⟨i, xs, rfl, hi1, hi2, hQ, ho, hbel⟩ := hrel
    by_cases hlt : i < s.size
    · have hQ := hQ.out
      have hlen := hQ.2
      have hbt := bt_at s i
      have hbr := bt_range s i
      by_cases c34 : bt s i = 34
      · obtain rfl := hQ.fin hlt c34
        have e34 : (bt s i == 34) = true := beq_iff_eq.2 c34
        have ht := own_string (P := Try.prog) Try.underlying38 Try.underlying5 Try.underlying9 ho
        clear hQ c34
        go_wp2
        go_ret2
        exact ⟨rfl, hbel⟩
      · have e34 : (bt s i == 34) = false := beq_eq_false_iff_ne.2 c34
        by_cases cb : bt s i < 32 ∨ 126 < bt s i
        · obtain rfl := hQ.bad hlt c34 (by unfold itemQ; rw [if_pos cb])
          clear hQ c34
          by_cases c32 : bt s i < 32
          · go_wp2
            go_ret2
            exact ⟨rfl, hbel⟩
          · have c126 : 126 < bt s i := by omega
            go_wp2
            go_ret2
            exact ⟨rfl, hbel⟩
        · have cb1 : 32 ≤ bt s i := by omega
          have cb2 : bt s i ≤ 126 := by omega
          by_cases c92 : bt s i = 92
          · have e92 : (bt s i != 92) = false := by rw [bne_eq_false_iff_eq]; exact c92
            by_cases cz : s.size ≤ i + 1
            · obtain rfl := hQ.bad hlt c34 (by unfold itemQ; rw [if_neg cb, if_neg (not_not_intro c92), if_pos cz])
              clear hQ c34 c92 cb
              have hz : ((i + 1) == (s.size : Int)) = true := beq_iff_eq.2 (by omega)
              go_wp2
              go_ret2
              exact ⟨rfl, hbel⟩
            · have hz : ((i + 1) == (s.size : Int)) = false := beq_eq_false_iff_ne.2 (by omega)
              have hz2 : i + 1 < (s.size : Int) := by omega
              have hbt1 := bt_at s (i + 1)
              have hbr1 := bt_range s (i + 1)
              have hbt2 := bt_at s (i + 2)
              have hbr2 := bt_range s (i + 2)
              have hbt3 := bt_at s (i + 3)
              have hbr3 := bt_range s (i + 3)
              rw [show i + 2 = i + 1 + 1 by omega] at hbt2 hbr2
              rw [show i + 3 = i + 1 + 2 by omega] at hbt3 hbr3
              have hIe : 0 ≤ escV (bt s (i + 1)) → itemQ s i = some (escV (bt s (i + 1)), i + 2) := fun ce => by unfold itemQ; rw [if_neg cb, if_neg (not_not_intro c92), if_neg cz, if_pos ce]
              have hI : ¬ 0 ≤ escV (bt s (i + 1)) → itemQ s i = if bt s (i + 1) ≠ 120 ∨ s.size ≤ i + 1 + 2 ∨ hexV (bt s (i + 1 + 1)) < 0 ∨ hexV (bt s (i + 1 + 2)) < 0 then none else some (16 * hexV (bt s (i + 1 + 1)) + hexV (bt s (i + 1 + 2)), i + 4) := fun ce => by
                unfold itemQ
                rw [if_neg cb, if_neg (not_not_intro c92), if_neg cz, if_neg ce, show i + 2 = i + 1 + 1 by omega, show i + 3 = i + 1 + 2 by omega]
              have hsm1 := fun W => hex_any (bt s (i + 1 + 1)) W hbr2.1 hbr2.2
              have hsm2 := fun W => hex_any (bt s (i + 1 + 2)) W hbr3.1 hbr3.2
              generalize bt s (i + 1) = d at *
              rcases (by omega : d = 34 ∨ d = 92 ∨ d = 110 ∨ d = 114 ∨ d = 116 ∨ d = 120 ∨ (d ≠ 34 ∧ d ≠ 92 ∧ d ≠ 110 ∧ d ≠ 114 ∧ d ≠ 116 ∧ d ≠ 120)) with rfl | rfl | rfl | rfl | rfl | rfl | hd
              · have HQ2 := Lib.hid (hQ.go hlt hi1 c34 (hIe (by decide)))
                clear hQ c34 c92 cb hI hIe
                go_wp2_with (at_builtin; refine print_append_num (w0 := w) (W := wr) w.heap.size rfl (.tmp 47) (.tmp 51) 38 5 .u8 1 rfl Try.underlying38 info_u8 (by decide) _ xs _ rfl rfl ho hbel hbel.size (by omega) ?_; intro v1 w1 ho1 hb1 hg1 hat1)
                exact ⟨⟨i + 2, _, by go_num, by omega, by omega, HQ2, ho1, hb1⟩, by simp [intOf]; omega⟩
              · have HQ2 := Lib.hid (hQ.go hlt hi1 c34 (hIe (by decide)))
                clear hQ c34 c92 cb hI hIe
                go_wp2_with (at_builtin; refine print_append_num (w0 := w) (W := wr) w.heap.size rfl (.tmp 47) (.tmp 51) 38 5 .u8 1 rfl Try.underlying38 info_u8 (by decide) _ xs _ rfl rfl ho hbel hbel.size (by omega) ?_; intro v1 w1 ho1 hb1 hg1 hat1)
                exact ⟨⟨i + 2, _, by go_num, by omega, by omega, HQ2, ho1, hb1⟩, by simp [intOf]; omega⟩
              · have HQ2 := Lib.hid (hQ.go hlt hi1 c34 (hIe (by decide)))
                clear hQ c34 c92 cb hI hIe
                go_wp2_with (at_builtin; refine print_append_num (w0 := w) (W := wr) w.heap.size rfl (.tmp 55) (.tmp 56) 38 5 .u8 1 rfl Try.underlying38 info_u8 (by decide) _ xs _ rfl rfl ho hbel hbel.size (by omega) ?_; intro v1 w1 ho1 hb1 hg1 hat1)
                exact ⟨⟨i + 2, _, by go_num, by omega, by omega, HQ2, ho1, hb1⟩, by simp [intOf]; omega⟩
              · have HQ2 := Lib.hid (hQ.go hlt hi1 c34 (hIe (by decide)))
                clear hQ c34 c92 cb hI hIe
                go_wp2_with (at_builtin; refine print_append_num (w0 := w) (W := wr) w.heap.size rfl (.tmp 60) (.tmp 61) 38 5 .u8 1 rfl Try.underlying38 info_u8 (by decide) _ xs _ rfl rfl ho hbel hbel.size (by omega) ?_; intro v1 w1 ho1 hb1 hg1 hat1)
                exact ⟨⟨i + 2, _, by go_num, by omega, by omega, HQ2, ho1, hb1⟩, by simp [intOf]; omega⟩
              · have HQ2 := Lib.hid (hQ.go hlt hi1 c34 (hIe (by decide)))
                clear hQ c34 c92 cb hI hIe
                go_wp2_with (at_builtin; refine print_append_num (w0 := w) (W := wr) w.heap.size rfl (.tmp 65) (.tmp 66) 38 5 .u8 1 rfl Try.underlying38 info_u8 (by decide) _ xs _ rfl rfl ho hbel hbel.size (by omega) ?_; intro v1 w1 ho1 hb1 hg1 hat1)
                exact ⟨⟨i + 2, _, by go_num, by omega, by omega, HQ2, ho1, hb1⟩, by simp [intOf]; omega⟩
              · replace hI := hI (by decide)
                by_cases cl : s.size ≤ i + 1 + 2
                · obtain rfl := hQ.bad hlt c34 (by rw [hI, if_pos (Or.inr (Or.inl cl))])
                  clear hQ c34 c92 cb hI hIe hsm1 hsm2
                  go_wp2
                  go_ret2
                  exact ⟨rfl, hbel⟩
                · have hl2 : i + 1 + 2 < (s.size : Int) := by omega
                  have hv1 := hexV_range (bt s (i + 1 + 1))
                  have hv2 := hexV_range (bt s (i + 1 + 2))
                  generalize hexV (bt s (i + 1 + 1)) = v1 at *
                  generalize hexV (bt s (i + 1 + 2)) = v2 at *
                  have HI := Lib.hid hI
                  clear hI hIe
                  by_cases d1 : v1 < 0
                  · obtain rfl := hQ.bad hlt c34 (by rw [HI.out, if_pos (Or.inr (Or.inr (Or.inl d1)))])
                    clear hQ c34 c92 cb
                    go_wp2_with (first | (go_at_call 17; (with_reducible refine (hsm1 _).mono ?_); rintro e w' ⟨rfl, rfl⟩) | (go_at_call 17; (with_reducible refine (hsm2 _).mono ?_); rintro e w' ⟨rfl, rfl⟩))
                    go_ret2
                    exact ⟨rfl, hbel⟩
                  · by_cases d2 : v2 < 0
                    · obtain rfl := hQ.bad hlt c34 (by rw [HI.out, if_pos (Or.inr (Or.inr (Or.inr d2)))])
                      clear hQ c34 c92 cb
                      go_wp2_with (first | (go_at_call 17; (with_reducible refine (hsm1 _).mono ?_); rintro e w' ⟨rfl, rfl⟩) | (go_at_call 17; (with_reducible refine (hsm2 _).mono ?_); rintro e w' ⟨rfl, rfl⟩))
                      go_ret2
                      exact ⟨rfl, hbel⟩
                    · have HQ2 := Lib.hid (hQ.go hlt (by omega) c34 (by rw [HI.out, if_neg (by rintro (h | h | h | h); exact h rfl; omega; omega; omega)]))
                      have hd1 : 0 ≤ v1 := by omega
                      have hd2 : 0 ≤ v2 := by omega
                      clear hQ c34 c92 cb HI
                      have k1 : wrap64 (i + 1 + 1) = i + 1 + 1 := by unfold wrap64; omega
                      have k2 : wrap64 (i + 1 + 2) = i + 1 + 2 := by unfold wrap64; omega
                      have k3 : wrap64 (16 * v1) = 16 * v1 := by unfold wrap64; omega
                      have k4 : wrap64 (16 * v1 + v2) = 16 * v1 + v2 := by unfold wrap64; omega
                      have k5 : IntKind.u8.wrap (16 * v1 + v2) = 16 * v1 + v2 := by rw [IntKind.wrap_u8]; omega
                      have n1 : 0 ≤ i + 1 + 1 := by omega
                      have n2 : 0 ≤ i + 1 + 2 := by omega
                      have n3 : i + 1 + 1 < (s.size : Int) := by omega
                      go_upto_region 29 with (first | (go_at_call 17; (with_reducible refine (hsm1 _).mono ?_); rintro e w' ⟨rfl, rfl⟩) | (go_at_call 17; (with_reducible refine (hsm2 _).mono ?_); rintro e w' ⟨rfl, rfl⟩))
                      have hst : ∀ w1 w2 : World, (Below w.heap.size w w1 ∧ w1.ownsRow w.heap.size 5 1 u4 xs.length (nums .u8 xs)) → Below w1.heap.size w1 w2 → (Below w.heap.size w w2 ∧ w2.ownsRow w.heap.size 5 1 u4 xs.length (nums .u8 xs)) := fun _ _ ⟨h1, h2⟩ h => ⟨below_after h1 h, pw_own_below h2 h⟩
                      refine start_ (n := 17) (S := (fun w' => Below w.heap.size w w' ∧ w'.ownsRow w.heap.size 5 1 u4 xs.length (nums .u8 xs))) (ds := [15]) #[false, false, false, false, false, false, false, false, false, false, false, false, false, false, false, false, false] (by kernel_rfl) rfl rfl ⟨hbel.drew, ho⟩ (fun hHeld => ?_)
                      refine pure_ (i := 0) (N := some 91) (v := ?_) (a' := ?_) #[true, false, false, false, false, false, false, false, false, false, false, false, false, false, false, false, false] rfl rfl (by kernel_rfl) (fun _ _ _ h => h) (Or.inl ⟨by rfl, ?_⟩) ?_ ?_
                      rotate_left
                      · intro w'
                        go_simp
                        with_reducible rfl
                      rotate_left
                      · simp only [Act.put, List.setIfInBounds_toArray, List.set_cons_zero, List.set_cons_succ, i64_w, i32_w]
                        rfl
                      refine pure_ (i := 1) (N := some 92) (v := ?_) (a' := ?_) #[true, true, false, false, false, false, false, false, false, false, false, false, false, false, false, false, false] rfl rfl (by kernel_rfl) (fun _ _ _ h => h) (Or.inl ⟨by rfl, ?_⟩) ?_ ?_
                      rotate_left
                      · intro w'
                        go_simp
                        with_reducible rfl
                      rotate_left
                      · simp only [Act.put, List.setIfInBounds_toArray, List.set_cons_zero, List.set_cons_succ, i64_w, i32_w]
                        rfl
                      refine pure_ (i := 2) (N := some 93) (v := ?_) (a' := ?_) #[true, true, true, false, false, false, false, false, false, false, false, false, false, false, false, false, false] rfl rfl (by kernel_rfl) (fun _ _ _ h => h) (Or.inl ⟨by rfl, ?_⟩) ?_ ?_
                      rotate_left
                      · intro w'
                        go_simp
                        with_reducible rfl
                      rotate_left
                      · simp only [Act.put, List.setIfInBounds_toArray, List.set_cons_zero, List.set_cons_succ, i64_w, i32_w]
                        rfl
                      refine pure_ (i := 3) (N := some 94) (v := ?_) (a' := ?_) #[true, true, true, true, false, false, false, false, false, false, false, false, false, false, false, false, false] rfl rfl (by kernel_rfl) (fun _ _ _ h => h) (Or.inl ⟨by rfl, ?_⟩) ?_ ?_
                      rotate_left
                      · intro w'
                        go_simp
                        with_reducible rfl
                      rotate_left
                      · simp only [Act.put, List.setIfInBounds_toArray, List.set_cons_zero, List.set_cons_succ, i64_w, i32_w]
                        rfl
                      refine pure_ (i := 7) (N := some 98) (v := ?_) (a' := ?_) #[true, true, true, true, false, false, false, true, false, false, false, false, false, false, false, false, false] rfl rfl (by kernel_rfl) (fun _ _ _ h => h) (Or.inl ⟨by rfl, ?_⟩) ?_ ?_
                      rotate_left
                      · intro w'
                        go_simp
                        with_reducible rfl
                      rotate_left
                      · simp only [Act.put, List.setIfInBounds_toArray, List.set_cons_zero, List.set_cons_succ, i64_w, i32_w]
                        rfl
                      refine pure_ (i := 8) (N := some 99) (v := ?_) (a' := ?_) #[true, true, true, true, false, false, false, true, true, false, false, false, false, false, false, false, false] rfl rfl (by kernel_rfl) (fun _ _ _ h => h) (Or.inl ⟨by rfl, ?_⟩) ?_ ?_
                      rotate_left
                      · intro w'
                        go_simp
                        with_reducible rfl
                      rotate_left
                      · simp only [Act.put, List.setIfInBounds_toArray, List.set_cons_zero, List.set_cons_succ, i64_w, i32_w]
                        rfl
                      refine pure_ (i := 9) (N := some 100) (v := ?_) (a' := ?_) #[true, true, true, true, false, false, false, true, true, true, false, false, false, false, false, false, false] rfl rfl (by kernel_rfl) (fun _ _ _ h => h) (Or.inl ⟨by rfl, ?_⟩) ?_ ?_
                      rotate_left
                      · intro w'
                        go_simp
                        with_reducible rfl
                      rotate_left
                      · simp only [Act.put, List.setIfInBounds_toArray, List.set_cons_zero, List.set_cons_succ, i64_w, i32_w]
                        rfl
                      refine take_ (i := 4) (N := some 95) (v := ?_) (a' := ?_) #[true, true, true, true, true, false, false, true, true, true, false, false, false, false, false, false, false] rfl rfl (by kernel_rfl) (fun _ _ _ h => h) (Or.inl ⟨by rfl, ?_⟩) hHeld ?_ ?_
                      rotate_left
                      · rintro w' ⟨s1, s2⟩
                        go_simp
                        with_reducible rfl
                      rotate_left
                      · simp only [Act.put, List.setIfInBounds_toArray, List.set_cons_zero, List.set_cons_succ, i64_w, i32_w]
                        rfl
                      refine take_ (i := 10) (N := some 101) (v := ?_) (a' := ?_) #[true, true, true, true, true, false, false, true, true, true, true, false, false, false, false, false, false] rfl rfl (by kernel_rfl) (fun _ _ _ h => h) (Or.inl ⟨by rfl, ?_⟩) hHeld ?_ ?_
                      rotate_left
                      · rintro w' ⟨s1, s2⟩
                        go_simp
                        with_reducible rfl
                      rotate_left
                      · simp only [Act.put, List.setIfInBounds_toArray, List.set_cons_zero, List.set_cons_succ, i64_w, i32_w]
                        rfl
                      refine one_ (i := 5) (N := some 96) #[true, true, true, true, true, true, false, true, true, true, true, false, false, false, false, false, false] rfl rfl (by kernel_rfl) (by decide) (fun K hK => ?_)
                      refine goes_ Try.func17 (by kernel_rfl) rfl #[.int .u8 (bt s (i + 1 + 1))] (by rfl) rfl rfl (by first | rfl | (simp only [List.map_toArray, List.map_cons, List.map_nil]; done) | (simp only [List.map_toArray, List.map_cons, List.map_nil]; rfl)) ?_
                      refine (hsm1 _).mono ?_
                      rintro _ _ ⟨rfl, rfl⟩
                      refine ⟨_, rfl, ?_⟩
                      refine hK.out _ _ (hHeld) (fun hHeld => ?_)
                      clear hK K
                      refine norm_ (a' := ?_) ?_ ?_
                      rotate_left
                      · show Act.put _ (some 96) _ = _
                        simp only [Act.put, List.setIfInBounds_toArray, List.set_cons_zero, List.set_cons_succ, i64_w, i32_w]
                        rfl
                      refine pure_ (i := 6) (N := some 97) (v := ?_) (a' := ?_) #[true, true, true, true, true, true, true, true, true, true, true, false, false, false, false, false, false] rfl rfl (by kernel_rfl) (fun _ _ _ h => h) (Or.inl ⟨by rfl, ?_⟩) ?_ ?_
                      rotate_left
                      · intro w'
                        go_simp
                        with_reducible rfl
                      rotate_left
                      · simp only [Act.put, List.setIfInBounds_toArray, List.set_cons_zero, List.set_cons_succ, i64_w, i32_w]
                        rfl
                      refine one_ (i := 11) (N := some 102) #[true, true, true, true, true, true, true, true, true, true, true, true, false, false, false, false, false] rfl rfl (by kernel_rfl) (by decide) (fun K hK => ?_)
                      refine goes_ Try.func17 (by kernel_rfl) rfl #[.int .u8 (bt s (i + 1 + 2))] (by rfl) rfl rfl (by first | rfl | (simp only [List.map_toArray, List.map_cons, List.map_nil]; done) | (simp only [List.map_toArray, List.map_cons, List.map_nil]; rfl)) ?_
                      refine (hsm2 _).mono ?_
                      rintro _ _ ⟨rfl, rfl⟩
                      refine ⟨_, rfl, ?_⟩
                      refine hK.out _ _ (hHeld) (fun hHeld => ?_)
                      clear hK K
                      refine norm_ (a' := ?_) ?_ ?_
                      rotate_left
                      · show Act.put _ (some 102) _ = _
                        simp only [Act.put, List.setIfInBounds_toArray, List.set_cons_zero, List.set_cons_succ, i64_w, i32_w]
                        rfl
                      refine pure_ (i := 12) (N := some 103) (v := ?_) (a' := ?_) #[true, true, true, true, true, true, true, true, true, true, true, true, true, false, false, false, false] rfl rfl (by kernel_rfl) (fun _ _ _ h => h) (Or.inl ⟨by rfl, ?_⟩) ?_ ?_
                      rotate_left
                      · intro w'
                        go_simp
                        with_reducible rfl
                      rotate_left
                      · simp only [Act.put, List.setIfInBounds_toArray, List.set_cons_zero, List.set_cons_succ, i64_w, i32_w]
                        rfl
                      refine pure_ (i := 13) (N := some 104) (v := ?_) (a' := ?_) #[true, true, true, true, true, true, true, true, true, true, true, true, true, true, false, false, false] rfl rfl (by kernel_rfl) (fun _ _ _ h => h) (Or.inl ⟨by rfl, ?_⟩) ?_ ?_
                      rotate_left
                      · intro w'
                        go_simp
                        with_reducible rfl
                      rotate_left
                      · simp only [Act.put, List.setIfInBounds_toArray, List.set_cons_zero, List.set_cons_succ, i64_w, i32_w]
                        rfl
                      refine one_ (i := 14) (N := some 105) #[true, true, true, true, true, true, true, true, true, true, true, true, true, true, true, false, false] rfl rfl (by kernel_rfl) (by decide) (fun K hK => ?_)
                      refine value_ (w1 := ?_) (v := ?_) (by rfl) rfl ?_ ?_
                      rotate_left 2
                      · go_simp
                        constructor
                        · rfl
                        · rfl
                      refine hK.out _ _ (hst _ _ hHeld (below_one _ _)) (fun hHeld => ?_)
                      clear hK K
                      refine norm_ (a' := ?_) ?_ ?_
                      rotate_left
                      · show Act.put _ (some 105) _ = _
                        simp only [Act.put, List.setIfInBounds_toArray, List.set_cons_zero, List.set_cons_succ, i64_w, i32_w]
                        rfl
                      refine last_ (i := 15) (N := some 106) #[true, true, true, true, true, true, true, true, true, true, true, true, true, true, true, true, false] rfl rfl (by kernel_rfl) (by decide) (fun K hK => ?_)
                      refine app1d_ (w0 := w) w.heap.size (by rfl) rfl (.tmp 91) (.tmp 105) 38 5 .u8 1 rfl Try.underlying38 info_u8 (by decide) _ xs (16 * v1 + v2) rfl rfl ho hbel hbel.size (by omega) ?_
                      intro vv w1 ho1 hb1 hg1
                      refine hK.out _ _ ?_
                      clear hK K
                      refine norm_ (a' := ?_) ?_ ?_
                      rotate_left
                      · show Act.put _ (some 106) _ = _
                        simp only [Act.put, List.setIfInBounds_toArray, List.set_cons_zero, List.set_cons_succ, i64_w, i32_w]
                        rfl
                      refine pure_ (i := 16) (N := some 4) (v := ?_) (a' := ?_) #[true, true, true, true, true, true, true, true, true, true, true, true, true, true, true, true, true] rfl rfl (by kernel_rfl) (fun _ _ _ h => h) (Or.inl ⟨by rfl, ?_⟩) ?_ ?_
                      rotate_left
                      · intro w'
                        go_simp
                        with_reducible rfl
                      rotate_left
                      · simp only [Act.put, List.setIfInBounds_toArray, List.set_cons_zero, List.set_cons_succ, i64_w, i32_w]
                        rfl
                      refine done_ (by kernel_rfl) ?_
                      go_wp2
                      exact ⟨⟨i + 4, _, by go_num, by omega, by omega, HQ2, ho1, hb1⟩, by simp [intOf]; omega⟩
              · obtain ⟨d1, d2, d3, d4, d5, d6⟩ := hd
                obtain rfl := hQ.bad hlt c34 (by rw [hI (by unfold escV; rw [if_neg d1, if_neg d2, if_neg d3, if_neg d4, if_neg d5]; omega), if_pos (Or.inl d6)])
                have e1 := beq_eq_false_iff_ne.2 d1
                have e2 := beq_eq_false_iff_ne.2 d2
                have e3 := beq_eq_false_iff_ne.2 d3
                have e4 := beq_eq_false_iff_ne.2 d4
                have e5 := beq_eq_false_iff_ne.2 d5
                have e6 := beq_eq_false_iff_ne.2 d6
                clear hQ c34 c92 cb hI hIe hsm1 hsm2 d1 d2 d3 d4 d5 d6
                go_wp2
                go_ret2
                exact ⟨rfl, hbel⟩
          · have e92 : (bt s i != 92) = true := by rw [bne_iff_ne]; exact c92
            have hI : itemQ s i = some (bt s i, i + 1) := by unfold itemQ; rw [if_neg cb, if_pos c92]
            have HQ2 := Lib.hid (hQ.go hlt (by omega) c34 hI)
            clear hQ c34 c92 cb hI
            go_wp2_with (at_builtin; refine print_append_num (w0 := w) (W := wr) w.heap.size rfl (.tmp 31) (.tmp 33) 38 5 .u8 1 rfl Try.underlying38 info_u8 (by decide) _ xs _ rfl rfl ho hbel hbel.size (by omega) ?_; intro v1 w1 ho1 hb1 hg1 hat1)
            exact ⟨⟨i + 1, _, rfl, by omega, by omega, HQ2, ho1, hb1⟩, by simp [intOf]; omega⟩
    · obtain rfl := hQ.out.out hlt
      clear hQ
      go_wp2
      go_ret2
      exact ⟨rfl, hbel⟩
end Go.Proofs.Ytjfdbdjcceecjaa
