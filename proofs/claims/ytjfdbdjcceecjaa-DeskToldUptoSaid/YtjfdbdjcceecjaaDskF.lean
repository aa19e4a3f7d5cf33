/- Desk: the words of a line, by the document. -/
import Derived.Test.YtjfdbdjcceecjaaDskE
set_option linter.unusedVariables false
set_option linter.unusedSimpArgs false
namespace Go.Proofs.Ytjfdbdjcceecjaa
open Go.RowKit Go.Proofs.YtjfdbdjcceecjaaW.PrintWords Go.Proofs.YtjfdbdjcceecjaaW.PrintLast
theorem bt_tail (t : ByteArray) (h : 0 < t.size) (i : Int) (h0 : 0 ≤ i) : bt (t.extract 1 t.size) i = bt t (i + 1) := by
  rw [bt_ext t 1 t.size (Nat.le_refl _) i h0]
  split
  · congr 1; omega
  · rw [bt_out _ _ (by omega)]
theorem itemQ_tail (t : ByteArray) (h : 0 < t.size) (i : Int) (h0 : 0 ≤ i) : itemQ (t.extract 1 t.size) i = (itemQ t (i + 1)).map fun r => (r.1, r.2 - 1) := by
  have hz := size_ext t 1 t.size (Nat.le_refl _)
  unfold itemQ
  rw [bt_tail t h i h0, bt_tail t h (i + 1) (by omega), bt_tail t h (i + 2) (by omega), bt_tail t h (i + 3) (by omega), show i + 2 + 1 = i + 1 + 2 by omega, show i + 3 + 1 = i + 1 + 3 by omega]
  have c1 : (((t.extract 1 t.size).size : Int) ≤ i + 1) ↔ ((t.size : Int) ≤ i + 1 + 1) := by omega
  have c2 : (((t.extract 1 t.size).size : Int) ≤ i + 3) ↔ ((t.size : Int) ≤ i + 1 + 3) := by omega
  simp only [c1, c2]
  split; · rfl
  split; · simp
  split; · rfl
  split; · simp; omega
  split; · rfl
  · simp; omega
theorem qR_tail (t : ByteArray) (h : 0 < t.size) (n : Nat) : ∀ i : Int, 0 ≤ i → (t.size - i).toNat = n → qR (t.extract 1 t.size) i = (qR t (i + 1)).map fun r => (r.1, r.2 - 1) := by
  have hz := size_ext t 1 t.size (Nat.le_refl _)
  induction n using Nat.strongRecOn with
  | _ n ih =>
    intro i h0 hn
    by_cases hi : i + 1 < t.size
    · by_cases c34 : bt t (i + 1) = 34
      · rw [qR_end hi c34, qR_end (by omega) (by rw [bt_tail t h i h0]; exact c34)]
        simp
      · have ht := itemQ_tail t h i h0
        cases hI : itemQ t (i + 1) with
        | none =>
          rw [hI] at ht
          rw [qR_bad hi c34 hI, qR_bad (by omega) (by rw [bt_tail t h i h0]; exact c34) ht]
          rfl
        | some bj =>
          obtain ⟨b, j⟩ := bj
          have hl := itemQ_le hI hi (by omega)
          rw [hI] at ht
          rw [qR_go hi (by omega) c34 hI, qR_go (by omega) h0 (by rw [bt_tail t h i h0]; exact c34) ht, ih (t.size - (j - 1)).toNat (by omega) (j - 1) (by omega) rfl, show j - 1 + 1 = j by omega]
          cases qR t j <;> simp
    · rw [qR_out (by omega), qR_out hi]; rfl
theorem info_rwd : (Try.prog.info? 37).map (fun i => (i.zero, i.size, i.bytes)) = some (some (.agg #[.string ByteArray.empty, .bool false]), 2, 24) := by kernel_rfl
/-- one quoted word, by a call -/
theorem rdQ {t : ByteArray} (hs : t.size ≤ 140737488351232) (hA : 0 < t.size ∧ bt t 0 = 34) :
    (rdW t = none ∧ ∃ a : ByteArray, ∀ W, Calls Try.prog 14 #[.string (t.extract 1 t.size)] W fun e w' => e = .returned (.tuple #[.string a, .int .i64 (-1)]) ∧ Below W.heap.size W w') ∨
    ∃ (T : ByteArray) (n : Int), 0 ≤ n ∧ n + 1 ≤ t.size ∧ rdW t = some (T, true, t.extract (n + 1).toNat t.size) ∧ ∀ W, Calls Try.prog 14 #[.string (t.extract 1 t.size)] W fun e w' => e = .returned (.tuple #[.string T, .int .i64 n]) ∧ Below W.heap.size W w' := by
  have h := fun W => rquoted_any (t.extract 1 t.size) W (by rw [size_ext _ _ _ (Nat.le_refl _)]; omega)
  have hr : rdW t = (qR t 1).map fun r => (strOfNums r.1, true, t.extract r.2.toNat t.size) := by unfold rdW; rw [if_pos hA]
  rw [qR_tail t hA.1 _ 0 (by omega) rfl, show (0 : Int) + 1 = 1 by omega] at h
  cases hq : qR t 1 with
  | none => rw [hq] at h hr; exact Or.inl ⟨hr, _, h⟩
  | some lj =>
    obtain ⟨l, j⟩ := lj
    have := qR_le _ rfl (by omega) hq
    rw [hq] at h hr
    refine Or.inr ⟨_, j - 1, by omega, by omega, ?_, h⟩
    rw [show j - 1 + 1 = j by omega]
    exact hr
set_option maxRecDepth 100000 in
set_option maxHeartbeats 16000000 in
theorem split_any (s : ByteArray) (w : World) (hs : s.size * 24 + 24 ≤ 140737488351232) : Calls Try.prog 11 #[.string s] w (WPost 37 (fun q => !q) (wR (s.size + 1) s) w) := by
  have hst := WAt.start s
  generalize wR (s.size + 1) s = R at *
  have Hst := Lib.hid hst
  clear hst
  go_enter Try.func11, Try.ntmps11
  go_wp2
  go_loopw [0, 4] (fun u v wr => ∃ (t : ByteArray) (acc : List (ByteArray × Bool)), u = .string t ∧ Hid (WAt R s.size t acc) ∧ OwnRow (WCell (fun q => !q)) 37 2 wr w.heap.size v acc ∧ Below w.heap.size w wr) (fun u _ _ => match u with | .string t => t.size | _ => 0)
  case atStart => exact ⟨s, [], rfl, Hst, OwnRow.lit (inner := []) w w.heap.size (Reps.none _ _) (Nat.le_refl _) (by simp), below_one _ _⟩
  case round =>
    clear Hst
    obtain ⟨t, acc, rfl, hW, ho, hbel⟩ := hrel
    have hlen := hW.out.len
    by_cases hz0 : t.size = 0
    · have hem := empty_yes hz0
      obtain rfl := hW.out.none_ (by
        cases h : rdW t with
        | none => rfl
        | some x => obtain ⟨a, b, c⟩ := x; have := rdW_lt h; omega)
      clear hW
      go_wp2
      go_ret2
      exact WPost.fail hbel
    · have hpos : 0 < t.size := by omega
      have hem := empty_no hpos
      have hbt := bt_at t 0
      simp only [show (0 : Int).toNat = 0 from rfl] at hbt
      by_cases h34 : bt t 0 = 34
      · have e34 : (bt t 0 == 34) = true := beq_iff_eq.2 h34
        rcases rdQ (by omega) ⟨hpos, h34⟩ with ⟨hr, a, hc⟩ | ⟨T, n, hn0, hn1, hr, hc⟩
        · obtain rfl := hW.out.none_ hr
          have Hc := Lib.hid hc
          clear hc hr hW h34
          go_wp2_with (go_at_call 14; (with_reducible refine (Hc.out _).mono ?_); rintro e w1 ⟨rfl, hb1⟩; have ho1 := ho.below hb1; have hbel1 := below_after hbel hb1)
          go_ret2
          exact WPost.fail hbel1
        · have Hc := Lib.hid hc
          have hlt := rdW_lt hr
          clear hc h34
          obtain ⟨r, hrr⟩ : ∃ r, t.extract (n + 1).toNat t.size = r := ⟨_, rfl⟩
          rw [hrr] at hr hlt
          by_cases hz : r.size = 0
          · obtain rfl := hW.out.last hr hz
            have hre := empty_yes hz
            clear hW hr 
            go_wp2_with (first | (go_at_call 14; (with_reducible refine (Hc.out _).mono ?_); rintro e w1 ⟨rfl, hb1⟩; have ho1 := ho.below hb1; have hbel1 := below_after hbel hb1) | (at_builtin; refine OwnRow.append (R := WCell (fun q => !q)) (w0 := w) (W := w1) w.heap.size rfl (.tmp 22) (.tmp 25) 33 37 (.agg #[.string ByteArray.empty, .bool false]) 2 24 rfl Try.underlying33 info_rwd rfl (by decide) (by decide) _ acc (T, true) [.string T, .bool false] rfl rfl rfl rfl (fun u hu => by simp at hu; rcases hu with rfl | rfl <;> rfl) ho1 hbel1 hbel1.size (by omega) ?_; intro v1 w2 ho2 hb2 hg2 hat2; obtain ⟨A2, c2, rfl, -⟩ := ho2.slice_; rw [List.length_append, List.length_singleton] at ho2))
            go_ret2
            exact ⟨hb2, _, rfl, ho2⟩
          · have hre := empty_no (show 0 < r.size by omega)
            have hbr := bt_at r 0
            simp only [show (0 : Int).toNat = 0 from rfl] at hbr
            have hzp : 0 < r.size := by omega
            by_cases h32 : bt r 0 = 32
            · have HW2 := Lib.hid (hW.out.go hr hz (not_not_intro h32))
              have e32 : (bt r 0 != 32) = false := by rw [bne_eq_false_iff_eq]; exact h32
              have hxz := size_ext r 1 r.size (Nat.le_refl _)
              clear hW hr h32 
              go_wp2_with (first | (go_at_call 14; (with_reducible refine (Hc.out _).mono ?_); rintro e w1 ⟨rfl, hb1⟩; have ho1 := ho.below hb1; have hbel1 := below_after hbel hb1) | (at_builtin; refine OwnRow.append (R := WCell (fun q => !q)) (w0 := w) (W := w1) w.heap.size rfl (.tmp 22) (.tmp 25) 33 37 (.agg #[.string ByteArray.empty, .bool false]) 2 24 rfl Try.underlying33 info_rwd rfl (by decide) (by decide) _ acc (T, true) [.string T, .bool false] rfl rfl rfl rfl (fun u hu => by simp at hu; rcases hu with rfl | rfl <;> rfl) ho1 hbel1 hbel1.size (by omega) ?_; intro v1 w2 ho2 hb2 hg2 hat2; obtain ⟨A2, c2, rfl, -⟩ := ho2.slice_; rw [List.length_append, List.length_singleton] at ho2))
              exact ⟨⟨_, _, rfl, HW2, ho2, hb2⟩, by show (r.extract 1 r.size).size < t.size; omega⟩
            · obtain rfl := hW.out.bad hr hz h32
              have e32 : (bt r 0 != 32) = true := by rw [bne_iff_ne]; exact h32
              clear hW hr h32 
              go_wp2_with (first | (go_at_call 14; (with_reducible refine (Hc.out _).mono ?_); rintro e w1 ⟨rfl, hb1⟩; have ho1 := ho.below hb1; have hbel1 := below_after hbel hb1) | (at_builtin; refine OwnRow.append (R := WCell (fun q => !q)) (w0 := w) (W := w1) w.heap.size rfl (.tmp 22) (.tmp 25) 33 37 (.agg #[.string ByteArray.empty, .bool false]) 2 24 rfl Try.underlying33 info_rwd rfl (by decide) (by decide) _ acc (T, true) [.string T, .bool false] rfl rfl rfl rfl (fun u hu => by simp at hu; rcases hu with rfl | rfl <;> rfl) ho1 hbel1 hbel1.size (by omega) ?_; intro v1 w2 ho2 hb2 hg2 hat2; obtain ⟨A2, c2, rfl, -⟩ := ho2.slice_; rw [List.length_append, List.length_singleton] at ho2))
              go_ret2
              exact WPost.fail hb2
      · have e34 : (bt t 0 == 34) = false := beq_eq_false_iff_ne.2 h34
        have hP := plen_is t
        have hP0 : plen t = 0 → rdW t = none := fun h => by unfold rdW; rw [if_neg (fun g => h34 g.2), if_pos h]
        have hP1 : plen t ≠ 0 → rdW t = some (t.extract 0 (plen t).toNat, false, t.extract (plen t).toNat t.size) := fun h => by unfold rdW; rw [if_neg (fun g => h34 g.2), if_neg h]
        generalize plen t = m at *
        have HP := Lib.hid hP
        have HP0 := Lib.hid hP0
        have HP1 := Lib.hid hP1
        clear hP hP0 hP1 h34
        go_wp2
        obtain ⟨wo, rfl⟩ : ∃ wo : World, wo = wr := ⟨_, rfl⟩
        go_loopw [7] (fun u wr => ∃ n : Int, u = .int .i64 n ∧ 0 ≤ n ∧ n ≤ t.size ∧ Hid (∀ j, 0 ≤ j → j < n → okW (bt t j) = true) ∧ wr = wo) (fun u _ => t.size - (intOf u).toNat)
        case atStart => exact ⟨0, rfl, by omega, by omega, Lib.hid (fun j h0 h1 => by omega), rfl⟩
        case round =>
          obtain ⟨n, rfl, hn0, hn1, hall, rfl⟩ := hrel
          have hP0 := HP0.out
          have hP1 := HP1.out
          have hfin : (n < t.size → okW (bt t n) = false) → m = n := fun h => HP.out.unique ⟨hn0, hn1, hall.out, h⟩
          by_cases hlt : n < t.size
          · have hbt := bt_at t n
            by_cases g1 : 33 ≤ bt t n
            · by_cases g2 : bt t n ≤ 126
              · by_cases g3 : bt t n = 34
                · obtain rfl := hfin (fun _ => by unfold okW; rw [decide_eq_true g1, decide_eq_true g2, g3]; rfl)
                  have q3 : (bt t m != 34) = false := by rw [bne_eq_false_iff_eq]; exact g3
                  clear hfin g3
                  by_cases hm0 : m = 0
                  · obtain rfl := hW.out.none_ (hP0 hm0)
                    subst hm0
                    clear hW hP0 hP1
                    go_wp2
                    go_ret2
                    exact WPost.fail hbel
                  · have hr := hP1 hm0
                    have hlt := rdW_lt hr
                    have hm0' : (m == 0) = false := beq_eq_false_iff_ne.2 hm0
                    obtain ⟨T, hT⟩ : ∃ T, t.extract 0 m.toNat = T := ⟨_, rfl⟩
                    obtain ⟨r, hrr⟩ : ∃ r, t.extract m.toNat t.size = r := ⟨_, rfl⟩
                    rw [hT, hrr] at hr
                    rw [hrr] at hlt
                    clear hP0 hP1 hm0
                    by_cases hz : r.size = 0
                    · obtain rfl := hW.out.last hr hz
                      have hre := empty_yes hz
                      clear hW hr 
                      go_wp2_with (at_builtin; refine OwnRow.append (R := WCell (fun q => !q)) (w0 := w) (W := wr) w.heap.size rfl (.tmp 57) (.tmp 62) 33 37 (.agg #[.string ByteArray.empty, .bool false]) 2 24 rfl Try.underlying33 info_rwd rfl (by decide) (by decide) _ acc (T, false) [.string T, .bool true] rfl rfl rfl rfl (fun u hu => by simp at hu; rcases hu with rfl | rfl <;> rfl) ho hbel hbel.size (by omega) ?_; intro v1 w2 ho2 hb2 hg2 hat2; obtain ⟨A2, c2, rfl, -⟩ := ho2.slice_; rw [List.length_append, List.length_singleton] at ho2)
                      go_ret2
                      exact ⟨hb2, _, rfl, ho2⟩
                    · have hre := empty_no (show 0 < r.size by omega)
                      have hbr := bt_at r 0
                      simp only [show (0 : Int).toNat = 0 from rfl] at hbr
                      have hzp : 0 < r.size := by omega
                      by_cases h32 : bt r 0 = 32
                      · have HW2 := Lib.hid (hW.out.go hr hz (not_not_intro h32))
                        have e32 : (bt r 0 != 32) = false := by rw [bne_eq_false_iff_eq]; exact h32
                        have hxz := size_ext r 1 r.size (Nat.le_refl _)
                        clear hW hr h32 
                        go_wp2_with (at_builtin; refine OwnRow.append (R := WCell (fun q => !q)) (w0 := w) (W := wr) w.heap.size rfl (.tmp 57) (.tmp 62) 33 37 (.agg #[.string ByteArray.empty, .bool false]) 2 24 rfl Try.underlying33 info_rwd rfl (by decide) (by decide) _ acc (T, false) [.string T, .bool true] rfl rfl rfl rfl (fun u hu => by simp at hu; rcases hu with rfl | rfl <;> rfl) ho hbel hbel.size (by omega) ?_; intro v1 w2 ho2 hb2 hg2 hat2; obtain ⟨A2, c2, rfl, -⟩ := ho2.slice_; rw [List.length_append, List.length_singleton] at ho2)
                        exact ⟨⟨_, _, rfl, HW2, ho2, hb2⟩, by show (r.extract 1 r.size).size < t.size; omega⟩
                      · obtain rfl := hW.out.bad hr hz h32
                        have e32 : (bt r 0 != 32) = true := by rw [bne_iff_ne]; exact h32
                        clear hW hr h32 
                        go_wp2_with (at_builtin; refine OwnRow.append (R := WCell (fun q => !q)) (w0 := w) (W := wr) w.heap.size rfl (.tmp 57) (.tmp 62) 33 37 (.agg #[.string ByteArray.empty, .bool false]) 2 24 rfl Try.underlying33 info_rwd rfl (by decide) (by decide) _ acc (T, false) [.string T, .bool true] rfl rfl rfl rfl (fun u hu => by simp at hu; rcases hu with rfl | rfl <;> rfl) ho hbel hbel.size (by omega) ?_; intro v1 w2 ho2 hb2 hg2 hat2; obtain ⟨A2, c2, rfl, -⟩ := ho2.slice_; rw [List.length_append, List.length_singleton] at ho2)
                        go_ret2
                        exact WPost.fail hb2
                · have q3 : (bt t n != 34) = true := by rw [bne_iff_ne]; exact g3
                  have hk : okW (bt t n) = true := by unfold okW; rw [decide_eq_true g1, decide_eq_true g2, q3]; rfl
                  have hall2 : Hid (∀ j, 0 ≤ j → j < n + 1 → okW (bt t j) = true) := Lib.hid (fun j h0 h1 => by
                    by_cases e : j = n
                    · rw [e]; exact hk
                    · exact hall.out j h0 (by omega))
                  clear hfin g3 hk hP0 hP1
                  go_wp2
                  exact ⟨⟨n + 1, rfl, by omega, by omega, hall2, trivial⟩, by simp [intOf]; omega⟩
              · obtain rfl := hfin (fun _ => by unfold okW; rw [decide_eq_false g2]; simp)
                clear hfin
                by_cases hm0 : m = 0
                · obtain rfl := hW.out.none_ (hP0 hm0)
                  subst hm0
                  clear hW hP0 hP1
                  go_wp2
                  go_ret2
                  exact WPost.fail hbel
                · have hr := hP1 hm0
                  have hlt := rdW_lt hr
                  have hm0' : (m == 0) = false := beq_eq_false_iff_ne.2 hm0
                  obtain ⟨T, hT⟩ : ∃ T, t.extract 0 m.toNat = T := ⟨_, rfl⟩
                  obtain ⟨r, hrr⟩ : ∃ r, t.extract m.toNat t.size = r := ⟨_, rfl⟩
                  rw [hT, hrr] at hr
                  rw [hrr] at hlt
                  clear hP0 hP1 hm0
                  by_cases hz : r.size = 0
                  · obtain rfl := hW.out.last hr hz
                    have hre := empty_yes hz
                    clear hW hr 
                    go_wp2_with (at_builtin; refine OwnRow.append (R := WCell (fun q => !q)) (w0 := w) (W := wr) w.heap.size rfl (.tmp 57) (.tmp 62) 33 37 (.agg #[.string ByteArray.empty, .bool false]) 2 24 rfl Try.underlying33 info_rwd rfl (by decide) (by decide) _ acc (T, false) [.string T, .bool true] rfl rfl rfl rfl (fun u hu => by simp at hu; rcases hu with rfl | rfl <;> rfl) ho hbel hbel.size (by omega) ?_; intro v1 w2 ho2 hb2 hg2 hat2; obtain ⟨A2, c2, rfl, -⟩ := ho2.slice_; rw [List.length_append, List.length_singleton] at ho2)
                    go_ret2
                    exact ⟨hb2, _, rfl, ho2⟩
                  · have hre := empty_no (show 0 < r.size by omega)
                    have hbr := bt_at r 0
                    simp only [show (0 : Int).toNat = 0 from rfl] at hbr
                    have hzp : 0 < r.size := by omega
                    by_cases h32 : bt r 0 = 32
                    · have HW2 := Lib.hid (hW.out.go hr hz (not_not_intro h32))
                      have e32 : (bt r 0 != 32) = false := by rw [bne_eq_false_iff_eq]; exact h32
                      have hxz := size_ext r 1 r.size (Nat.le_refl _)
                      clear hW hr h32 
                      go_wp2_with (at_builtin; refine OwnRow.append (R := WCell (fun q => !q)) (w0 := w) (W := wr) w.heap.size rfl (.tmp 57) (.tmp 62) 33 37 (.agg #[.string ByteArray.empty, .bool false]) 2 24 rfl Try.underlying33 info_rwd rfl (by decide) (by decide) _ acc (T, false) [.string T, .bool true] rfl rfl rfl rfl (fun u hu => by simp at hu; rcases hu with rfl | rfl <;> rfl) ho hbel hbel.size (by omega) ?_; intro v1 w2 ho2 hb2 hg2 hat2; obtain ⟨A2, c2, rfl, -⟩ := ho2.slice_; rw [List.length_append, List.length_singleton] at ho2)
                      exact ⟨⟨_, _, rfl, HW2, ho2, hb2⟩, by show (r.extract 1 r.size).size < t.size; omega⟩
                    · obtain rfl := hW.out.bad hr hz h32
                      have e32 : (bt r 0 != 32) = true := by rw [bne_iff_ne]; exact h32
                      clear hW hr h32 
                      go_wp2_with (at_builtin; refine OwnRow.append (R := WCell (fun q => !q)) (w0 := w) (W := wr) w.heap.size rfl (.tmp 57) (.tmp 62) 33 37 (.agg #[.string ByteArray.empty, .bool false]) 2 24 rfl Try.underlying33 info_rwd rfl (by decide) (by decide) _ acc (T, false) [.string T, .bool true] rfl rfl rfl rfl (fun u hu => by simp at hu; rcases hu with rfl | rfl <;> rfl) ho hbel hbel.size (by omega) ?_; intro v1 w2 ho2 hb2 hg2 hat2; obtain ⟨A2, c2, rfl, -⟩ := ho2.slice_; rw [List.length_append, List.length_singleton] at ho2)
                      go_ret2
                      exact WPost.fail hb2
            · obtain rfl := hfin (fun _ => by unfold okW; rw [decide_eq_false g1]; rfl)
              clear hfin
              by_cases hm0 : m = 0
              · obtain rfl := hW.out.none_ (hP0 hm0)
                subst hm0
                clear hW hP0 hP1
                go_wp2
                go_ret2
                exact WPost.fail hbel
              · have hr := hP1 hm0
                have hlt := rdW_lt hr
                have hm0' : (m == 0) = false := beq_eq_false_iff_ne.2 hm0
                obtain ⟨T, hT⟩ : ∃ T, t.extract 0 m.toNat = T := ⟨_, rfl⟩
                obtain ⟨r, hrr⟩ : ∃ r, t.extract m.toNat t.size = r := ⟨_, rfl⟩
                rw [hT, hrr] at hr
                rw [hrr] at hlt
                clear hP0 hP1 hm0
                by_cases hz : r.size = 0
                · obtain rfl := hW.out.last hr hz
                  have hre := empty_yes hz
                  clear hW hr 
                  go_wp2_with (at_builtin; refine OwnRow.append (R := WCell (fun q => !q)) (w0 := w) (W := wr) w.heap.size rfl (.tmp 57) (.tmp 62) 33 37 (.agg #[.string ByteArray.empty, .bool false]) 2 24 rfl Try.underlying33 info_rwd rfl (by decide) (by decide) _ acc (T, false) [.string T, .bool true] rfl rfl rfl rfl (fun u hu => by simp at hu; rcases hu with rfl | rfl <;> rfl) ho hbel hbel.size (by omega) ?_; intro v1 w2 ho2 hb2 hg2 hat2; obtain ⟨A2, c2, rfl, -⟩ := ho2.slice_; rw [List.length_append, List.length_singleton] at ho2)
                  go_ret2
                  exact ⟨hb2, _, rfl, ho2⟩
                · have hre := empty_no (show 0 < r.size by omega)
                  have hbr := bt_at r 0
                  simp only [show (0 : Int).toNat = 0 from rfl] at hbr
                  have hzp : 0 < r.size := by omega
                  by_cases h32 : bt r 0 = 32
                  · have HW2 := Lib.hid (hW.out.go hr hz (not_not_intro h32))
                    have e32 : (bt r 0 != 32) = false := by rw [bne_eq_false_iff_eq]; exact h32
                    have hxz := size_ext r 1 r.size (Nat.le_refl _)
                    clear hW hr h32 
                    go_wp2_with (at_builtin; refine OwnRow.append (R := WCell (fun q => !q)) (w0 := w) (W := wr) w.heap.size rfl (.tmp 57) (.tmp 62) 33 37 (.agg #[.string ByteArray.empty, .bool false]) 2 24 rfl Try.underlying33 info_rwd rfl (by decide) (by decide) _ acc (T, false) [.string T, .bool true] rfl rfl rfl rfl (fun u hu => by simp at hu; rcases hu with rfl | rfl <;> rfl) ho hbel hbel.size (by omega) ?_; intro v1 w2 ho2 hb2 hg2 hat2; obtain ⟨A2, c2, rfl, -⟩ := ho2.slice_; rw [List.length_append, List.length_singleton] at ho2)
                    exact ⟨⟨_, _, rfl, HW2, ho2, hb2⟩, by show (r.extract 1 r.size).size < t.size; omega⟩
                  · obtain rfl := hW.out.bad hr hz h32
                    have e32 : (bt r 0 != 32) = true := by rw [bne_iff_ne]; exact h32
                    clear hW hr h32 
                    go_wp2_with (at_builtin; refine OwnRow.append (R := WCell (fun q => !q)) (w0 := w) (W := wr) w.heap.size rfl (.tmp 57) (.tmp 62) 33 37 (.agg #[.string ByteArray.empty, .bool false]) 2 24 rfl Try.underlying33 info_rwd rfl (by decide) (by decide) _ acc (T, false) [.string T, .bool true] rfl rfl rfl rfl (fun u hu => by simp at hu; rcases hu with rfl | rfl <;> rfl) ho hbel hbel.size (by omega) ?_; intro v1 w2 ho2 hb2 hg2 hat2; obtain ⟨A2, c2, rfl, -⟩ := ho2.slice_; rw [List.length_append, List.length_singleton] at ho2)
                    go_ret2
                    exact WPost.fail hb2
          · obtain rfl := hfin (fun h => by omega)
            clear hfin
            by_cases hm0 : m = 0
            · omega
            · have hr := hP1 hm0
              have hlt := rdW_lt hr
              have hm0' : (m == 0) = false := beq_eq_false_iff_ne.2 hm0
              obtain ⟨T, hT⟩ : ∃ T, t.extract 0 m.toNat = T := ⟨_, rfl⟩
              obtain ⟨r, hrr⟩ : ∃ r, t.extract m.toNat t.size = r := ⟨_, rfl⟩
              rw [hT, hrr] at hr
              rw [hrr] at hlt
              clear hP0 hP1 hm0
              by_cases hz : r.size = 0
              · obtain rfl := hW.out.last hr hz
                have hre := empty_yes hz
                clear hW hr 
                go_wp2_with (at_builtin; refine OwnRow.append (R := WCell (fun q => !q)) (w0 := w) (W := wr) w.heap.size rfl (.tmp 57) (.tmp 62) 33 37 (.agg #[.string ByteArray.empty, .bool false]) 2 24 rfl Try.underlying33 info_rwd rfl (by decide) (by decide) _ acc (T, false) [.string T, .bool true] rfl rfl rfl rfl (fun u hu => by simp at hu; rcases hu with rfl | rfl <;> rfl) ho hbel hbel.size (by omega) ?_; intro v1 w2 ho2 hb2 hg2 hat2; obtain ⟨A2, c2, rfl, -⟩ := ho2.slice_; rw [List.length_append, List.length_singleton] at ho2)
                go_ret2
                exact ⟨hb2, _, rfl, ho2⟩
              · have hre := empty_no (show 0 < r.size by omega)
                have hbr := bt_at r 0
                simp only [show (0 : Int).toNat = 0 from rfl] at hbr
                have hzp : 0 < r.size := by omega
                by_cases h32 : bt r 0 = 32
                · have HW2 := Lib.hid (hW.out.go hr hz (not_not_intro h32))
                  have e32 : (bt r 0 != 32) = false := by rw [bne_eq_false_iff_eq]; exact h32
                  have hxz := size_ext r 1 r.size (Nat.le_refl _)
                  clear hW hr h32 
                  go_wp2_with (at_builtin; refine OwnRow.append (R := WCell (fun q => !q)) (w0 := w) (W := wr) w.heap.size rfl (.tmp 57) (.tmp 62) 33 37 (.agg #[.string ByteArray.empty, .bool false]) 2 24 rfl Try.underlying33 info_rwd rfl (by decide) (by decide) _ acc (T, false) [.string T, .bool true] rfl rfl rfl rfl (fun u hu => by simp at hu; rcases hu with rfl | rfl <;> rfl) ho hbel hbel.size (by omega) ?_; intro v1 w2 ho2 hb2 hg2 hat2; obtain ⟨A2, c2, rfl, -⟩ := ho2.slice_; rw [List.length_append, List.length_singleton] at ho2)
                  exact ⟨⟨_, _, rfl, HW2, ho2, hb2⟩, by show (r.extract 1 r.size).size < t.size; omega⟩
                · obtain rfl := hW.out.bad hr hz h32
                  have e32 : (bt r 0 != 32) = true := by rw [bne_iff_ne]; exact h32
                  clear hW hr h32 
                  go_wp2_with (at_builtin; refine OwnRow.append (R := WCell (fun q => !q)) (w0 := w) (W := wr) w.heap.size rfl (.tmp 57) (.tmp 62) 33 37 (.agg #[.string ByteArray.empty, .bool false]) 2 24 rfl Try.underlying33 info_rwd rfl (by decide) (by decide) _ acc (T, false) [.string T, .bool true] rfl rfl rfl rfl (fun u hu => by simp at hu; rcases hu with rfl | rfl <;> rfl) ho hbel hbel.size (by omega) ?_; intro v1 w2 ho2 hb2 hg2 hat2; obtain ⟨A2, c2, rfl, -⟩ := ho2.slice_; rw [List.length_append, List.length_singleton] at ho2)
                  go_ret2
                  exact WPost.fail hb2
end Go.Proofs.Ytjfdbdjcceecjaa
