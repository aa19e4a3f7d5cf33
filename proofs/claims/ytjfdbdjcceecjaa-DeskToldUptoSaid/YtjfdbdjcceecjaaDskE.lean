/- Desk: the words of a line, by the program and by the document. -/
import Derived.Test.YtjfdbdjcceecjaaDskD
set_option linter.unusedVariables false
set_option linter.unusedSimpArgs false
namespace Go.Proofs.Ytjfdbdjcceecjaa
open Go.RowKit Go.Proofs.YtjfdbdjcceecjaaW.PrintWords Go.Proofs.YtjfdbdjcceecjaaW.PrintLast
/-- the cells of a word; the second one is f of whether it is quoted -/
def WCell (f : Bool → Bool) (p : ByteArray × Bool) (c : List Value) : Prop := c = [.string p.1, .bool (f p.2)]
/-- what a reader of words tells -/
def WPost (T : TypeId) (f : Bool → Bool) (R : Option (List (ByteArray × Bool))) (w : World) (e : Ending) (w' : World) : Prop :=
  Below w.heap.size w w' ∧ ∃ v, e = .returned (.tuple #[v, .bool R.isSome]) ∧ OwnRow (WCell f) T 2 w' w.heap.size v (R.getD [])
theorem WPost.fail {T : TypeId} {f : Bool → Bool} {w w' : World} (h : Below w.heap.size w w') : WPost T f none w (.returned (.tuple #[.slice none 0 0, .bool false])) w' := ⟨h, _, rfl, OwnRow.none_ _ _ _ _ _⟩
theorem info_wd : (Try.prog.info? 32).map (fun i => (i.zero, i.size, i.bytes)) = some (some (.agg #[.string ByteArray.empty, .bool false]), 2, 24) := by kernel_rfl
/-- one word, by a call -/
theorem rdA {t : ByteArray} (hs : t.size ≤ 140737488351232) (hA : 0 < t.size ∧ bt t 0 = 34) :
    (rdW t = none ∧ ∃ a r : ByteArray, ∀ W, Calls Try.prog 13 #[.string t] W fun e w' => e = .returned (.tuple #[.string a, .string r, .bool false]) ∧ Below W.heap.size W w') ∨
    ∃ T r : ByteArray, rdW t = some (T, true, r) ∧ ∀ W, Calls Try.prog 13 #[.string t] W fun e w' => e = .returned (.tuple #[.string T, .string r, .bool true]) ∧ Below W.heap.size W w' := by
  have h := fun W => quoted_any t W hs hA.1
  have hr : rdW t = (qR t 1).map fun r => (strOfNums r.1, true, t.extract r.2.toNat t.size) := by unfold rdW; rw [if_pos hA]
  cases hq : qR t 1 with
  | none => rw [hq] at h hr; exact Or.inl ⟨hr, _, _, h⟩
  | some lj => obtain ⟨l, j⟩ := lj; rw [hq] at h hr; exact Or.inr ⟨_, _, hr, h⟩
theorem rdB {t : ByteArray} (hs : t.size ≤ 140737488351232) (hA : ¬ (0 < t.size ∧ bt t 0 = 34)) :
    (rdW t = none ∧ ∃ a r : ByteArray, ∀ W, Calls Try.prog 12 #[.string t] W fun e w' => e = .returned (.tuple #[.string a, .string r, .bool false]) ∧ Below W.heap.size W w') ∨
    ∃ T r : ByteArray, rdW t = some (T, false, r) ∧ ∀ W, Calls Try.prog 12 #[.string t] W fun e w' => e = .returned (.tuple #[.string T, .string r, .bool true]) ∧ Below W.heap.size W w' := by
  have h := fun W => plain_any t (plen t) (plen_is t) W hs
  have hr : rdW t = if plen t = 0 then none else some (t.extract 0 (plen t).toNat, false, t.extract (plen t).toNat t.size) := by unfold rdW; rw [if_neg hA]
  unfold PRes at h
  by_cases h0 : plen t = 0
  · rw [if_pos h0] at hr
    rw [show decide (0 < plen t) = false from decide_eq_false (by omega)] at h
    exact Or.inl ⟨hr, _, _, h⟩
  · rw [if_neg h0] at hr
    rw [show decide (0 < plen t) = true from decide_eq_true (by have := (plen_is t).1; omega)] at h
    exact Or.inr ⟨_, _, hr, h⟩
set_option maxRecDepth 100000 in
set_option maxHeartbeats 4000000 in
theorem words_any (s : ByteArray) (w : World) (hs : s.size * 24 + 24 ≤ 140737488351232) : Calls Try.prog 10 #[.string s] w (WPost 32 id (wR (s.size + 1) s) w) := by
  have hst := WAt.start s
  generalize wR (s.size + 1) s = R at *
  have Hst := Lib.hid hst
  clear hst
  go_enter Try.func10, Try.ntmps10
  go_wp2
  go_loopw [0, 4] (fun u v wr => ∃ (t : ByteArray) (acc : List (ByteArray × Bool)), u = .string t ∧ Hid (WAt R s.size t acc) ∧ OwnRow (WCell id) 32 2 wr w.heap.size v acc ∧ Below w.heap.size w wr) (fun u _ _ => match u with | .string t => t.size | _ => 0)
  case atStart => exact ⟨s, [], rfl, Hst, OwnRow.none_ _ _ _ _ _, Below.refl _ _⟩
  case round =>
    clear Hst
    obtain ⟨t, acc, rfl, hW, ho, hbel⟩ := hrel
    have hlen := hW.out.len
    by_cases hA : 0 < t.size ∧ bt t 0 = 34
    · obtain ⟨hpos, h34⟩ := hA
      have hem := empty_no hpos
      have e34 : (bt t 0 == 34) = true := beq_iff_eq.2 h34
      have hbt := bt_at t 0
      simp only [show (0 : Int).toNat = 0 from rfl] at hbt
      have hA : 0 < t.size ∧ bt t 0 = 34 := ⟨hpos, h34⟩
      clear h34
      go_upto_region 2 with (fail)
      go_quiet (fail)
      rcases rdA (by omega) hA with ⟨hr, a, r, hc⟩ | ⟨T, r, hr, hc⟩
      · obtain rfl := hW.out.none_ hr
        have Hc := Lib.hid hc
        clear hc hr hW
        go_wp2_with (go_at_call 13; (with_reducible refine (Hc.out _).mono ?_); rintro e w1 ⟨rfl, hb1⟩; have ho1 := (fun h => OwnRow.below h hb1) ho; have hbel1 := below_after (below_drewN hbel _) hb1)
        go_ret2
        exact WPost.fail hbel1
      · have Hc := Lib.hid hc
        have hlt := rdW_lt hr
        clear hc
        by_cases hz : r.size = 0
        · obtain rfl := hW.out.last hr hz
          have hre := empty_yes hz
          clear hW hr
          go_wp2_with (first | (go_at_call 13; (with_reducible refine (Hc.out _).mono ?_); rintro e w1 ⟨rfl, hb1⟩; have ho1 := (fun h => OwnRow.below h hb1) ho; have hbel1 := below_after (below_drewN hbel _) hb1) | (at_builtin; refine OwnRow.append (R := WCell id) (w0 := w) (W := w1) w.heap.size rfl (.tmp 27) (.tmp 31) 28 32 (.agg #[.string ByteArray.empty, .bool false]) 2 24 rfl Try.underlying28 info_wd rfl (by decide) (by decide) _ acc (T, true) [.string T, .bool true] rfl rfl rfl rfl (fun u hu => by simp at hu; rcases hu with rfl | rfl <;> rfl) ho1 hbel1 hbel1.size (by omega) ?_; intro v1 w2 ho2 hb2 hg2 hat2; obtain ⟨A2, c2, rfl, -⟩ := ho2.slice_; rw [List.length_append, List.length_singleton] at ho2))
          go_ret2
          exact ⟨hb2, _, rfl, ho2⟩
        · have hre := empty_no (show 0 < r.size by omega)
          have hbr := bt_at r 0
          simp only [show (0 : Int).toNat = 0 from rfl] at hbr
          have hzp : 0 < r.size := by omega
          by_cases h32 : bt r 0 = 32
          · have HW2 := Lib.hid (hW.out.go hr hz (not_not_intro h32))
            have e32 : (bt r 0 != 32) = false := by rw [bne_eq_false_iff_eq]; exact h32
            have hxz := size_ext r 1 r.size (Nat.le_refl _)
            clear hW hr h32
            go_wp2_with (first | (go_at_call 13; (with_reducible refine (Hc.out _).mono ?_); rintro e w1 ⟨rfl, hb1⟩; have ho1 := (fun h => OwnRow.below h hb1) ho; have hbel1 := below_after (below_drewN hbel _) hb1) | (at_builtin; refine OwnRow.append (R := WCell id) (w0 := w) (W := w1) w.heap.size rfl (.tmp 27) (.tmp 31) 28 32 (.agg #[.string ByteArray.empty, .bool false]) 2 24 rfl Try.underlying28 info_wd rfl (by decide) (by decide) _ acc (T, true) [.string T, .bool true] rfl rfl rfl rfl (fun u hu => by simp at hu; rcases hu with rfl | rfl <;> rfl) ho1 hbel1 hbel1.size (by omega) ?_; intro v1 w2 ho2 hb2 hg2 hat2; obtain ⟨A2, c2, rfl, -⟩ := ho2.slice_; rw [List.length_append, List.length_singleton] at ho2))
            exact ⟨⟨_, _, rfl, HW2, ho2, hb2⟩, by show (r.extract 1 r.size).size < t.size; omega⟩
          · obtain rfl := hW.out.bad hr hz h32
            have e32 : (bt r 0 != 32) = true := by rw [bne_iff_ne]; exact h32
            clear hW hr h32
            go_wp2_with (first | (go_at_call 13; (with_reducible refine (Hc.out _).mono ?_); rintro e w1 ⟨rfl, hb1⟩; have ho1 := (fun h => OwnRow.below h hb1) ho; have hbel1 := below_after (below_drewN hbel _) hb1) | (at_builtin; refine OwnRow.append (R := WCell id) (w0 := w) (W := w1) w.heap.size rfl (.tmp 27) (.tmp 31) 28 32 (.agg #[.string ByteArray.empty, .bool false]) 2 24 rfl Try.underlying28 info_wd rfl (by decide) (by decide) _ acc (T, true) [.string T, .bool true] rfl rfl rfl rfl (fun u hu => by simp at hu; rcases hu with rfl | rfl <;> rfl) ho1 hbel1 hbel1.size (by omega) ?_; intro v1 w2 ho2 hb2 hg2 hat2; obtain ⟨A2, c2, rfl, -⟩ := ho2.slice_; rw [List.length_append, List.length_singleton] at ho2))
            go_ret2
            exact WPost.fail hb2
    · by_cases hz0 : t.size = 0
      · have hem := empty_yes hz0
        go_upto_region 2 with (fail)
        go_quiet (fail)
        rcases rdB (by omega) hA with ⟨hr, a, r, hc⟩ | ⟨T, r, hr, hc⟩
        · obtain rfl := hW.out.none_ hr
          have Hc := Lib.hid hc
          clear hc hr hW
          go_wp2_with (go_at_call 12; (with_reducible refine (Hc.out _).mono ?_); rintro e w1 ⟨rfl, hb1⟩; have ho1 := (fun h => OwnRow.below h hb1) ho; have hbel1 := below_after (below_drewN hbel _) hb1)
          go_ret2
          exact WPost.fail hbel1
        · have := rdW_lt hr
          omega
      · have hpos : 0 < t.size := by omega
        have hem := empty_no hpos
        have e34 : (bt t 0 == 34) = false := beq_eq_false_iff_ne.2 (fun h => hA ⟨hpos, h⟩)
        have hbt := bt_at t 0
        simp only [show (0 : Int).toNat = 0 from rfl] at hbt
        go_upto_region 2 with (fail)
        go_quiet (fail)
        rcases rdB (by omega) hA with ⟨hr, a, r, hc⟩ | ⟨T, r, hr, hc⟩
        · obtain rfl := hW.out.none_ hr
          have Hc := Lib.hid hc
          clear hc hr hW
          go_wp2_with (go_at_call 12; (with_reducible refine (Hc.out _).mono ?_); rintro e w1 ⟨rfl, hb1⟩; have ho1 := (fun h => OwnRow.below h hb1) ho; have hbel1 := below_after (below_drewN hbel _) hb1)
          go_ret2
          exact WPost.fail hbel1
        · have Hc := Lib.hid hc
          have hlt := rdW_lt hr
          clear hc
          by_cases hz : r.size = 0
          · obtain rfl := hW.out.last hr hz
            have hre := empty_yes hz
            clear hW hr
            go_wp2_with (first | (go_at_call 12; (with_reducible refine (Hc.out _).mono ?_); rintro e w1 ⟨rfl, hb1⟩; have ho1 := (fun h => OwnRow.below h hb1) ho; have hbel1 := below_after (below_drewN hbel _) hb1) | (at_builtin; refine OwnRow.append (R := WCell id) (w0 := w) (W := w1) w.heap.size rfl (.tmp 27) (.tmp 31) 28 32 (.agg #[.string ByteArray.empty, .bool false]) 2 24 rfl Try.underlying28 info_wd rfl (by decide) (by decide) _ acc (T, false) [.string T, .bool false] rfl rfl rfl rfl (fun u hu => by simp at hu; rcases hu with rfl | rfl <;> rfl) ho1 hbel1 hbel1.size (by omega) ?_; intro v1 w2 ho2 hb2 hg2 hat2; obtain ⟨A2, c2, rfl, -⟩ := ho2.slice_; rw [List.length_append, List.length_singleton] at ho2))
            go_ret2
            exact ⟨hb2, _, rfl, ho2⟩
          · have hre := empty_no (show 0 < r.size by omega)
            have hbr := bt_at r 0
            simp only [show (0 : Int).toNat = 0 from rfl] at hbr
            have hzp : 0 < r.size := by omega
            by_cases h32 : bt r 0 = 32
            · have HW2 := Lib.hid (hW.out.go hr hz (not_not_intro h32))
              have e32 : (bt r 0 != 32) = false := by rw [bne_eq_false_iff_eq]; exact h32
              have hxz := size_ext r 1 r.size (Nat.le_refl _)
              clear hW hr h32
              go_wp2_with (first | (go_at_call 12; (with_reducible refine (Hc.out _).mono ?_); rintro e w1 ⟨rfl, hb1⟩; have ho1 := (fun h => OwnRow.below h hb1) ho; have hbel1 := below_after (below_drewN hbel _) hb1) | (at_builtin; refine OwnRow.append (R := WCell id) (w0 := w) (W := w1) w.heap.size rfl (.tmp 27) (.tmp 31) 28 32 (.agg #[.string ByteArray.empty, .bool false]) 2 24 rfl Try.underlying28 info_wd rfl (by decide) (by decide) _ acc (T, false) [.string T, .bool false] rfl rfl rfl rfl (fun u hu => by simp at hu; rcases hu with rfl | rfl <;> rfl) ho1 hbel1 hbel1.size (by omega) ?_; intro v1 w2 ho2 hb2 hg2 hat2; obtain ⟨A2, c2, rfl, -⟩ := ho2.slice_; rw [List.length_append, List.length_singleton] at ho2))
              exact ⟨⟨_, _, rfl, HW2, ho2, hb2⟩, by show (r.extract 1 r.size).size < t.size; omega⟩
            · obtain rfl := hW.out.bad hr hz h32
              have e32 : (bt r 0 != 32) = true := by rw [bne_iff_ne]; exact h32
              clear hW hr h32
              go_wp2_with (first | (go_at_call 12; (with_reducible refine (Hc.out _).mono ?_); rintro e w1 ⟨rfl, hb1⟩; have ho1 := (fun h => OwnRow.below h hb1) ho; have hbel1 := below_after (below_drewN hbel _) hb1) | (at_builtin; refine OwnRow.append (R := WCell id) (w0 := w) (W := w1) w.heap.size rfl (.tmp 27) (.tmp 31) 28 32 (.agg #[.string ByteArray.empty, .bool false]) 2 24 rfl Try.underlying28 info_wd rfl (by decide) (by decide) _ acc (T, false) [.string T, .bool false] rfl rfl rfl rfl (fun u hu => by simp at hu; rcases hu with rfl | rfl <;> rfl) ho1 hbel1 hbel1.size (by omega) ?_; intro v1 w2 ho2 hb2 hg2 hat2; obtain ⟨A2, c2, rfl, -⟩ := ho2.slice_; rw [List.length_append, List.length_singleton] at ho2))
              go_ret2
              exact WPost.fail hb2
end Go.Proofs.Ytjfdbdjcceecjaa
