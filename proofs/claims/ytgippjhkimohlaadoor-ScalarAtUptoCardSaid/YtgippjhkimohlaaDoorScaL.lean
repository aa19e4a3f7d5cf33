/- Scalar: the statements' own comparisons; the first wrong piece; the piece at a place. -/
import Derived.Test.YtgippjhkimohlaaDoorScaK
set_option linter.unusedVariables false
set_option linter.unusedSimpArgs false
namespace Go.Proofs.YtgippjhkimohlaaDoor
open Go.RowKit Go.Proofs.YtgippjhkimohlaaDoorW.PrintWords Go.Proofs.YtgippjhkimohlaaDoorW.PrintLast
theorem runes_same (l : List Int) (A B : Option Addr) (ca cb : Nat) (w : World) (ha : ReadsInt w .i32 A l.length l) (hb : ReadsInt w .i32 B l.length l) :
    Calls Tryd.prog 18 #[.slice A l.length ca, .slice B l.length cb] w fun e w' => e = .returned (.bool true) ∧ ∃ n, w' = w.drewN n := by
  have hm := ha.2.1
  go_enter Tryd.func18, Tryd.ntmps18
  go_wp2
  go_loopw [13] (fun i wr => ∃ (k : Int) (n : Nat), i = .int .i64 k ∧ 0 ≤ k ∧ k ≤ l.length ∧ wr = w.drewN n) (fun i _ => l.length - (intOf i).toNat)
  case atStart => exact ⟨0, 0, rfl, by omega, by omega, rfl⟩
  case round =>
    obtain ⟨k, n, rfl, hk0, hk1, rfl⟩ := hrel
    by_cases hlt : k < l.length
    · obtain ⟨ad, rfl, c0⟩ := ha.at_ k hk0 hlt
      obtain ⟨bd, rfl, d0⟩ := hb.at_ k hk0 hlt
      go_upto_region 6 with (fail)
      go_quiet (fail)
      go_wp2
      exact ⟨⟨k + 1, _, rfl, by omega, by omega, rfl⟩, by simp [intOf]; omega⟩
    · obtain rfl : k = l.length := by omega
      go_wp2
      go_ret
      exact ⟨rfl, _, rfl⟩
theorem piece_same (a : Int) (p : Pc) (w : World) : Calls Tryd.prog 23 #[pcV a p, pcV a p] w fun e w' => e = .returned (.bool true) ∧ Below w.heap.size w w' := by
  obtain ⟨n, r, b⟩ := p
  go_enter Tryd.func23, Tryd.ntmps23
  go_wp2
  all_goals go_ret
  all_goals exact ⟨by simp, by first | exact below_alloc (below_one _ _) _ | exact below_drewN (below_alloc (below_one _ _) _) _⟩
set_option maxRecDepth 100000 in
set_option maxHeartbeats 4000000 in
theorem Wrong_any (s : ByteArray) (w : World) (hs : s.size * 24 + 24 ≤ 140737488351232) (T : Tabs w) : Calls Tryd.prog 24 #[.string s] w fun e w' => e = .returned (.int .i64 (wrgT (pcs s 0))) ∧ Below w.heap.size w w' := by
  have hp := Pieces_any s w hs T
  have hn := pcs_len s s.size 0 (by omega) (by omega)
  obtain ⟨R, hR⟩ : ∃ R, wrgT (pcs s 0) = R := ⟨_, rfl⟩
  rw [hR]
  generalize pcs s 0 = l at *
  have Hp := Lib.hid hp
  have HR := Lib.hid hR
  clear hp hR
  go_enter Tryd.func24, Tryd.ntmps24
  go_wp2_with (go_at_call 21; (with_reducible refine (Hp.out).mono ?_); rintro e w1 ⟨hb1, v, rfl, ho⟩; obtain ⟨A1, c1, rfl, hc1, hr⟩ := ho.reads)
  have Hr := Lib.hid hr
  clear ho hr
  go_loopw [8] (fun i wr => ∃ k : Nat, i = .int .i64 (k : Int) ∧ k ≤ l.length ∧ Hid (wrgT (l.drop k) = R) ∧ Below w1.heap.size w1 wr) (fun i _ => l.length - (intOf i).toNat)
  case atStart => exact ⟨0, rfl, by omega, HR, Below.refl _ _⟩
  case round =>
    clear HR
    obtain ⟨k, rfl, hk, hw, hbel⟩ := hrel
    by_cases hlt : k < l.length
    · obtain ⟨ad, rfl, d0, d1, d2, d3⟩ := piece_at (Hr.out.imp_ hbel (fun p c h => h)) k hlt
      have hw2 := hw.out
      rw [List.drop_eq_getElem_cons hlt] at hw2
      have hg : l.getD k pc0 = l[k] := by rw [List.getD_eq_getElem?_getD, List.getElem?_eq_getElem hlt]; rfl
      rw [← hg] at hw2
      unfold wrgT at hw2
      have hb3 := below_after hb1 hbel
      by_cases hbad : (l.getD k pc0).2.bad = true
      · rw [if_pos hbad] at hw2
        rw [hbad] at d3
        clear hg hbad hw
        generalize (l.getD k pc0).1 = x at *
        generalize (l.getD k pc0).2.size = x1 at *
        generalize (l.getD k pc0).2.rune = x2 at *
        subst hw2
        go_wp2
        go_ret
        exact ⟨rfl, below_alloc hb3 _⟩
      · rw [if_neg hbad] at hw2
        have hbf : (l.getD k pc0).2.bad = false := by simpa using hbad
        rw [hbf] at d3
        clear hbf
        have HW := Lib.hid hw2
        clear hw2 hg hbad hw
        generalize (l.getD k pc0).1 = x at *
        generalize (l.getD k pc0).2.size = x1 at *
        generalize (l.getD k pc0).2.rune = x2 at *
        go_wp2
        exact ⟨⟨k + 1, rfl, by omega, HW, below_alloc hbel _⟩, by simp [intOf]; omega⟩
    · obtain rfl : k = l.length := by omega
      have hw2 := hw.out
      rw [List.drop_length] at hw2
      unfold wrgT at hw2
      subst hw2
      have hb3 := below_after hb1 hbel
      go_wp2
      go_ret
      exact ⟨rfl, hb3⟩
/-- what At tells -/
def atT (s : ByteArray) (a : Int) : Value := .tuple #[if a < 0 ∨ (s.size : Int) ≤ a then pcV 0 ⟨0, 0, false⟩ else pcV a (fstT (tail s a)), .int .i64 (if a < 0 ∨ (s.size : Int) ≤ a then 21 else 0)]
set_option maxRecDepth 100000 in
set_option maxHeartbeats 4000000 in
theorem At_any (s : ByteArray) (a : Int) (w : World) (hs : s.size ≤ 140737488351232) (T : Tabs w) : Calls Tryd.prog 25 #[.string s, .int .i64 a] w fun e w' => e = .returned (atT s a) ∧ Below w.heap.size w w' := by
  by_cases h0 : a < 0
  · have e : atT s a = .tuple #[pcV 0 ⟨0, 0, false⟩, .int .i64 21] := by unfold atT; rw [if_pos (Or.inl h0), if_pos (Or.inl h0)]
    rw [e]
    clear e
    go_enter Tryd.func25, Tryd.ntmps25
    go_wp2
    exact bodyPost_ret (v := .tuple #[pcV 0 ⟨0, 0, false⟩, .int .i64 21]) (by simp [results, Tryd.results25, go_sem]) rfl ⟨rfl, by first | exact below_one _ _ | exact below_drewN (below_one _ _) _⟩
  · by_cases h1 : a < s.size
    · have e : atT s a = .tuple #[pcV a (fstT (tail s a)), .int .i64 0] := by unfold atT; rw [if_neg (by omega), if_neg (by omega)]
      rw [e]
      clear e
      have hts := tail_size s a (by omega) (by omega)
      have hf := fun W (h : Below w.heap.size w W) => first_any (tail s a) W (by omega) (by omega) (Utf8Tabs_below T h)
      generalize fstT (tail s a) = p at *
      generalize opnT (tail s a) = o at *
      obtain ⟨n, r, b⟩ := p
      unfold tail at hf
      have Hf := Lib.hid hf
      clear hf hts
      go_enter Tryd.func25, Tryd.ntmps25
      go_wp2_with (go_at_call 61; (with_reducible refine (Hf.out _ (below_one _ _)).mono ?_); rintro e w1 ⟨rfl, hb1⟩; have hz1 := hb1.size; have hB2 := ((Blk.new w 32 #[.int .i64 0, .int .i64 0, .int .i32 0, .bool false]).after hb1).alloc (.cells #[.int .i64 a, .int .i64 n, .int .i32 r, .bool b] 32); have hbel2 := below_alloc (below_after (below_one w _) hb1) (.cells #[.int .i64 a, .int .i64 n, .int .i32 r, .bool b] 32); (obtain ⟨g0, g1, g2, g3, g4, g5, g6, g7⟩ := Blk.facts hB2))
      exact bodyPost_ret (ret_blk_tmp (ty := 32) rfl _ _ _ _ _ _ rfl ((((hB2.set_ 0 _).set_ 1 _).set_ 2 _).set_ 3 _) Tryd.underlying32 rfl 4 size_pc rfl) rfl ⟨rfl, below_set (below_set (below_set (below_set hbel2 (Nat.le_refl _) _) (Nat.le_refl _) _) (Nat.le_refl _) _) (Nat.le_refl _) _⟩
    · have e : atT s a = .tuple #[pcV 0 ⟨0, 0, false⟩, .int .i64 21] := by unfold atT; rw [if_pos (Or.inr (by omega)), if_pos (Or.inr (by omega))]
      rw [e]
      clear e
      go_enter Tryd.func25, Tryd.ntmps25
      go_wp2
      exact bodyPost_ret (v := .tuple #[pcV 0 ⟨0, 0, false⟩, .int .i64 21]) (by simp [results, Tryd.results25, go_sem]) rfl ⟨rfl, by first | exact below_one _ _ | exact below_drewN (below_one _ _) _⟩
end Go.Proofs.YtgippjhkimohlaaDoor
