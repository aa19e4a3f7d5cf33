/- Scalar: the first piece of a text, by the document: what it says. -/
import Derived.Test.YtgippjhkimohlaaDoorScaH
set_option linter.unusedVariables false
set_option linter.unusedSimpArgs false
namespace Go.Proofs.YtgippjhkimohlaaDoor
open Go.RowKit Go.Proofs.YtgippjhkimohlaaDoorW.PrintWords Go.Proofs.YtgippjhkimohlaaDoorW.PrintLast
theorem valT_one (t : ByteArray) : valT t 1 = lead (bt t 0) := by unfold valT; rw [if_pos rfl]
theorem valT_step (t : ByteArray) (i : Int) (h1 : 1 ≤ i) (h3 : i ≤ 3) : valT t (i + 1) = 64 * valT t i + bt t i - 128 := by
  rcases (show i = 1 ∨ i = 2 ∨ i = 3 by omega) with rfl | rfl | rfl
  · rfl
  · rfl
  · rfl
theorem valT_small (t : ByteArray) (i : Int) (h1 : 1 ≤ i) (h3 : i ≤ 3) (hl : 0 ≤ lead (bt t 0) ∧ lead (bt t 0) ≤ 31) : -1000000 ≤ valT t i ∧ valT t i ≤ 1000000 := by
  have b1 := bt_range t 1
  have b2 := bt_range t 2
  rcases (show i = 1 ∨ i = 2 ∨ i = 3 by omega) with rfl | rfl | rfl
  · rw [valT_one]; omega
  · rw [show (2 : Int) = 1 + 1 from rfl, valT_step t 1 (by omega) (by omega), valT_one]; omega
  · rw [show (3 : Int) = 2 + 1 from rfl, valT_step t 2 (by omega) (by omega), show (2 : Int) = 1 + 1 from rfl, valT_step t 1 (by omega) (by omega), valT_one]
    simp only [show (1 : Int) + 1 = 2 from rfl]
    omega
theorem lead_small (c : Int) (h : 194 ≤ c ∧ c ≤ 244) : 0 ≤ lead c ∧ lead c ≤ 31 := by
  unfold lead
  repeat' split
  all_goals omega
theorem size_rpc : (Tryd.prog.info? 33).map (·.size) = some 4 := by kernel_rfl
set_option maxRecDepth 100000 in
set_option maxHeartbeats 4000000 in
theorem RFirst_any (t : ByteArray) (w : World) (ht : 0 < t.size) (hs : t.size ≤ 140737488351232) :
    Calls Tryd.prog 26 #[.string t] w fun e w' => e = .returned (pcV 0 (fstT t)) ∧ Below w.heap.size w w' := by
  have hbt := bt_at t 0
  simp only [show (0 : Int).toNat = 0 from rfl] at hbt
  have hbr := bt_range t 0
  have hst := fun W => stands_any t W ht hs
  have hr4 := run_le4 ht
  have hb4 := bgN_range (bt t 0)
  obtain ⟨R, hR⟩ : ∃ R, fstT t = R := ⟨_, rfl⟩
  by_cases hq : runT t = bgN (bt t 0)
  · have e1 : R = ⟨runT t, valT t (runT t), false⟩ := by rw [← hR]; unfold fstT; rw [if_pos hq]
    have hwh := whole_is ht hq
    have hsz := hwh.size
    rw [← hq] at hst
    generalize hn : runT t = n at *
    have Hst := Lib.hid hst
    rw [hR]
    clear hst hR
    have hk := hwh.kind
    have Hs := fun i h1 h3 => Lib.hid (valT_step t i h1 h3)
    have h1 := valT_one t
    by_cases c1 : n = 1
    · subst c1
      have hc : bt t 0 < 128 := by omega
      have hv : valT t 1 = bt t 0 := by rw [h1]; unfold lead; rw [if_pos hc]
      rw [hv] at e1
      have E1 := Lib.hid e1
      clear e1 hwh hk Hs h1 hq hn hv
      go_enter Tryd.func26, Tryd.ntmps26
      go_wp2_with (go_at_call 62; (with_reducible refine (Hst.out _).mono ?_); rintro e w1 ⟨rfl, hb1⟩; have hB1 := (Blk.new w 33 #[.int .i64 0, .int .i64 0, .int .i32 0, .bool false]).after hb1; have hbel1 := below_after (below_one w _) hb1; (obtain ⟨g0, g1, g2, g3, g4, g5, g6, g7⟩ := Blk.facts hB1))
      refine wp_loop_rounds 1 ?_
      rw [rounds_succ]
      go_wp2
      exact bodyPost_ret (ret_blk (ty := 33) rfl _ _ _ _ _ _ rfl ((((hB1.set_ 0 _).set_ 1 _).set_ 2 _).set_ 3 _) Tryd.underlying33 rfl 4 size_rpc rfl) rfl ⟨by rw [E1.out]; rfl, below_set (below_set (below_set (below_set hbel1 (Nat.le_refl _) _) (Nat.le_refl _) _) (Nat.le_refl _) _) (Nat.le_refl _) _⟩
    · have hn2 : 2 ≤ n ∧ n ≤ 4 := by omega
      have hc : 194 ≤ bt t 0 ∧ bt t 0 ≤ 244 := by omega
      have hsm := fun i h1 h3 => valT_small t i h1 h3 (lead_small _ hc)
      have Hsm := fun i h1 h3 => Lib.hid (hsm i h1 h3)
      have E1 := Lib.hid e1
      have H1 := Lib.hid h1
      clear e1 hwh hk h1 hq hn hsm
      go_enter Tryd.func26, Tryd.ntmps26
      go_wp2_with (go_at_call 62; (with_reducible refine (Hst.out _).mono ?_); rintro e w1 ⟨rfl, hb1⟩; have hB1 := (Blk.new w 33 #[.int .i64 0, .int .i64 0, .int .i32 0, .bool false]).after hb1; have hbel1 := below_after (below_one w _) hb1)
      go_loopw [5, 6] (fun r m wr => ∃ r' m' : Int, r = .int .i32 r' ∧ m = .int .i32 m' ∧ ((m' = 128 ∧ r' = bt t 0) ∨ (m' = 64 ∧ r' = bt t 0 - 128) ∨ (m' = 32 ∧ r' = bt t 0 - 192) ∨ (m' = 16 ∧ r' = bt t 0 - 224) ∨ (m' = 8 ∧ r' = bt t 0 - 240)) ∧ (224 ≤ bt t 0 ∨ 32 ≤ m') ∧ (240 ≤ bt t 0 ∨ 16 ≤ m') ∧ Blk wr w.heap.size 33 #[.int .i64 0, .int .i64 0, .int .i32 0, .bool false] ∧ Below w.heap.size w wr) (fun _ m _ => (intOf m).toNat)
      case atStart => exact ⟨_, _, rfl, rfl, Or.inl ⟨rfl, rfl⟩, by omega, by omega, hB1, hbel1⟩
      case round =>
        obtain ⟨r, m, rfl, rfl, hrm, ha, hb, hB, hbel⟩ := hrel
        by_cases hge : m ≤ r
        · have hm : m / 2 = 64 ∨ m / 2 = 32 ∨ m / 2 = 16 ∨ m / 2 = 8 := by omega
          go_wp2
          exact ⟨⟨_, _, rfl, rfl, by omega, by omega, by omega, hB, hbel⟩, by simp [intOf]; omega⟩
        · have hl : r = lead (bt t 0) := by
            unfold lead
            repeat' split
            all_goals omega
          have hv : r = valT t 1 := hl.trans H1.out.symm
          have HV := Lib.hid hv
          clear hrm ha hb hl hv
          go_wp2
          go_loopw [5, 7] (fun r i wr => ∃ r' i' : Int, r = .int .i32 r' ∧ i = .int .i64 i' ∧ r' = valT t i' ∧ 1 ≤ i' ∧ i' ≤ n ∧ Blk wr w.heap.size 33 #[.int .i64 0, .int .i64 0, .int .i32 0, .bool false] ∧ Below w.heap.size w wr) (fun _ i _ => n.toNat - (intOf i).toNat)
          case atStart => exact ⟨_, _, rfl, rfl, HV.out, by omega, by omega, hB, hbel⟩
          case round =>
            clear HV hB hbel hge
            obtain ⟨x, i, rfl, rfl, hx, hi1, hi2, hB, hbel⟩ := hrel
            have hbi := bt_at t i
            have hbir := bt_range t i
            by_cases hlt : i < n
            · have hstep := (Hs i hi1 (by omega)).out
              have hsm := (Hsm i hi1 (by omega)).out
              rw [← hx] at hstep hsm
              have HST := Lib.hid hstep
              have hin : i.toNat < t.size := by omega
              clear hstep hx
              go_wp2
              exact ⟨⟨_, _, rfl, rfl, HST.out.symm, by omega, by omega, hB, hbel⟩, by simp [intOf]; omega⟩
            · obtain rfl : i = n := by omega
              obtain ⟨g0, g1, g2, g3, g4, g5, g6, g7⟩ := Blk.facts hB
              have HX := Lib.hid hx
              clear hx
              go_wp2
              exact bodyPost_ret (ret_blk (ty := 33) rfl _ _ _ _ _ _ rfl ((((hB.set_ 0 _).set_ 1 _).set_ 2 _).set_ 3 _) Tryd.underlying33 rfl 4 size_rpc rfl) rfl ⟨by rw [E1.out, ← HX.out]; rfl, below_set (below_set (below_set (below_set hbel (Nat.le_refl _) _) (Nat.le_refl _) _) (Nat.le_refl _) _) (Nat.le_refl _) _⟩
  · have e1 : R = ⟨runT t, 65533, true⟩ := by rw [← hR]; unfold fstT; rw [if_neg hq]
    have Hst := Lib.hid hst
    rw [hR]
    clear hst hR
    generalize runT t = n at *
    generalize bgN (bt t 0) = B at *
    have E1 := Lib.hid e1
    clear e1
    go_enter Tryd.func26, Tryd.ntmps26
    go_wp2_with (go_at_call 62; (with_reducible refine (Hst.out _).mono ?_); rintro e w1 ⟨rfl, hb1⟩; have hB1 := (Blk.new w 33 #[.int .i64 0, .int .i64 0, .int .i32 0, .bool false]).after hb1; have hbel1 := below_after (below_one w _) hb1; (obtain ⟨g0, g1, g2, g3, g4, g5, g6, g7⟩ := Blk.facts hB1))
    exact bodyPost_ret (ret_blk (ty := 33) rfl _ _ _ _ _ _ rfl ((((hB1.set_ 0 _).set_ 1 _).set_ 2 _).set_ 3 _) Tryd.underlying33 rfl 4 size_rpc rfl) rfl ⟨by rw [E1.out]; rfl, below_set (below_set (below_set (below_set hbel1 (Nat.le_refl _) _) (Nat.le_refl _) _) (Nat.le_refl _) _) (Nat.le_refl _) _⟩
end Go.Proofs.YtgippjhkimohlaaDoor
