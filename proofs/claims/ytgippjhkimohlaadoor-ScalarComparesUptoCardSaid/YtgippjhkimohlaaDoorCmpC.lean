/- Scalar: Compare, by the program; both as contracts over what texts say. -/
import Derived.Test.YtgippjhkimohlaaDoorCmpE
import Derived.Test.YtgippjhkimohlaaDoorWMore
import Derived.Test.YtgippjhkimohlaaDoorQScbx0
set_option linter.unusedVariables false
set_option linter.unusedSimpArgs false
namespace Go.Proofs.YtgippjhkimohlaaDoor
open Go.RowKit Go.Proofs.YtgippjhkimohlaaDoorW.PrintWords Go.Proofs.YtgippjhkimohlaaDoorW.PrintMore Go.Proofs.YtgippjhkimohlaaDoorW.PrintLast Go.Proofs.YtgippjhkimohlaaDoorQ.Scb
attribute [local go_sem] min_two
theorem quiet_drawn {P : Program} {f : FuncId} {args : Array Value} {w : World} {n : Nat} {v : Value} (h : Calls P f args (w.drewN n) fun e w' => e = .returned v ∧ Drawn0 (w.drewN n) w') :
    Calls P f args (w.drewN n) fun e w' => e = .returned v ∧ ∃ m, w' = w.drewN m :=
  h.mono fun e w' ⟨he, hd⟩ => ⟨he, by obtain ⟨m, hm⟩ := hd.out; exact ⟨n + m, by rw [hm, World.drewN_drewN]⟩⟩
set_option maxRecDepth 100000 in
set_option maxHeartbeats 8000000 in
theorem Compare_any (K : Nat) (a b : ByteArray) (X Y : List Int) (x2 x3 y2 y3 : Int) (w : World) (ha : a.size ≤ 16777216) (hb : b.size ≤ 16777216) (hX : scalar_Units.f K (decT a) = some (X, x2, x3)) (hY : scalar_Units.f K (decT b) = some (Y, y2, y3)) (hlX : X.length ≤ 1000000000) (hlY : Y.length ≤ 1000000000) (T : Tabs w) :
    Calls Tryd.prog 59 #[.string a, .string b] w fun e w' => e = .returned (.int .i64 (cmpL X Y)) ∧ Below w.heap.size w w' := by
  have Da := Lib.hid (Decode_any a w (by omega) T)
  have Db := Lib.hid (fun W (h : Below w.heap.size w W) => Decode_any b W (by omega) (Utf8Tabs_below T h))
  obtain ⟨R, hR⟩ : ∃ R, cmpL (X.drop 0) (Y.drop 0) = R := ⟨_, rfl⟩
  have hR0 : cmpL X Y = R := hR
  rw [hR0]
  have HR := Lib.hid hR
  have HX := Lib.hid hX
  have HY := Lib.hid hY
  generalize decT a = la at *
  generalize decT b = lb at *
  clear hR hR0 hX hY
  go_enter Tryd.func59, Tryd.ntmps59
  go_upto_region 3 with (first
    | (go_at_call 19; (with_reducible refine (Da.out).mono ?_); rintro e w1 ⟨hb1, v, rfl, ho⟩; obtain ⟨A1, c1, rfl, hc1, hr1⟩ := Kd.R_reads (R_of_nums ho); clear ho)
    | (go_at_call 29; (with_reducible refine (scalar_Units.calls K A1 c1 la X x2 x3 _ hr1 hc1 HX.out).mono ?_); rintro e w2 ⟨v2, rfl, ho2, hb2⟩; have hbel2 := below_after hb1 hb2; obtain ⟨A2, c2, rfl, hc2, hr2⟩ := Kd.R_reads ho2; clear ho2)
    | (go_at_call 19; (with_reducible refine (Db.out _ hbel2).mono ?_); rintro e w3 ⟨hb3, v, rfl, ho⟩; obtain ⟨A3, c3, rfl, hc3, hr3⟩ := Kd.R_reads (R_of_nums ho); clear ho)
    | (go_at_call 29; (with_reducible refine (scalar_Units.calls K A3 c3 lb Y y2 y3 _ hr3 hc3 HY.out).mono ?_); rintro e w4 ⟨v4, rfl, ho4, hb4⟩; have hbel4 := below_after (below_after hbel2 hb3) hb4; obtain ⟨A4, c4, rfl, hc4, hr4⟩ := Kd.R_reads ho4; clear ho4))
  have rX := ((ints_of_C hr2).below hb3).below hb4
  have rY := ints_of_C hr4
  clear hr1 hr2 hr3 hr4 hb1 hb2 hb3 hb4 hbel2 Da Db HX HY
  obtain ⟨M, hmin, hM1, hM2, hM3⟩ : ∃ M : Nat, Builtin.min2 (.int .i64 (X.length : Int)) (.int .i64 (Y.length : Int)) = pure (.int .i64 (M : Int)) ∧ M ≤ X.length ∧ M ≤ Y.length ∧ (X.length ≤ M ∨ Y.length ≤ M) := by
    by_cases h : (Y.length : Int) < (X.length : Int)
    · exact ⟨Y.length, by rw [min2_int, if_pos h], by omega, by omega, by omega⟩
    · exact ⟨X.length, by rw [min2_int, if_neg h], by omega, by omega, by omega⟩
  go_wp2
  go_loopw [31] (fun i wr => ∃ k : Nat, i = .int .i64 (k : Int) ∧ k ≤ M ∧ Hid (cmpL (X.drop k) (Y.drop k) = R) ∧ Below w4.heap.size w4 wr) (fun i _ => M - (intOf i).toNat)
  case atStart => exact ⟨0, rfl, by omega, HR, Below.refl _ _⟩
  case round =>
    clear HR hmin
    obtain ⟨k, rfl, hk, hw, hbel⟩ := hrel
    have hbw := below_after hbel4 hbel
    by_cases hlt : k < M
    · obtain ⟨ad, rfl, d0⟩ := (rX.below hbel).at_ k (by omega) (by omega)
      obtain ⟨ae, rfl, f0⟩ := (rY.below hbel).at_ k (by omega) (by omega)
      simp only [Int.toNat_natCast] at d0 f0
      have hw2 := hw.out
      rw [cmpL_drop X Y k (by omega) (by omega)] at hw2
      generalize rd X k = x at *
      generalize rd Y k = y at *
      by_cases hxy : x = y
      · subst hxy
        rw [if_neg (by omega), if_neg (by omega)] at hw2
        have HW := Lib.hid hw2
        clear hw hw2
        go_upto_region 6 with (fail)
        go_quiet (fail)
        go_wp2
        exact ⟨⟨k + 1, rfl, by omega, HW, below_drewN hbel _⟩, by simp [intOf]; omega⟩
      · have hne : (x != y) = true := bne_iff_ne.2 hxy
        have hR2 : R = if x < y then -1 else if x > y then 1 else 0 := by
          rw [← hw2]
          by_cases g : x < y
          · rw [if_pos g, if_pos g]
          · rw [if_neg g, if_neg g, if_pos (by omega), if_pos (by omega)]
        have H16 := Lib.hid (fun W => cmp_Compare_uint16.calls x y R W (by rw [cmp16_is, hR2]))
        clear hw hw2 hR2
        go_upto_region 6 with (fail)
        go_quiet (fail)
        go_upto_region 7 with (fail)
        have hbq := below_drewN hbw nq
        obtain ⟨d1, f1⟩ : (wr.drewN nq).cell? (ad.add k) = some (Value.int IntKind.u16 x) ∧ (wr.drewN nq).cell? (ae.add k) = some (Value.int IntKind.u16 y) := ⟨by first | exact d0 | simpa using d0, by first | exact f0 | simpa using f0⟩
        clear d0 f0 hbel hbw
        generalize wr.drewN nq = W5 at *
        go_quiet ((go_at_call 74; with_reducible exact quiet_drawn (H16.out _)))
        go_wp2
        go_ret
        exact ⟨rfl, below_drewN hbq _⟩
    · obtain rfl : k = M := by omega
      have hw2 := hw.out
      have hnil : X.drop k = [] ∨ Y.drop k = [] := by
        rcases hM3 with h | h
        · exact Or.inl (List.drop_of_length_le (by omega))
        · exact Or.inr (List.drop_of_length_le (by omega))
      rw [cmpL_end hnil, List.length_drop, List.length_drop] at hw2
      have hR2 : R = if (X.length : Int) < (Y.length : Int) then -1 else if (X.length : Int) > (Y.length : Int) then 1 else 0 := by
        rw [← hw2]
        by_cases g : (X.length : Int) < (Y.length : Int)
        · rw [if_pos g, if_pos (by omega)]
        · rw [if_neg g, if_neg (by omega)]
          by_cases g2 : (X.length : Int) > (Y.length : Int)
          · rw [if_pos g2, if_pos (by omega)]
          · rw [if_neg g2, if_neg (by omega)]
      have HI := Lib.hid (fun W => cmp_Compare_int.calls (X.length : Int) (Y.length : Int) R W (by rw [cmpI_is, hR2]))
      clear hw hw2 hR2
      go_wp2_with (go_at_call 75; (with_reducible refine (HI.out _).mono ?_); rintro e w5 ⟨rfl, hd5⟩)
      go_ret
      exact ⟨rfl, below_after hbw hd5.below⟩
theorem decT_len2 (s : ByteArray) : (decT s).length ≤ s.size := by unfold decT; rw [List.length_map]; exact pcs_len s s.size 0 (by omega) (by omega)
def cmpS (a b : ByteArray) : Int := cmpL (untL (decT a)) (untL (decT b))
theorem CompareS_any (a b : ByteArray) (w : World) (ha : a.size ≤ 16777216) (hb : b.size ≤ 16777216) (T : Tabs w) : Calls Tryd.prog 59 #[.string a, .string b] w fun e w' => e = .returned (.int .i64 (cmpS a b)) ∧ Below w.heap.size w w' := by
  have h1 := decT_len2 a
  have h2 := decT_len2 b
  have h3 := untL_len (decT a)
  have h4 := untL_len (decT b)
  exact Compare_any 9000000000003 a b (untL (decT a)) (untL (decT b)) 0 0 0 0 w ha hb (Units_all _ (decT_scal a) (by omega)) (Units_all _ (decT_scal b) (by omega)) (by omega) (by omega) T
end Go.Proofs.YtgippjhkimohlaaDoor
