/- What these functions of the program compute, and that they compute it: printed by wip/tools/orac.py over the kit's print.py. -/
import Derived.Test.YtgippjhkimohlaaDoorQScax0
import Derived.Test.YtgippjhkimohlaaDoorQScax16
import Derived.Test.YtgippjhkimohlaaDoorQScax29
import Derived.Test.YtgippjhkimohlaaDoorQScax30
namespace Go.Proofs.YtgippjhkimohlaaDoorQ.Sca
open Go.RowKit Go.Proofs.YtgippjhkimohlaaDoorW.PrintWords Go.Proofs.YtgippjhkimohlaaDoorW.PrintLast Go.Proofs.YtgippjhkimohlaaDoorW.PrintMore
attribute [local go_sem] max2_int min2_int max_two min_two max_three min_three max_four min_four   -- for this text's walks alone
set_option linter.unusedVariables false
set_option linter.unusedSimpArgs false

/-! ### posternref02_PositionOf: function 53 -/
mutual
def posternref02_PositionOf.j0 : Nat → ByteArray → Int → Bool → Option (Int × Int × Int × Int × Int)
  | 0, _, _, _ => none
  | k + 1, x0, x1, x18 => if x18 = true then (some (0, 0, 0, 0, 21)) else ((posternref02_ended.f k x0 x1).bind fun bt391 => ((posternref02_Pieces.f x0).bind fun t394 => (posternref02_PositionOf.l0 k x1 bt391.2 t394 (t394.length : Int) 0 bt391.1 0 0 0)))
def posternref02_PositionOf.l0 : Nat → Int → Int → List (S33) → Int → Int → Int → Int → Int → Int → Option (Int × Int × Int × Int × Int)
  | 0, _, _, _, _, _, _, _, _, _ => none
  | k + 1, x1, x7, x29, x30, x31, x394000, x394001, x394002, x394003 => if x31 < x30 then (if 0 ≤ x31 then (if x31 < (x29.length : Int) then (if ((rd_T33 x29 x31).f0) ≥ x1 then (some (x394000, x394001, x394002, x394003, 0)) else ((posternref02_units.f ((rd_T33 x29 x31).f2)).bind fun t399 => (if ((rd_T33 x29 x31).f0) ≥ x7 then (posternref02_PositionOf.l0 k x1 x7 x29 x30 (wrap64 (x31 + 1)) x394000 (wrap64 (x394001 + 1)) (wrap64 (x394002 + 1)) (wrap64 (x394003 + t399))) else (posternref02_PositionOf.l0 k x1 x7 x29 x30 (wrap64 (x31 + 1)) x394000 x394001 (wrap64 (x394002 + 1)) (wrap64 (x394003 + t399)))))) else (none)) else (none)) else (some (x394000, x394001, x394002, x394003, 0))
end
def posternref02_PositionOf.f (k : Nat) (a0 : ByteArray) (a1 : Int) : Option (Int × Int × Int × Int × Int) := if a1 < 0 then (posternref02_PositionOf.j0 k a0 a1 true) else (posternref02_PositionOf.j0 k a0 a1 (decide (a1 > (a0.size : Int))))
theorem posternref02_PositionOf.mono_l : ∀ k, (∀ y0 y1 y2, LeO (posternref02_PositionOf.j0 k y0 y1 y2) (posternref02_PositionOf.j0 (k + 1) y0 y1 y2)) ∧ (∀ y0 y1 y2 y3 y4 y5 y6 y7 y8, LeO (posternref02_PositionOf.l0 k y0 y1 y2 y3 y4 y5 y6 y7 y8) (posternref02_PositionOf.l0 (k + 1) y0 y1 y2 y3 y4 y5 y6 y7 y8))
  | 0 => ⟨fun _ _ _ r h => by simp [posternref02_PositionOf.j0] at h, fun _ _ _ _ _ _ _ _ _ r h => by simp [posternref02_PositionOf.l0] at h⟩
  | k + 1 => by
    obtain ⟨ih0, ih1⟩ := posternref02_PositionOf.mono_l k
    refine ⟨?_, ?_⟩
    · intro y0 y1 y2
      unfold posternref02_PositionOf.j0
      repeat' first
      | (with_reducible exact ih0 _ _ _)
      | (with_reducible exact ih1 _ _ _ _ _ _ _ _ _)
      | (with_reducible exact posternref02_ended.mono _ _ _)
      | (with_reducible exact LeO.refl _)
      | (with_reducible exact LeO.none _)
      | (with_reducible refine LeO.ite ?_ ?_)
      | (with_reducible refine LeO.bind ?_ (fun _ => ?_))
      | exact ih0 _ _ _
      | exact ih1 _ _ _ _ _ _ _ _ _
      | exact posternref02_ended.mono _ _ _
      | exact LeO.none _
      | refine LeO.ite ?_ ?_
      | refine LeO.bind ?_ (fun _ => ?_)
    · intro y0 y1 y2 y3 y4 y5 y6 y7 y8
      unfold posternref02_PositionOf.l0
      repeat' first
      | (with_reducible exact ih0 _ _ _)
      | (with_reducible exact ih1 _ _ _ _ _ _ _ _ _)
      | (with_reducible exact posternref02_ended.mono _ _ _)
      | (with_reducible exact LeO.refl _)
      | (with_reducible exact LeO.none _)
      | (with_reducible refine LeO.ite ?_ ?_)
      | (with_reducible refine LeO.bind ?_ (fun _ => ?_))
      | exact ih0 _ _ _
      | exact ih1 _ _ _ _ _ _ _ _ _
      | exact posternref02_ended.mono _ _ _
      | exact LeO.none _
      | refine LeO.ite ?_ ?_
      | refine LeO.bind ?_ (fun _ => ?_)
theorem posternref02_PositionOf.mono : ∀ a0 a1 k, LeO (posternref02_PositionOf.f k a0 a1) (posternref02_PositionOf.f (k + 1) a0 a1) := by
  intro a0 a1 k
  obtain ⟨ih0, ih1⟩ := posternref02_PositionOf.mono_l k
  unfold posternref02_PositionOf.f
  repeat' first
      | (with_reducible exact ih0 _ _ _)
      | (with_reducible exact ih1 _ _ _ _ _ _ _ _ _)
      | (with_reducible exact posternref02_ended.mono _ _ _)
      | (with_reducible exact LeO.refl _)
      | (with_reducible exact LeO.none _)
      | (with_reducible refine LeO.ite ?_ ?_)
      | (with_reducible refine LeO.bind ?_ (fun _ => ?_))
      | exact ih0 _ _ _
      | exact ih1 _ _ _ _ _ _ _ _ _
      | exact posternref02_ended.mono _ _ _
      | exact LeO.none _
      | refine LeO.ite ?_ ?_
      | refine LeO.bind ?_ (fun _ => ?_)
def posternref02_PositionOf.T10 : Bool × List (List Nat × List Nat) := (true, [([], []), ([0], [0]), ([], []), ([2], [2]), ([3], [3]), ([1, 4], [1, 4]), ([0, 1, 2, 3, 4, 5], []), ([6, 5, 4, 0, 1, 2, 3, 4, 5], [5, 6])])
def posternref02_PositionOf.B10 : List Nat := [0, 1, 0, 4, 12, 31, 63, 127]
theorem posternref02_PositionOf.tab10 : rtab .any (opsOf Tryd.f53 10) = posternref02_PositionOf.T10 := by kernel_rfl
theorem posternref02_PositionOf.bits10 : waitsOk posternref02_PositionOf.T10.2 posternref02_PositionOf.B10 = true := by kernel_rfl
set_option maxHeartbeats 8000000 in
set_option maxRecDepth 100000 in
theorem posternref02_PositionOf.calls (k : Nat) (a0 : ByteArray) (a1 : Int) (r1 : Int) (r2 : Int) (r3 : Int) (r4 : Int) (r5 : Int) (w : World) (h : posternref02_PositionOf.f k a0 a1 = some (r1, r2, r3, r4, r5)) :
    Calls Tryd.prog 53 #[.string a0, .int .i64 a1] w fun e w' => e = .returned (.tuple #[.agg #[.int .i64 r1, .int .i64 r2, .int .i64 r3, .int .i64 r4], .int .i64 r5]) ∧ Below w.heap.size w w' := by
  have hu81 := Tryd.underlying81
  have hu33 := Tryd.underlying33
  have HB := Aside0.mk (Below.refl w.heap.size w)
  have H : (if a1 < 0 then (posternref02_PositionOf.j0 k a0 a1 true) else (posternref02_PositionOf.j0 k a0 a1 (decide (a1 > (a0.size : Int))))) = some (r1, r2, r3, r4, r5) := h
  clear h
  have HC3 := Aside0.mk H
  clear H
  go_enter Tryd.func53, Tryd.ntmps53
  go_upto_region 1 with (first | ((with_reducible refine gate_dst (N := 4) rfl ?_); (try (refine gate_guard (by rfl) ?_; dsimp only)); refine box_event ?hg (N := 4) ?hd (cs := #[.int .i64 0, .int .i64 0, .int .i64 0, .int .i64 0]) (t := 81) ?hr ?_; (case hd => rfl); (case hg => rfl); (case hr => first | (go_simp; done) | (go_simp; rfl)); intro gb390 hg w4 hbox hb; have n0_ := Aside0.mk (below_step (by repeat (first | (with_reducible first | exact HB.out | apply below_alloc | apply pw_below_drewN | apply below_drew1) | exact HB.out)) hb); have n1_ := Aside0.mk (hbox); have n2_ := Aside0.mk ((by rw [hg]; exact (below_size (by repeat (first | (with_reducible first | exact HB.out | apply below_alloc | apply pw_below_drewN | apply below_drew1) | exact HB.out))) : w.heap.size ≤ gb390)); have n3_ := Aside0.mk ((by rw [hg]; exact (below_size (by repeat (first | (with_reducible first | exact HB.out | apply below_alloc | apply pw_below_drewN | apply below_drew1) | exact HB.out))) : w.heap.size ≤ gb390)); clear HB; have HB := n0_; have BK390 := n1_; have GW390 := n2_; have GE390 := n3_; clear n0_ n1_ n2_ n3_; clear hb hbox hg))
  (try simp only [Act.put, List.setIfInBounds_toArray, List.set_cons_zero, List.set_cons_succ])
  go_cut [18] (fun v18 wc => ∃ (kq : Nat) (x18_2 : Bool), v18 = .bool x18_2 ∧ Aside0 (posternref02_PositionOf.j0 kq a0 a1 x18_2 = some (r1, r2, r3, r4, r5)) ∧ Aside0 (kq ≤ k) ∧ Aside0 (wc.heap[gb390]? = some (.cells #[.int .i64 0, .int .i64 0, .int .i64 0, .int .i64 0] 81 (0, 0))) ∧ Aside0 (Below w.heap.size w wc))
  case first =>
    have H := HC3.out
    clear HC3
    by_cases c5 : a1 < 0
    · rw [if_pos c5] at H
      have c5b0 : decide (a1 < 0) = true := decide_eq_true c5
      clear c5
      (first | rw [c5b0] | (simp only [i64_w, i32_w]; rw [c5b0]) | skip)
      have H' := Aside0.mk H
      clear H
      go_wp2
      go_meet
      case rel => exact ⟨_, (true), (by first | rfl | (simp; done) | (simp [*]; done)), H', ⟨by first | omega | exact Nat.le_refl _⟩, ⟨by (with_reducible repeat (first | refine blk_drewN ?_ _ | refine blk_drew ?_ | refine blk_alloc ?_ _)); exact BK390.out⟩, ⟨by repeat (first | (with_reducible first | exact HB.out | apply below_alloc | apply pw_below_drewN | apply below_drew1 | refine below_set ?_ GE390.out) | exact HB.out)⟩⟩
    · rw [if_neg c5] at H
      have c5b0 : decide (a1 < 0) = false := decide_eq_false c5
      clear c5
      (first | rw [c5b0] | (simp only [i64_w, i32_w]; rw [c5b0]) | skip)
      have H' := Aside0.mk H
      clear H
      go_wp2
      go_meet
      case rel => exact ⟨_, (decide (a1 > (a0.size : Int))), (by first | rfl | (simp; done) | (simp [*]; done)), H', ⟨by first | omega | exact Nat.le_refl _⟩, ⟨by (with_reducible repeat (first | refine blk_drewN ?_ _ | refine blk_drew ?_ | refine blk_alloc ?_ _)); exact BK390.out⟩, ⟨by repeat (first | (with_reducible first | exact HB.out | apply below_alloc | apply pw_below_drewN | apply below_drew1 | refine below_set ?_ GE390.out) | exact HB.out)⟩⟩
  case rest =>
    clear HC3
    try clear p2
    try clear c5
    try clear c5b0
    obtain ⟨kq, x18_2, rfl, HA, HJ2, BK390, HB⟩ := hcut
    cases kq with
    | zero => exact absurd HA.out (by simp [posternref02_PositionOf.j0])
    | succ kj2 =>
      have H := HA.out
      clear HA
      simp only [posternref02_PositionOf.j0] at H
      by_cases c6 : x18_2 = true
      · subst c6
        have H1 : (some (0, 0, 0, 0, 21)) = some (r1, r2, r3, r4, r5) := by rw [if_pos rfl] at H; exact H
        clear H
        have H := H1
        clear H1
        simp only [Option.some.injEq, Prod.mk.injEq] at H
        obtain ⟨rfl, rfl, rfl, rfl, rfl⟩ := H
        have hcz7_0 : wc.cell? ⟨gb390, 0, none⟩ = some (.int .i64 0) := (blk_cell BK390.out 0).trans rfl
        have hcz7_1 : wc.cell? ⟨gb390, 1, none⟩ = some (.int .i64 0) := (blk_cell BK390.out 1).trans rfl
        have hcz7_2 : wc.cell? ⟨gb390, 2, none⟩ = some (.int .i64 0) := (blk_cell BK390.out 2).trans rfl
        have hcz7_3 : wc.cell? ⟨gb390, 3, none⟩ = some (.int .i64 0) := (blk_cell BK390.out 3).trans rfl
        have hfz7_0 := blk_frozen BK390.out 0
        have hfz7_1 := blk_frozen BK390.out 1
        have hfz7_2 := blk_frozen BK390.out 2
        have hfz7_3 := blk_frozen BK390.out 3
        go_wp2
        refine bodyPost_ret (results_ct rfl _ _ gb390 81 #[.int .i64 0, .int .i64 0, .int .i64 0, .int .i64 0] (0, 0) _ rfl (by (with_reducible repeat (first | refine blk_drewN ?_ _ | refine blk_drew ?_ | refine blk_alloc ?_ _)); refine blk_put (cs := #[.int .i64 0, .int .i64 0, .int .i64 0, .int .i64 0]) ?_ 3 _ rfl; (with_reducible repeat (first | refine blk_drewN ?_ _ | refine blk_drew ?_ | refine blk_alloc ?_ _)); refine blk_put (cs := #[.int .i64 0, .int .i64 0, .int .i64 0, .int .i64 0]) ?_ 2 _ rfl; (with_reducible repeat (first | refine blk_drewN ?_ _ | refine blk_drew ?_ | refine blk_alloc ?_ _)); refine blk_put (cs := #[.int .i64 0, .int .i64 0, .int .i64 0, .int .i64 0]) ?_ 1 _ rfl; (with_reducible repeat (first | refine blk_drewN ?_ _ | refine blk_drew ?_ | refine blk_alloc ?_ _)); refine blk_put (cs := #[.int .i64 0, .int .i64 0, .int .i64 0, .int .i64 0]) ?_ 0 _ rfl; (with_reducible repeat (first | refine blk_drewN ?_ _ | refine blk_drew ?_ | refine blk_alloc ?_ _)); exact BK390.out) Tryd.underlying81 rfl (by kernel_rfl)) rfl ?_
        exact ⟨by first | rfl | (simp [errW_none, errW_some] <;> rfl) | (simp [*, errW_none, errW_some] <;> rfl), by repeat (first | (with_reducible first | exact HB.out | apply below_alloc | apply pw_below_drewN | apply below_drew1 | refine below_set ?_ GE390.out) | exact HB.out)⟩
      · replace c6 := Bool.eq_false_iff.mpr c6
        subst c6
        have H1 : ((posternref02_ended.f kj2 a0 a1).bind fun bt391 => ((posternref02_Pieces.f a0).bind fun t394 => (posternref02_PositionOf.l0 kj2 a1 bt391.2 t394 (t394.length : Int) 0 bt391.1 0 0 0))) = some (r1, r2, r3, r4, r5) := by rw [if_neg (show ¬ (false = true) by decide)] at H; exact H
        clear H
        have H := H1
        clear H1
        replace H := Option.bind_eq_some_iff.mp H
        obtain ⟨⟨t391, t392⟩, A80, H⟩ := H
        replace H : ((posternref02_Pieces.f a0).bind fun t394 => (posternref02_PositionOf.l0 kj2 a1 t392 t394 (t394.length : Int) 0 t391 0 0 0)) = some (r1, r2, r3, r4, r5) := H
        have A8 := Aside0.mk A80
        clear A80
        replace H := Option.bind_eq_some_iff.mp H
        obtain ⟨t394, A90, H⟩ := H
        replace H : (posternref02_PositionOf.l0 kj2 a1 t392 t394 (t394.length : Int) 0 t391 0 0 0) = some (r1, r2, r3, r4, r5) := H
        have A9 := Aside0.mk A90
        clear A90
        have H' := Aside0.mk H
        clear H
        go_wp2_with (first | ((with_reducible refine gate_callee (f := 70) rfl ?_); refine goesL_ (some 23) rfl rfl Tryd.func70 (by kernel_rfl) rfl #[.string a0, .int .i64 a1] rfl (by (try simp only [List.map_toArray, List.map_cons, List.map_nil]); first | done | rfl | (simp only [List.length_drop, List.length_take]; rfl)) ?_; (with_reducible refine (posternref02_ended.calls kj2 a0 a1 t391 t392 _ A8.out).mono ?_); rintro e w' ⟨rfl, ⟨nd, rfl⟩⟩; refine ⟨_, rfl, ?_⟩; (try (rw [drewN_self wc]; generalize hq_ : World.drewN wc _ = wc; have n0_ : Aside0 (wc.heap[gb390]? = some (.cells #[.int .i64 0, .int .i64 0, .int .i64 0, .int .i64 0] 81 (0, 0))) := ⟨by rw [← hq_]; exact (by (with_reducible repeat (first | refine blk_drewN ?_ _ | refine blk_drew ?_ | refine blk_alloc ?_ _)); exact BK390.out)⟩; have n1_ : Aside0 (Below w.heap.size w wc) := ⟨by rw [← hq_]; exact (by repeat (first | (with_reducible first | exact HB.out | apply below_alloc | apply pw_below_drewN | apply below_drew1 | refine below_set ?_ GE390.out) | exact HB.out))⟩; clear BK390 HB hq_; have BK390 := n0_; have HB := n1_; clear n0_ n1_))) | ((with_reducible refine gate_dst (N := 8) rfl ?_); (try (refine gate_guard (by rfl) ?_; dsimp only)); refine box_event ?hg (N := 8) ?hd (cs := #[.int .i64 0, .int .i64 0, .int .i64 0, .int .i64 0]) (t := 81) ?hr ?_; (case hd => rfl); (case hg => rfl); (case hr => first | (go_simp; done) | (go_simp; rfl)); intro gb393 hg w10 hbox hb; have n0_ := Aside0.mk (blk_below (g := gb390) (o := .cells #[.int .i64 0, .int .i64 0, .int .i64 0, .int .i64 0] 81 (0, 0)) (by (with_reducible repeat (first | refine blk_drewN ?_ _ | refine blk_drew ?_ | refine blk_alloc ?_ _)); exact BK390.out) hb); have n1_ := Aside0.mk (below_step (by repeat (first | (with_reducible first | exact HB.out | apply below_alloc | apply pw_below_drewN | apply below_drew1 | refine below_set ?_ GE390.out) | exact HB.out)) hb); have n2_ := Aside0.mk (hbox); have n3_ := Aside0.mk ((by rw [hg]; exact (below_size (by repeat (first | (with_reducible first | exact HB.out | apply below_alloc | apply pw_below_drewN | apply below_drew1 | refine below_set ?_ GE390.out) | exact HB.out))) : w.heap.size ≤ gb393)); have n4_ := Aside0.mk ((by rw [hg]; exact (below_size (by repeat (first | (with_reducible first | exact HB.out | apply below_alloc | apply pw_below_drewN | apply below_drew1 | refine below_set ?_ GE390.out) | exact HB.out))) : w.heap.size ≤ gb393)); have n5_ := Aside0.mk ((by rw [hg]; exact Nat.ne_of_lt (blk_lt (g := gb390) (o := .cells #[.int .i64 0, .int .i64 0, .int .i64 0, .int .i64 0] 81 (0, 0)) (by (with_reducible repeat (first | refine blk_drewN ?_ _ | refine blk_drew ?_ | refine blk_alloc ?_ _)); exact BK390.out)) : gb390 ≠ gb393)); have n6_ := Aside0.mk ((by rw [hg]; exact Nat.ne_of_gt (blk_lt (g := gb390) (o := .cells #[.int .i64 0, .int .i64 0, .int .i64 0, .int .i64 0] 81 (0, 0)) (by (with_reducible repeat (first | refine blk_drewN ?_ _ | refine blk_drew ?_ | refine blk_alloc ?_ _)); exact BK390.out)) : gb393 ≠ gb390)); clear BK390; clear HB; have BK390 := n0_; have HB := n1_; have BK393 := n2_; have GW393 := n3_; have GE393 := n4_; have NB390_393 := n5_; have NB393_390 := n6_; clear n0_ n1_ n2_ n3_ n4_ n5_ n6_; clear hb hbox hg; have hnb11 := NB393_390.out; have hnc11 := NB390_393.out; have hcz12_0 : w10.cell? ⟨gb393, 0, none⟩ = some (.int .i64 0) := (blk_cell BK393.out 0).trans rfl; have hcz12_1 : w10.cell? ⟨gb393, 1, none⟩ = some (.int .i64 0) := (blk_cell BK393.out 1).trans rfl; have hcz12_2 : w10.cell? ⟨gb393, 2, none⟩ = some (.int .i64 0) := (blk_cell BK393.out 2).trans rfl; have hcz12_3 : w10.cell? ⟨gb393, 3, none⟩ = some (.int .i64 0) := (blk_cell BK393.out 3).trans rfl; have hfz12_0 := blk_frozen BK393.out 0; have hfz12_1 := blk_frozen BK393.out 1; have hfz12_2 := blk_frozen BK393.out 2; have hfz12_3 := blk_frozen BK393.out 3) | ((with_reducible refine gate_callee (f := 22) rfl ?_); refine goesL_ (some 29) rfl rfl Tryd.func22 (by kernel_rfl) rfl #[.string a0] rfl (by (try simp only [List.map_toArray, List.map_cons, List.map_nil]); first | done | rfl | (simp only [List.length_drop, List.length_take]; rfl)) ?_; (with_reducible refine (posternref02_Pieces.calls a0 t394 _ A9.out).mono ?_); rintro e w13 ⟨v395, rfl, ho0, hb⟩; refine ⟨_, rfl, ?_⟩; have n0_ := Aside0.mk (Kd.R_lower ho0 (below_size (by repeat (first | (with_reducible first | exact HB.out | apply below_alloc | apply pw_below_drewN | apply below_drew1 | refine below_set ?_ GE390.out | refine below_set ?_ GE393.out) | exact HB.out)))); have n1_ := Aside0.mk (blk_below (g := gb390) (o := .cells #[.int .i64 0, .int .i64 0, .int .i64 0, .int .i64 0] 81 (0, 0)) (by (with_reducible repeat (first | refine blk_drewN ?_ _ | refine blk_drew ?_ | refine blk_alloc ?_ _)); refine blk_far ?_ NB390_393.out _; (with_reducible repeat (first | refine blk_drewN ?_ _ | refine blk_drew ?_ | refine blk_alloc ?_ _)); refine blk_far ?_ NB390_393.out _; (with_reducible repeat (first | refine blk_drewN ?_ _ | refine blk_drew ?_ | refine blk_alloc ?_ _)); refine blk_far ?_ NB390_393.out _; (with_reducible repeat (first | refine blk_drewN ?_ _ | refine blk_drew ?_ | refine blk_alloc ?_ _)); refine blk_far ?_ NB390_393.out _; (with_reducible repeat (first | refine blk_drewN ?_ _ | refine blk_drew ?_ | refine blk_alloc ?_ _)); exact BK390.out) hb); have n2_ := Aside0.mk (blk_below (g := gb393) (o := .cells #[.int .i64 t391, .int .i64 0, .int .i64 0, .int .i64 0] 81 (0, 0)) (by (with_reducible repeat (first | refine blk_drewN ?_ _ | refine blk_drew ?_ | refine blk_alloc ?_ _)); refine blk_put (cs := #[.int .i64 t391, .int .i64 0, .int .i64 0, .int .i64 0]) ?_ 3 _ rfl; (with_reducible repeat (first | refine blk_drewN ?_ _ | refine blk_drew ?_ | refine blk_alloc ?_ _)); refine blk_put (cs := #[.int .i64 t391, .int .i64 0, .int .i64 0, .int .i64 0]) ?_ 2 _ rfl; (with_reducible repeat (first | refine blk_drewN ?_ _ | refine blk_drew ?_ | refine blk_alloc ?_ _)); refine blk_put (cs := #[.int .i64 t391, .int .i64 0, .int .i64 0, .int .i64 0]) ?_ 1 _ rfl; (with_reducible repeat (first | refine blk_drewN ?_ _ | refine blk_drew ?_ | refine blk_alloc ?_ _)); refine blk_put (cs := #[.int .i64 0, .int .i64 0, .int .i64 0, .int .i64 0]) ?_ 0 _ rfl; (with_reducible repeat (first | refine blk_drewN ?_ _ | refine blk_drew ?_ | refine blk_alloc ?_ _)); exact BK393.out) hb); have n3_ := Aside0.mk (below_step (by repeat (first | (with_reducible first | exact HB.out | apply below_alloc | apply pw_below_drewN | apply below_drew1 | refine below_set ?_ GE390.out | refine below_set ?_ GE393.out) | exact HB.out)) hb); clear BK390; clear BK393; clear HB; have HO396 := n0_; have BK390 := n1_; have BK393 := n2_; have HB := n3_; clear n0_ n1_ n2_ n3_; (try clear hb); (try clear hb2); (try clear hk); (try clear hi); (try clear ho0); obtain ⟨Ao14, co14, eo14⟩ := Kd.R_slice HO396.out; subst eo14))
        go_loopg [31] kj2 (fun kq v31 w' => ∃ (x31_2 : Int) (x394001_2 : Int) (x394002_2 : Int) (x394003_2 : Int), v31 = .int .i64 x31_2 ∧ Aside0 (posternref02_PositionOf.l0 kq a1 t392 t394 (t394.length : Int) x31_2 t391 x394001_2 x394002_2 x394003_2 = some (r1, r2, r3, r4, r5)) ∧ Aside0 (kq ≤ kj2) ∧ Aside0 (Kd.R k33 33 w' w.heap.size (fun _ => True) (.slice Ao14 t394.length co14) t394) ∧ Aside0 (w'.heap[gb390]? = some (.cells #[.int .i64 0, .int .i64 0, .int .i64 0, .int .i64 0] 81 (0, 0))) ∧ Aside0 (w'.heap[gb393]? = some (.cells #[.int .i64 t391, .int .i64 x394001_2, .int .i64 x394002_2, .int .i64 x394003_2] 81 (0, 0))) ∧ Aside0 (Below w.heap.size w w'))
        case atStart => exact ⟨(0), (0), (0), (0), (by first | rfl | (simp; done) | (simp [*]; done)), H', ⟨Nat.le_refl _⟩, ⟨by (with_reducible repeat (first | apply Kd.R_alloc | apply Kd.R_drewN | apply Kd.R_drew)); exact HO396.out⟩, ⟨by (with_reducible repeat (first | refine blk_drewN ?_ _ | refine blk_drew ?_ | refine blk_alloc ?_ _)); exact BK390.out⟩, ⟨by (with_reducible repeat (first | refine blk_drewN ?_ _ | refine blk_drew ?_ | refine blk_alloc ?_ _)); exact BK393.out⟩, ⟨by repeat (first | (with_reducible first | exact HB.out | apply below_alloc | apply pw_below_drewN | apply below_drew1 | refine below_set ?_ GE390.out | refine below_set ?_ GE393.out) | exact HB.out)⟩⟩
        case round =>
          clear H'
          try clear c1
          try clear c2
          try clear p2
          try clear c5
          try clear c5b0
          try clear c6
          try clear c7
          try clear c11
          try clear hcz12_0
          try clear hcz12_1
          try clear hcz12_2
          try clear hcz12_3
          try clear hcz7_0
          try clear hcz7_1
          try clear hcz7_2
          try clear hcz7_3
          try clear hfz12_0
          try clear hfz12_1
          try clear hfz12_2
          try clear hfz12_3
          try clear hfz7_0
          try clear hfz7_1
          try clear hfz7_2
          try clear hfz7_3
          try clear p2
          obtain ⟨x31_2, x394001_2, x394002_2, x394003_2, rfl, HA, HK2, HO_29, BK390, BK393, HB⟩ := hrel
          cases gk with
          | zero => exact absurd HA.out (by simp [posternref02_PositionOf.l0])
          | succ k2 =>
            have H := HA.out
            clear HA
            simp only [posternref02_PositionOf.l0] at H
            by_cases c15 : x31_2 < (t394.length : Int)
            · rw [if_pos c15] at H
              have c15b0 : decide (x31_2 < (t394.length : Int)) = true := decide_eq_true c15
              clear c15
              by_cases c16 : 0 ≤ x31_2
              · rw [if_pos c16] at H
                have c16b0 : decide (0 ≤ x31_2) = true := decide_eq_true c16
                clear c16
                by_cases c17 : x31_2 < (t394.length : Int)
                · rw [if_pos c17] at H
                  have c17b0 : decide (x31_2 < (t394.length : Int)) = true := decide_eq_true c17
                  clear c17
                  by_cases c18 : ((rd_T33 t394 x31_2).f0) ≥ a1
                  · rw [if_pos c18] at H
                    have c18b0 : decide (a1 ≤ ((rd_T33 t394 x31_2).f0)) = true := decide_eq_true c18
                    clear c18
                    simp only [Option.some.injEq, Prod.mk.injEq] at H
                    obtain ⟨rfl, rfl, rfl, rfl, rfl⟩ := H
                    have p397 : 0 ≤ (x31_2 : Int) := of_decide_eq_true (by first | (with_reducible assumption) | assumption)
                    have q397 : x31_2 < (t394.length : Int) := of_decide_eq_true (by first | (with_reducible assumption) | assumption)
                    obtain ⟨ad397, e397, hx397_0, hx397_1, hx397_2, hx397_3⟩ := at_T33 (Kd.R_reads' HO_29.out).2.2 x31_2 p397 q397
                    cases e397
                    replace p397 := eq_true p397
                    replace q397 := eq_true q397
                    go_wp2_with (first | ((with_reducible refine gate_dst (N := 10) rfl ?_); (try (refine gate_guard (by rfl) ?_; dsimp only)); refine box_event ?hg (N := 10) ?hd (cs := #[.int .i64 0, .int .i64 0, .int .i32 0, .bool false]) (t := 33) ?hr ?_; (case hd => rfl); (case hg => rfl); (case hr => first | (go_simp; done) | (go_simp; rfl)); intro gb398 hg w19 hbox hb; have n0_ := Aside0.mk (Kd.R_below (Kd.R_elderB (by (with_reducible repeat (first | apply Kd.R_alloc | apply Kd.R_drewN | apply Kd.R_drew)); exact HO_29.out) gb398 (Nat.le_of_eq hg.symm)) hb); have n1_ := Aside0.mk (blk_below (g := gb390) (o := .cells #[.int .i64 0, .int .i64 0, .int .i64 0, .int .i64 0] 81 (0, 0)) (by (with_reducible repeat (first | refine blk_drewN ?_ _ | refine blk_drew ?_ | refine blk_alloc ?_ _)); exact BK390.out) hb); have n2_ := Aside0.mk (blk_below (g := gb393) (o := .cells #[.int .i64 t391, .int .i64 x394001_2, .int .i64 x394002_2, .int .i64 x394003_2] 81 (0, 0)) (by (with_reducible repeat (first | refine blk_drewN ?_ _ | refine blk_drew ?_ | refine blk_alloc ?_ _)); exact BK393.out) hb); have n3_ := Aside0.mk (below_step (by repeat (first | (with_reducible first | exact HB.out | apply below_alloc | apply pw_below_drewN | apply below_drew1 | refine below_set ?_ GE390.out | refine below_set ?_ GE393.out) | exact HB.out)) hb); have n4_ := Aside0.mk (hbox); have n5_ := Aside0.mk ((by rw [hg]; exact (below_size (by repeat (first | (with_reducible first | exact HB.out | apply below_alloc | apply pw_below_drewN | apply below_drew1 | refine below_set ?_ GE390.out | refine below_set ?_ GE393.out) | exact HB.out))) : w.heap.size ≤ gb398)); have n6_ := Aside0.mk ((by rw [hg]; exact (below_size (by repeat (first | (with_reducible first | exact HB.out | apply below_alloc | apply pw_below_drewN | apply below_drew1 | refine below_set ?_ GE390.out | refine below_set ?_ GE393.out) | exact HB.out))) : w.heap.size ≤ gb398)); have n7_ := Aside0.mk ((by rw [hg]; exact Nat.ne_of_lt (blk_lt (g := gb390) (o := .cells #[.int .i64 0, .int .i64 0, .int .i64 0, .int .i64 0] 81 (0, 0)) (by (with_reducible repeat (first | refine blk_drewN ?_ _ | refine blk_drew ?_ | refine blk_alloc ?_ _)); exact BK390.out)) : gb390 ≠ gb398)); have n8_ := Aside0.mk ((by rw [hg]; exact Nat.ne_of_gt (blk_lt (g := gb390) (o := .cells #[.int .i64 0, .int .i64 0, .int .i64 0, .int .i64 0] 81 (0, 0)) (by (with_reducible repeat (first | refine blk_drewN ?_ _ | refine blk_drew ?_ | refine blk_alloc ?_ _)); exact BK390.out)) : gb398 ≠ gb390)); have n9_ := Aside0.mk ((by rw [hg]; exact Nat.ne_of_lt (blk_lt (g := gb393) (o := .cells #[.int .i64 t391, .int .i64 x394001_2, .int .i64 x394002_2, .int .i64 x394003_2] 81 (0, 0)) (by (with_reducible repeat (first | refine blk_drewN ?_ _ | refine blk_drew ?_ | refine blk_alloc ?_ _)); exact BK393.out)) : gb393 ≠ gb398)); have n10_ := Aside0.mk ((by rw [hg]; exact Nat.ne_of_gt (blk_lt (g := gb393) (o := .cells #[.int .i64 t391, .int .i64 x394001_2, .int .i64 x394002_2, .int .i64 x394003_2] 81 (0, 0)) (by (with_reducible repeat (first | refine blk_drewN ?_ _ | refine blk_drew ?_ | refine blk_alloc ?_ _)); exact BK393.out)) : gb398 ≠ gb393)); clear HO_29; clear BK390; clear BK393; clear HB; have HO_29 := n0_; have BK390 := n1_; have BK393 := n2_; have HB := n3_; have BK398 := n4_; have GW398 := n5_; have GE398 := n6_; have NB390_398 := n7_; have NB398_390 := n8_; have NB393_398 := n9_; have NB398_393 := n10_; clear n0_ n1_ n2_ n3_ n4_ n5_ n6_ n7_ n8_ n9_ n10_; clear hb hbox hg; have hnb20 := NB398_390.out; have hnc20 := NB390_398.out; have hnb21 := NB398_393.out; have hnc21 := NB393_398.out; have hcz22_0 : w19.cell? ⟨gb398, 0, none⟩ = some (.int .i64 0) := (blk_cell BK398.out 0).trans rfl; have hcz22_1 : w19.cell? ⟨gb398, 1, none⟩ = some (.int .i64 0) := (blk_cell BK398.out 1).trans rfl; have hcz22_2 : w19.cell? ⟨gb398, 2, none⟩ = some (.int .i32 0) := (blk_cell BK398.out 2).trans rfl; have hcz22_3 : w19.cell? ⟨gb398, 3, none⟩ = some (.bool false) := (blk_cell BK398.out 3).trans rfl; have hfz22_0 := blk_frozen BK398.out 0; have hfz22_1 := blk_frozen BK398.out 1; have hfz22_2 := blk_frozen BK398.out 2; have hfz22_3 := blk_frozen BK398.out 3; have hnb23 := NB393_390.out; have hnc23 := NB390_393.out; have hcz24_0 : w19.cell? ⟨gb393, 0, none⟩ = some (.int .i64 t391) := (blk_cell BK393.out 0).trans rfl; have hcz24_1 : w19.cell? ⟨gb393, 1, none⟩ = some (.int .i64 x394001_2) := (blk_cell BK393.out 1).trans rfl; have hcz24_2 : w19.cell? ⟨gb393, 2, none⟩ = some (.int .i64 x394002_2) := (blk_cell BK393.out 2).trans rfl; have hcz24_3 : w19.cell? ⟨gb393, 3, none⟩ = some (.int .i64 x394003_2) := (blk_cell BK393.out 3).trans rfl; have hfz24_0 := blk_frozen BK393.out 0; have hfz24_1 := blk_frozen BK393.out 1; have hfz24_2 := blk_frozen BK393.out 2; have hfz24_3 := blk_frozen BK393.out 3; have hcz25_0 : w19.cell? ⟨gb390, 0, none⟩ = some (.int .i64 0) := (blk_cell BK390.out 0).trans rfl; have hcz25_1 : w19.cell? ⟨gb390, 1, none⟩ = some (.int .i64 0) := (blk_cell BK390.out 1).trans rfl; have hcz25_2 : w19.cell? ⟨gb390, 2, none⟩ = some (.int .i64 0) := (blk_cell BK390.out 2).trans rfl; have hcz25_3 : w19.cell? ⟨gb390, 3, none⟩ = some (.int .i64 0) := (blk_cell BK390.out 3).trans rfl; have hfz25_0 := blk_frozen BK390.out 0; have hfz25_1 := blk_frozen BK390.out 1; have hfz25_2 := blk_frozen BK390.out 2; have hfz25_3 := blk_frozen BK390.out 3))
                    refine bodyPost_ret (results_ct rfl _ _ gb390 81 #[.int .i64 t391, .int .i64 x394001_2, .int .i64 x394002_2, .int .i64 x394003_2] (0, 0) _ rfl (by (with_reducible repeat (first | refine blk_drewN ?_ _ | refine blk_drew ?_ | refine blk_alloc ?_ _)); refine blk_put (cs := #[.int .i64 t391, .int .i64 x394001_2, .int .i64 x394002_2, .int .i64 0]) ?_ 3 _ rfl; (with_reducible repeat (first | refine blk_drewN ?_ _ | refine blk_drew ?_ | refine blk_alloc ?_ _)); refine blk_put (cs := #[.int .i64 t391, .int .i64 x394001_2, .int .i64 0, .int .i64 0]) ?_ 2 _ rfl; (with_reducible repeat (first | refine blk_drewN ?_ _ | refine blk_drew ?_ | refine blk_alloc ?_ _)); refine blk_put (cs := #[.int .i64 t391, .int .i64 0, .int .i64 0, .int .i64 0]) ?_ 1 _ rfl; (with_reducible repeat (first | refine blk_drewN ?_ _ | refine blk_drew ?_ | refine blk_alloc ?_ _)); refine blk_put (cs := #[.int .i64 0, .int .i64 0, .int .i64 0, .int .i64 0]) ?_ 0 _ rfl; (with_reducible repeat (first | refine blk_drewN ?_ _ | refine blk_drew ?_ | refine blk_alloc ?_ _)); refine blk_far ?_ NB390_398.out _; (with_reducible repeat (first | refine blk_drewN ?_ _ | refine blk_drew ?_ | refine blk_alloc ?_ _)); refine blk_far ?_ NB390_398.out _; (with_reducible repeat (first | refine blk_drewN ?_ _ | refine blk_drew ?_ | refine blk_alloc ?_ _)); refine blk_far ?_ NB390_398.out _; (with_reducible repeat (first | refine blk_drewN ?_ _ | refine blk_drew ?_ | refine blk_alloc ?_ _)); refine blk_far ?_ NB390_398.out _; (with_reducible repeat (first | refine blk_drewN ?_ _ | refine blk_drew ?_ | refine blk_alloc ?_ _)); exact BK390.out) Tryd.underlying81 rfl (by kernel_rfl)) rfl ?_
                    exact ⟨by first | rfl | (simp [errW_none, errW_some] <;> rfl) | (simp [*, errW_none, errW_some] <;> rfl), by repeat (first | (with_reducible first | exact HB.out | apply below_alloc | apply pw_below_drewN | apply below_drew1 | refine below_set ?_ GE390.out | refine below_set ?_ GE393.out | refine below_set ?_ GE398.out) | exact HB.out)⟩
                  · rw [if_neg c18] at H
                    have c18b0 : decide (a1 ≤ ((rd_T33 t394 x31_2).f0)) = false := decide_eq_false c18
                    clear c18
                    replace H := Option.bind_eq_some_iff.mp H
                    obtain ⟨t399, A260, H⟩ := H
                    replace H : (if ((rd_T33 t394 x31_2).f0) ≥ t392 then (posternref02_PositionOf.l0 k2 a1 t392 t394 (t394.length : Int) (wrap64 (x31_2 + 1)) t391 (wrap64 (x394001_2 + 1)) (wrap64 (x394002_2 + 1)) (wrap64 (x394003_2 + t399))) else (posternref02_PositionOf.l0 k2 a1 t392 t394 (t394.length : Int) (wrap64 (x31_2 + 1)) t391 x394001_2 (wrap64 (x394002_2 + 1)) (wrap64 (x394003_2 + t399)))) = some (r1, r2, r3, r4, r5) := H
                    have A26 := Aside0.mk A260
                    clear A260
                    by_cases c27 : ((rd_T33 t394 x31_2).f0) ≥ t392
                    · rw [if_pos c27] at H
                      have c27b0 : decide (t392 ≤ ((rd_T33 t394 x31_2).f0)) = true := decide_eq_true c27
                      clear c27
                      have H' := Aside0.mk H
                      clear H
                      have p397 : 0 ≤ (x31_2 : Int) := of_decide_eq_true (by first | (with_reducible assumption) | assumption)
                      have q397 : x31_2 < (t394.length : Int) := of_decide_eq_true (by first | (with_reducible assumption) | assumption)
                      obtain ⟨ad397, e397, hx397_0, hx397_1, hx397_2, hx397_3⟩ := at_T33 (Kd.R_reads' HO_29.out).2.2 x31_2 p397 q397
                      cases e397
                      replace p397 := eq_true p397
                      replace q397 := eq_true q397
                      try go_wp2_with (first | ((with_reducible refine gate_dst (N := 10) rfl ?_); (try (refine gate_guard (by rfl) ?_; dsimp only)); refine box_event ?hg (N := 10) ?hd (cs := #[.int .i64 0, .int .i64 0, .int .i32 0, .bool false]) (t := 33) ?hr ?_; (case hd => rfl); (case hg => rfl); (case hr => first | (go_simp; done) | (go_simp; rfl)); intro gb398 hg w28 hbox hb; have n0_ := Aside0.mk (Kd.R_below (Kd.R_elderB (by (with_reducible repeat (first | apply Kd.R_alloc | apply Kd.R_drewN | apply Kd.R_drew)); exact HO_29.out) gb398 (Nat.le_of_eq hg.symm)) hb); have n1_ := Aside0.mk (blk_below (g := gb390) (o := .cells #[.int .i64 0, .int .i64 0, .int .i64 0, .int .i64 0] 81 (0, 0)) (by (with_reducible repeat (first | refine blk_drewN ?_ _ | refine blk_drew ?_ | refine blk_alloc ?_ _)); exact BK390.out) hb); have n2_ := Aside0.mk (blk_below (g := gb393) (o := .cells #[.int .i64 t391, .int .i64 x394001_2, .int .i64 x394002_2, .int .i64 x394003_2] 81 (0, 0)) (by (with_reducible repeat (first | refine blk_drewN ?_ _ | refine blk_drew ?_ | refine blk_alloc ?_ _)); exact BK393.out) hb); have n3_ := Aside0.mk (below_step (by repeat (first | (with_reducible first | exact HB.out | apply below_alloc | apply pw_below_drewN | apply below_drew1 | refine below_set ?_ GE390.out | refine below_set ?_ GE393.out) | exact HB.out)) hb); have n4_ := Aside0.mk (hbox); have n5_ := Aside0.mk ((by rw [hg]; exact (below_size (by repeat (first | (with_reducible first | exact HB.out | apply below_alloc | apply pw_below_drewN | apply below_drew1 | refine below_set ?_ GE390.out | refine below_set ?_ GE393.out) | exact HB.out))) : w.heap.size ≤ gb398)); have n6_ := Aside0.mk ((by rw [hg]; exact (below_size (by repeat (first | (with_reducible first | exact HB.out | apply below_alloc | apply pw_below_drewN | apply below_drew1 | refine below_set ?_ GE390.out | refine below_set ?_ GE393.out) | exact HB.out))) : w.heap.size ≤ gb398)); have n7_ := Aside0.mk ((by rw [hg]; exact Nat.ne_of_lt (blk_lt (g := gb390) (o := .cells #[.int .i64 0, .int .i64 0, .int .i64 0, .int .i64 0] 81 (0, 0)) (by (with_reducible repeat (first | refine blk_drewN ?_ _ | refine blk_drew ?_ | refine blk_alloc ?_ _)); exact BK390.out)) : gb390 ≠ gb398)); have n8_ := Aside0.mk ((by rw [hg]; exact Nat.ne_of_gt (blk_lt (g := gb390) (o := .cells #[.int .i64 0, .int .i64 0, .int .i64 0, .int .i64 0] 81 (0, 0)) (by (with_reducible repeat (first | refine blk_drewN ?_ _ | refine blk_drew ?_ | refine blk_alloc ?_ _)); exact BK390.out)) : gb398 ≠ gb390)); have n9_ := Aside0.mk ((by rw [hg]; exact Nat.ne_of_lt (blk_lt (g := gb393) (o := .cells #[.int .i64 t391, .int .i64 x394001_2, .int .i64 x394002_2, .int .i64 x394003_2] 81 (0, 0)) (by (with_reducible repeat (first | refine blk_drewN ?_ _ | refine blk_drew ?_ | refine blk_alloc ?_ _)); exact BK393.out)) : gb393 ≠ gb398)); have n10_ := Aside0.mk ((by rw [hg]; exact Nat.ne_of_gt (blk_lt (g := gb393) (o := .cells #[.int .i64 t391, .int .i64 x394001_2, .int .i64 x394002_2, .int .i64 x394003_2] 81 (0, 0)) (by (with_reducible repeat (first | refine blk_drewN ?_ _ | refine blk_drew ?_ | refine blk_alloc ?_ _)); exact BK393.out)) : gb398 ≠ gb393)); clear HO_29; clear BK390; clear BK393; clear HB; have HO_29 := n0_; have BK390 := n1_; have BK393 := n2_; have HB := n3_; have BK398 := n4_; have GW398 := n5_; have GE398 := n6_; have NB390_398 := n7_; have NB398_390 := n8_; have NB393_398 := n9_; have NB398_393 := n10_; clear n0_ n1_ n2_ n3_ n4_ n5_ n6_ n7_ n8_ n9_ n10_; clear hb hbox hg; have hnb29 := NB398_390.out; have hnc29 := NB390_398.out; have hnb30 := NB398_393.out; have hnc30 := NB393_398.out; have hcz31_0 : w28.cell? ⟨gb398, 0, none⟩ = some (.int .i64 0) := (blk_cell BK398.out 0).trans rfl; have hcz31_1 : w28.cell? ⟨gb398, 1, none⟩ = some (.int .i64 0) := (blk_cell BK398.out 1).trans rfl; have hcz31_2 : w28.cell? ⟨gb398, 2, none⟩ = some (.int .i32 0) := (blk_cell BK398.out 2).trans rfl; have hcz31_3 : w28.cell? ⟨gb398, 3, none⟩ = some (.bool false) := (blk_cell BK398.out 3).trans rfl; have hfz31_0 := blk_frozen BK398.out 0; have hfz31_1 := blk_frozen BK398.out 1; have hfz31_2 := blk_frozen BK398.out 2; have hfz31_3 := blk_frozen BK398.out 3; have hnb32 := NB393_390.out; have hnc32 := NB390_393.out; have hcz33_0 : w28.cell? ⟨gb393, 0, none⟩ = some (.int .i64 t391) := (blk_cell BK393.out 0).trans rfl; have hcz33_1 : w28.cell? ⟨gb393, 1, none⟩ = some (.int .i64 x394001_2) := (blk_cell BK393.out 1).trans rfl; have hcz33_2 : w28.cell? ⟨gb393, 2, none⟩ = some (.int .i64 x394002_2) := (blk_cell BK393.out 2).trans rfl; have hcz33_3 : w28.cell? ⟨gb393, 3, none⟩ = some (.int .i64 x394003_2) := (blk_cell BK393.out 3).trans rfl; have hfz33_0 := blk_frozen BK393.out 0; have hfz33_1 := blk_frozen BK393.out 1; have hfz33_2 := blk_frozen BK393.out 2; have hfz33_3 := blk_frozen BK393.out 3))
                      have n0_ : Aside0 (Kd.R k33 33 (((((w28.setCell ⟨gb398, 0, none⟩ (.int .i64 ((rd_T33 t394 x31_2).f0))).setCell ⟨gb398, 1, none⟩ (.int .i64 ((rd_T33 t394 x31_2).f1))).setCell ⟨gb398, 2, none⟩ (.int .i32 ((rd_T33 t394 x31_2).f2))).setCell ⟨gb398, 3, none⟩ (.bool ((rd_T33 t394 x31_2).f3))).setCell ⟨gb393, 2, none⟩ (.int .i64 (wrap64 (x394002_2 + 1)))) w.heap.size (fun k_ => k_ ≠ gb398) (.slice (some ad397) t394.length co14) t394) := ⟨by (with_reducible repeat (first | apply Kd.R_alloc | apply Kd.R_drewN | apply Kd.R_drew)); exact Kd.R_mono (Kd.R_far (p := ⟨gb393, 2, none⟩) (Kd.R_far (p := ⟨gb398, 3, none⟩) (Kd.R_far (p := ⟨gb398, 2, none⟩) (Kd.R_far (p := ⟨gb398, 1, none⟩) (Kd.R_far (p := ⟨gb398, 0, none⟩) (Kd.R_types (Kd.R_mono HO_29.out (fun k_ hk => (⟨hk, hk.2⟩ : _ ∧ k_ ≠ gb398))) BK393.out (by decide)) (fun _ hk => hk.1.2) (.int .i64 ((rd_T33 t394 x31_2).f0))) (fun _ hk => hk.1.2) (.int .i64 ((rd_T33 t394 x31_2).f1))) (fun _ hk => hk.1.2) (.int .i32 ((rd_T33 t394 x31_2).f2))) (fun _ hk => hk.1.2) (.bool ((rd_T33 t394 x31_2).f3))) (fun _ hk => hk.2) (.int .i64 (wrap64 (x394002_2 + 1)))) (fun _ hk => hk.1.1.2)⟩
                      have n1_ : Aside0 ((((((w28.setCell ⟨gb398, 0, none⟩ (.int .i64 ((rd_T33 t394 x31_2).f0))).setCell ⟨gb398, 1, none⟩ (.int .i64 ((rd_T33 t394 x31_2).f1))).setCell ⟨gb398, 2, none⟩ (.int .i32 ((rd_T33 t394 x31_2).f2))).setCell ⟨gb398, 3, none⟩ (.bool ((rd_T33 t394 x31_2).f3))).setCell ⟨gb393, 2, none⟩ (.int .i64 (wrap64 (x394002_2 + 1)))).heap[gb390]? = some (.cells #[.int .i64 0, .int .i64 0, .int .i64 0, .int .i64 0] 81 (0, 0))) := ⟨by (with_reducible repeat (first | refine blk_drewN ?_ _ | refine blk_drew ?_ | refine blk_alloc ?_ _)); refine blk_far ?_ NB390_393.out _; (with_reducible repeat (first | refine blk_drewN ?_ _ | refine blk_drew ?_ | refine blk_alloc ?_ _)); refine blk_far ?_ NB390_398.out _; (with_reducible repeat (first | refine blk_drewN ?_ _ | refine blk_drew ?_ | refine blk_alloc ?_ _)); refine blk_far ?_ NB390_398.out _; (with_reducible repeat (first | refine blk_drewN ?_ _ | refine blk_drew ?_ | refine blk_alloc ?_ _)); refine blk_far ?_ NB390_398.out _; (with_reducible repeat (first | refine blk_drewN ?_ _ | refine blk_drew ?_ | refine blk_alloc ?_ _)); refine blk_far ?_ NB390_398.out _; (with_reducible repeat (first | refine blk_drewN ?_ _ | refine blk_drew ?_ | refine blk_alloc ?_ _)); exact BK390.out⟩
                      have n2_ : Aside0 ((((((w28.setCell ⟨gb398, 0, none⟩ (.int .i64 ((rd_T33 t394 x31_2).f0))).setCell ⟨gb398, 1, none⟩ (.int .i64 ((rd_T33 t394 x31_2).f1))).setCell ⟨gb398, 2, none⟩ (.int .i32 ((rd_T33 t394 x31_2).f2))).setCell ⟨gb398, 3, none⟩ (.bool ((rd_T33 t394 x31_2).f3))).setCell ⟨gb393, 2, none⟩ (.int .i64 (wrap64 (x394002_2 + 1)))).heap[gb393]? = some (.cells #[.int .i64 t391, .int .i64 x394001_2, .int .i64 (wrap64 (x394002_2 + 1)), .int .i64 x394003_2] 81 (0, 0))) := ⟨by (with_reducible repeat (first | refine blk_drewN ?_ _ | refine blk_drew ?_ | refine blk_alloc ?_ _)); refine blk_put (cs := #[.int .i64 t391, .int .i64 x394001_2, .int .i64 x394002_2, .int .i64 x394003_2]) ?_ 2 _ rfl; (with_reducible repeat (first | refine blk_drewN ?_ _ | refine blk_drew ?_ | refine blk_alloc ?_ _)); refine blk_far ?_ NB393_398.out _; (with_reducible repeat (first | refine blk_drewN ?_ _ | refine blk_drew ?_ | refine blk_alloc ?_ _)); refine blk_far ?_ NB393_398.out _; (with_reducible repeat (first | refine blk_drewN ?_ _ | refine blk_drew ?_ | refine blk_alloc ?_ _)); refine blk_far ?_ NB393_398.out _; (with_reducible repeat (first | refine blk_drewN ?_ _ | refine blk_drew ?_ | refine blk_alloc ?_ _)); refine blk_far ?_ NB393_398.out _; (with_reducible repeat (first | refine blk_drewN ?_ _ | refine blk_drew ?_ | refine blk_alloc ?_ _)); exact BK393.out⟩
                      have n3_ : Aside0 ((((((w28.setCell ⟨gb398, 0, none⟩ (.int .i64 ((rd_T33 t394 x31_2).f0))).setCell ⟨gb398, 1, none⟩ (.int .i64 ((rd_T33 t394 x31_2).f1))).setCell ⟨gb398, 2, none⟩ (.int .i32 ((rd_T33 t394 x31_2).f2))).setCell ⟨gb398, 3, none⟩ (.bool ((rd_T33 t394 x31_2).f3))).setCell ⟨gb393, 2, none⟩ (.int .i64 (wrap64 (x394002_2 + 1)))).heap[gb398]? = some (.cells #[.int .i64 ((rd_T33 t394 x31_2).f0), .int .i64 ((rd_T33 t394 x31_2).f1), .int .i32 ((rd_T33 t394 x31_2).f2), .bool ((rd_T33 t394 x31_2).f3)] 33 (0, 0))) := ⟨by (with_reducible repeat (first | refine blk_drewN ?_ _ | refine blk_drew ?_ | refine blk_alloc ?_ _)); refine blk_far ?_ NB398_393.out _; (with_reducible repeat (first | refine blk_drewN ?_ _ | refine blk_drew ?_ | refine blk_alloc ?_ _)); refine blk_put (cs := #[.int .i64 ((rd_T33 t394 x31_2).f0), .int .i64 ((rd_T33 t394 x31_2).f1), .int .i32 ((rd_T33 t394 x31_2).f2), .bool false]) ?_ 3 _ rfl; (with_reducible repeat (first | refine blk_drewN ?_ _ | refine blk_drew ?_ | refine blk_alloc ?_ _)); refine blk_put (cs := #[.int .i64 ((rd_T33 t394 x31_2).f0), .int .i64 ((rd_T33 t394 x31_2).f1), .int .i32 0, .bool false]) ?_ 2 _ rfl; (with_reducible repeat (first | refine blk_drewN ?_ _ | refine blk_drew ?_ | refine blk_alloc ?_ _)); refine blk_put (cs := #[.int .i64 ((rd_T33 t394 x31_2).f0), .int .i64 0, .int .i32 0, .bool false]) ?_ 1 _ rfl; (with_reducible repeat (first | refine blk_drewN ?_ _ | refine blk_drew ?_ | refine blk_alloc ?_ _)); refine blk_put (cs := #[.int .i64 0, .int .i64 0, .int .i32 0, .bool false]) ?_ 0 _ rfl; (with_reducible repeat (first | refine blk_drewN ?_ _ | refine blk_drew ?_ | refine blk_alloc ?_ _)); exact BK398.out⟩
                      have n4_ : Aside0 (Below w.heap.size w (((((w28.setCell ⟨gb398, 0, none⟩ (.int .i64 ((rd_T33 t394 x31_2).f0))).setCell ⟨gb398, 1, none⟩ (.int .i64 ((rd_T33 t394 x31_2).f1))).setCell ⟨gb398, 2, none⟩ (.int .i32 ((rd_T33 t394 x31_2).f2))).setCell ⟨gb398, 3, none⟩ (.bool ((rd_T33 t394 x31_2).f3))).setCell ⟨gb393, 2, none⟩ (.int .i64 (wrap64 (x394002_2 + 1))))) := ⟨by repeat (first | (with_reducible first | exact HB.out | apply below_alloc | apply pw_below_drewN | apply below_drew1 | refine below_set ?_ GE390.out | refine below_set ?_ GE393.out | refine below_set ?_ GE398.out) | exact HB.out)⟩
                      (try clear HO_29)
                      (try clear BK390)
                      (try clear BK393)
                      (try clear BK398)
                      (try clear HB)
                      generalize (((((w28.setCell ⟨gb398, 0, none⟩ (.int .i64 ((rd_T33 t394 x31_2).f0))).setCell ⟨gb398, 1, none⟩ (.int .i64 ((rd_T33 t394 x31_2).f1))).setCell ⟨gb398, 2, none⟩ (.int .i32 ((rd_T33 t394 x31_2).f2))).setCell ⟨gb398, 3, none⟩ (.bool ((rd_T33 t394 x31_2).f3))).setCell ⟨gb393, 2, none⟩ (.int .i64 (wrap64 (x394002_2 + 1)))) = w34 at n0_ n1_ n2_ n3_ n4_ ⊢
                      have HO_29 := n0_
                      have BK390 := n1_
                      have BK393 := n2_
                      have BK398 := n3_
                      have HB := n4_
                      clear n0_ n1_ n2_ n3_ n4_
                      have n0_ := Aside0.mk (Kd.R_drew HO_29.out)
                      have n1_ := Aside0.mk (blk_drew BK390.out)
                      have n2_ := Aside0.mk (blk_drew BK393.out)
                      have n3_ := Aside0.mk (blk_drew BK398.out)
                      have n4_ := Aside0.mk (below_drew1 HB.out)
                      clear HO_29
                      clear BK390
                      clear BK393
                      clear BK398
                      clear HB
                      have HO_29 := n0_
                      have BK390 := n1_
                      have BK393 := n2_
                      have BK398 := n3_
                      have HB := n4_
                      clear n0_ n1_ n2_ n3_ n4_
                      refine start_ (n := 8) (S := fun w' => w'.cell? ⟨gb393, 0, none⟩ = some (.int .i64 t391) ∧ w'.cell? ⟨gb393, 1, none⟩ = some (.int .i64 x394001_2) ∧ w'.cell? ⟨gb393, 2, none⟩ = some (.int .i64 (wrap64 (x394002_2 + 1))) ∧ w'.cell? ⟨gb393, 3, none⟩ = some (.int .i64 x394003_2) ∧ w'.cell? ⟨gb398, 0, none⟩ = some (.int .i64 ((rd_T33 t394 x31_2).f0)) ∧ w'.cell? ⟨gb398, 1, none⟩ = some (.int .i64 ((rd_T33 t394 x31_2).f1)) ∧ w'.cell? ⟨gb398, 2, none⟩ = some (.int .i32 ((rd_T33 t394 x31_2).f2)) ∧ w'.cell? ⟨gb398, 3, none⟩ = some (.bool ((rd_T33 t394 x31_2).f3))) (ds := [7]) #[false, false, false, false, false, false, false, false] (by kernel_rfl) rfl rfl ⟨(blk_cell BK393.out 0).trans rfl, (blk_cell BK393.out 1).trans rfl, (blk_cell BK393.out 2).trans rfl, (blk_cell BK393.out 3).trans rfl, (blk_cell BK398.out 0).trans rfl, (blk_cell BK398.out 1).trans rfl, (blk_cell BK398.out 2).trans rfl, (blk_cell BK398.out 3).trans rfl⟩ (fun hHeld => ?_); refine with_tabW posternref02_PositionOf.tab10 posternref02_PositionOf.bits10 (fun HT_ HW_ => ?_)
                      generalize w34.drew = w35 at HO_29 BK390 BK393 BK398 HB hHeld ⊢
                      refine pure_ (i := 0) (N := some 43) (v := ?_) (a' := ?_) #[true, false, false, false, false, false, false, false] rfl rfl (any_of HT_.out (by kernel_rfl)) (fun _ _ _ h => h) (Or.inl ⟨by rfl, ?_⟩) ?_ ?_
                      rotate_left
                      · intro w'
                        go_simp
                        with_reducible rfl
                      rotate_left
                      · simp only [Act.put, List.setIfInBounds_toArray, List.set_cons_zero, List.set_cons_succ, i64_w, i32_w]
                        rfl
                      refine pure_ (i := 2) (N := some 45) (v := ?_) (a' := ?_) #[true, false, true, false, false, false, false, false] rfl rfl (any_of HT_.out (by kernel_rfl)) (fun _ _ _ h => h) (Or.inl ⟨by rfl, ?_⟩) ?_ ?_
                      rotate_left
                      · intro w'
                        go_simp
                        with_reducible rfl
                      rotate_left
                      · simp only [Act.put, List.setIfInBounds_toArray, List.set_cons_zero, List.set_cons_succ, i64_w, i32_w]
                        rfl
                      refine take_ (i := 1) (N := some 44) (v := ?_) (a' := ?_) #[true, true, true, false, false, false, false, false] rfl rfl (take_ofW HT_.out HW_.out (by kernel_rfl)) (fun _ _ _ h => h) (Or.inl ⟨by rfl, ?_⟩) hHeld ?_ ?_
                      rotate_left
                      · rintro w' ⟨s0, s1, s2, s3, s4, s5, s6, s7⟩
                        go_simp
                        with_reducible rfl
                      rotate_left
                      · simp only [Act.put, List.setIfInBounds_toArray, List.set_cons_zero, List.set_cons_succ, i64_w, i32_w]
                        rfl
                      refine take_ (i := 3) (N := some 46) (v := ?_) (a' := ?_) #[true, true, true, true, false, false, false, false] rfl rfl (take_ofW HT_.out HW_.out (by kernel_rfl)) (fun _ _ _ h => h) (Or.inl ⟨by rfl, ?_⟩) hHeld ?_ ?_
                      rotate_left
                      · rintro w' ⟨s0, s1, s2, s3, s4, s5, s6, s7⟩
                        go_simp
                        with_reducible rfl
                      rotate_left
                      · simp only [Act.put, List.setIfInBounds_toArray, List.set_cons_zero, List.set_cons_succ, i64_w, i32_w]
                        rfl
                      refine one_ (i := 4) (N := some 47) #[true, true, true, true, true, false, false, false] rfl rfl (one_of HT_.out (by kernel_rfl)) (by decide) (fun K hK => ?_)
                      refine goes_ Tryd.func71 (by kernel_rfl) rfl #[.int .i32 ((rd_T33 t394 x31_2).f2)] (by rfl) rfl rfl (by (try simp only [List.map_toArray, List.map_cons, List.map_nil]); first | done | rfl | (simp only [List.length_drop, List.length_take]; rfl)) ?_
                      with_reducible refine (posternref02_units.calls ((rd_T33 t394 x31_2).f2) t399 _ A26.out).mono ?_
                      rintro e w' ⟨rfl, ⟨nd, rfl⟩⟩
                      refine ⟨_, rfl, ?_⟩
                      refine hK.out _ _ ⟨(blk_cell BK393.out 0).trans rfl, (blk_cell BK393.out 1).trans rfl, (blk_cell BK393.out 2).trans rfl, (blk_cell BK393.out 3).trans rfl, (blk_cell BK398.out 0).trans rfl, (blk_cell BK398.out 1).trans rfl, (blk_cell BK398.out 2).trans rfl, (blk_cell BK398.out 3).trans rfl⟩ (fun hHeld => ?_)
                      clear hK K
                      refine norm_ (a' := ?_) ?_ ?_
                      rotate_left
                      · show Act.put _ (some 47) _ = _
                        simp only [Act.put, List.setIfInBounds_toArray, List.set_cons_zero, List.set_cons_succ, i64_w, i32_w]
                        rfl
                      refine pure_ (i := 5) (N := some 48) (v := ?_) (a' := ?_) #[true, true, true, true, true, true, false, false] rfl rfl (any_of HT_.out (by kernel_rfl)) (fun _ _ _ h => h) (Or.inl ⟨by rfl, ?_⟩) ?_ ?_
                      rotate_left
                      · intro w'
                        go_simp
                        with_reducible rfl
                      rotate_left
                      · simp only [Act.put, List.setIfInBounds_toArray, List.set_cons_zero, List.set_cons_succ, i64_w, i32_w]
                        rfl
                      refine pure_ (i := 6) (N := some 49) (v := ?_) (a' := ?_) #[true, true, true, true, true, true, true, false] rfl rfl (any_of HT_.out (by kernel_rfl)) (fun _ _ _ h => h) (Or.inl ⟨by rfl, ?_⟩) ?_ ?_
                      rotate_left
                      · intro w'
                        go_simp
                        with_reducible rfl
                      rotate_left
                      · simp only [Act.put, List.setIfInBounds_toArray, List.set_cons_zero, List.set_cons_succ, i64_w, i32_w]
                        rfl
                      refine last_ (i := 7) (N := none) #[true, true, true, true, true, true, true, true] rfl rfl (one_of HT_.out (by kernel_rfl)) (by decide) (fun K hK => ?_)
                      have hs36 : w35.cell? ⟨gb393, 3, none⟩ = some (.int .i64 x394003_2) := (blk_cell BK393.out 3).trans rfl
                      have hfs36 := blk_frozen BK393.out 3
                      have hns36_0 := NB390_393.out
                      have hns36_2 := NB398_393.out
                      have hms36_0 := NB393_390.out
                      have hms36_2 := NB393_398.out
                      refine skip_ (w1 := ?_) (by rfl) rfl ?_ ?_
                      rotate_left
                      · go_simp
                        rfl
                      refine hK.out _ _ ?_
                      clear hK K
                      refine done_ (done_of HT_.out (by kernel_rfl)) ?_
                      have hcz37_0 : w35.cell? ⟨gb398, 0, none⟩ = some (.int .i64 ((rd_T33 t394 x31_2).f0)) := (blk_cell BK398.out 0).trans rfl
                      have hcz37_1 : w35.cell? ⟨gb398, 1, none⟩ = some (.int .i64 ((rd_T33 t394 x31_2).f1)) := (blk_cell BK398.out 1).trans rfl
                      have hcz37_2 : w35.cell? ⟨gb398, 2, none⟩ = some (.int .i32 ((rd_T33 t394 x31_2).f2)) := (blk_cell BK398.out 2).trans rfl
                      have hcz37_3 : w35.cell? ⟨gb398, 3, none⟩ = some (.bool ((rd_T33 t394 x31_2).f3)) := (blk_cell BK398.out 3).trans rfl
                      have hfz37_0 := blk_frozen BK398.out 0
                      have hfz37_1 := blk_frozen BK398.out 1
                      have hfz37_2 := blk_frozen BK398.out 2
                      have hfz37_3 := blk_frozen BK398.out 3
                      have hcz38_0 : w35.cell? ⟨gb393, 0, none⟩ = some (.int .i64 t391) := (blk_cell BK393.out 0).trans rfl
                      have hcz38_1 : w35.cell? ⟨gb393, 1, none⟩ = some (.int .i64 x394001_2) := (blk_cell BK393.out 1).trans rfl
                      have hcz38_2 : w35.cell? ⟨gb393, 2, none⟩ = some (.int .i64 (wrap64 (x394002_2 + 1))) := (blk_cell BK393.out 2).trans rfl
                      have hcz38_3 : w35.cell? ⟨gb393, 3, none⟩ = some (.int .i64 x394003_2) := (blk_cell BK393.out 3).trans rfl
                      have hfz38_0 := blk_frozen BK393.out 0
                      have hfz38_1 := blk_frozen BK393.out 1
                      have hfz38_2 := blk_frozen BK393.out 2
                      have hfz38_3 := blk_frozen BK393.out 3
                      try go_wp2
                      go_roundg k2
                      case measure => have := HJ2.out; have := HK2.out; omega
                      case rel => exact ⟨(wrap64 (x31_2 + 1)), (wrap64 (x394001_2 + 1)), (wrap64 (x394002_2 + 1)), (wrap64 (x394003_2 + t399)), (by first | rfl | (simp; done) | (simp [*]; done)), H', ⟨by have := HJ2.out; have := HK2.out; omega⟩, ⟨by (with_reducible repeat (first | apply Kd.R_alloc | apply Kd.R_drewN | apply Kd.R_drew)); exact Kd.R_mono (Kd.R_far (p := ⟨gb393, 1, none⟩) (Kd.R_far (p := ⟨gb393, 3, none⟩) (Kd.R_types HO_29.out BK393.out (by decide)) (fun _ hk => hk.2) (.int .i64 (wrap64 (x394003_2 + t399)))) (fun _ hk => hk.2) (.int .i64 (wrap64 (x394001_2 + 1)))) (fun _ hk => trivial)⟩, ⟨by (with_reducible repeat (first | refine blk_drewN ?_ _ | refine blk_drew ?_ | refine blk_alloc ?_ _)); refine blk_far ?_ NB390_393.out _; (with_reducible repeat (first | refine blk_drewN ?_ _ | refine blk_drew ?_ | refine blk_alloc ?_ _)); refine blk_far ?_ NB390_393.out _; (with_reducible repeat (first | refine blk_drewN ?_ _ | refine blk_drew ?_ | refine blk_alloc ?_ _)); exact BK390.out⟩, ⟨by (with_reducible repeat (first | refine blk_drewN ?_ _ | refine blk_drew ?_ | refine blk_alloc ?_ _)); refine blk_put (cs := #[.int .i64 t391, .int .i64 x394001_2, .int .i64 (wrap64 (x394002_2 + 1)), .int .i64 (wrap64 (x394003_2 + t399))]) ?_ 1 _ rfl; (with_reducible repeat (first | refine blk_drewN ?_ _ | refine blk_drew ?_ | refine blk_alloc ?_ _)); refine blk_put (cs := #[.int .i64 t391, .int .i64 x394001_2, .int .i64 (wrap64 (x394002_2 + 1)), .int .i64 x394003_2]) ?_ 3 _ rfl; (with_reducible repeat (first | refine blk_drewN ?_ _ | refine blk_drew ?_ | refine blk_alloc ?_ _)); exact BK393.out⟩, ⟨by repeat (first | (with_reducible first | exact HB.out | apply below_alloc | apply pw_below_drewN | apply below_drew1 | refine below_set ?_ GE390.out | refine below_set ?_ GE393.out | refine below_set ?_ GE398.out) | exact HB.out)⟩⟩
                    · rw [if_neg c27] at H
                      have c27b0 : decide (t392 ≤ ((rd_T33 t394 x31_2).f0)) = false := decide_eq_false c27
                      clear c27
                      have H' := Aside0.mk H
                      clear H
                      have p397 : 0 ≤ (x31_2 : Int) := of_decide_eq_true (by first | (with_reducible assumption) | assumption)
                      have q397 : x31_2 < (t394.length : Int) := of_decide_eq_true (by first | (with_reducible assumption) | assumption)
                      obtain ⟨ad397, e397, hx397_0, hx397_1, hx397_2, hx397_3⟩ := at_T33 (Kd.R_reads' HO_29.out).2.2 x31_2 p397 q397
                      cases e397
                      replace p397 := eq_true p397
                      replace q397 := eq_true q397
                      try go_wp2_with (first | ((with_reducible refine gate_dst (N := 10) rfl ?_); (try (refine gate_guard (by rfl) ?_; dsimp only)); refine box_event ?hg (N := 10) ?hd (cs := #[.int .i64 0, .int .i64 0, .int .i32 0, .bool false]) (t := 33) ?hr ?_; (case hd => rfl); (case hg => rfl); (case hr => first | (go_simp; done) | (go_simp; rfl)); intro gb398 hg w39 hbox hb; have n0_ := Aside0.mk (Kd.R_below (Kd.R_elderB (by (with_reducible repeat (first | apply Kd.R_alloc | apply Kd.R_drewN | apply Kd.R_drew)); exact HO_29.out) gb398 (Nat.le_of_eq hg.symm)) hb); have n1_ := Aside0.mk (blk_below (g := gb390) (o := .cells #[.int .i64 0, .int .i64 0, .int .i64 0, .int .i64 0] 81 (0, 0)) (by (with_reducible repeat (first | refine blk_drewN ?_ _ | refine blk_drew ?_ | refine blk_alloc ?_ _)); exact BK390.out) hb); have n2_ := Aside0.mk (blk_below (g := gb393) (o := .cells #[.int .i64 t391, .int .i64 x394001_2, .int .i64 x394002_2, .int .i64 x394003_2] 81 (0, 0)) (by (with_reducible repeat (first | refine blk_drewN ?_ _ | refine blk_drew ?_ | refine blk_alloc ?_ _)); exact BK393.out) hb); have n3_ := Aside0.mk (below_step (by repeat (first | (with_reducible first | exact HB.out | apply below_alloc | apply pw_below_drewN | apply below_drew1 | refine below_set ?_ GE390.out | refine below_set ?_ GE393.out) | exact HB.out)) hb); have n4_ := Aside0.mk (hbox); have n5_ := Aside0.mk ((by rw [hg]; exact (below_size (by repeat (first | (with_reducible first | exact HB.out | apply below_alloc | apply pw_below_drewN | apply below_drew1 | refine below_set ?_ GE390.out | refine below_set ?_ GE393.out) | exact HB.out))) : w.heap.size ≤ gb398)); have n6_ := Aside0.mk ((by rw [hg]; exact (below_size (by repeat (first | (with_reducible first | exact HB.out | apply below_alloc | apply pw_below_drewN | apply below_drew1 | refine below_set ?_ GE390.out | refine below_set ?_ GE393.out) | exact HB.out))) : w.heap.size ≤ gb398)); have n7_ := Aside0.mk ((by rw [hg]; exact Nat.ne_of_lt (blk_lt (g := gb390) (o := .cells #[.int .i64 0, .int .i64 0, .int .i64 0, .int .i64 0] 81 (0, 0)) (by (with_reducible repeat (first | refine blk_drewN ?_ _ | refine blk_drew ?_ | refine blk_alloc ?_ _)); exact BK390.out)) : gb390 ≠ gb398)); have n8_ := Aside0.mk ((by rw [hg]; exact Nat.ne_of_gt (blk_lt (g := gb390) (o := .cells #[.int .i64 0, .int .i64 0, .int .i64 0, .int .i64 0] 81 (0, 0)) (by (with_reducible repeat (first | refine blk_drewN ?_ _ | refine blk_drew ?_ | refine blk_alloc ?_ _)); exact BK390.out)) : gb398 ≠ gb390)); have n9_ := Aside0.mk ((by rw [hg]; exact Nat.ne_of_lt (blk_lt (g := gb393) (o := .cells #[.int .i64 t391, .int .i64 x394001_2, .int .i64 x394002_2, .int .i64 x394003_2] 81 (0, 0)) (by (with_reducible repeat (first | refine blk_drewN ?_ _ | refine blk_drew ?_ | refine blk_alloc ?_ _)); exact BK393.out)) : gb393 ≠ gb398)); have n10_ := Aside0.mk ((by rw [hg]; exact Nat.ne_of_gt (blk_lt (g := gb393) (o := .cells #[.int .i64 t391, .int .i64 x394001_2, .int .i64 x394002_2, .int .i64 x394003_2] 81 (0, 0)) (by (with_reducible repeat (first | refine blk_drewN ?_ _ | refine blk_drew ?_ | refine blk_alloc ?_ _)); exact BK393.out)) : gb398 ≠ gb393)); clear HO_29; clear BK390; clear BK393; clear HB; have HO_29 := n0_; have BK390 := n1_; have BK393 := n2_; have HB := n3_; have BK398 := n4_; have GW398 := n5_; have GE398 := n6_; have NB390_398 := n7_; have NB398_390 := n8_; have NB393_398 := n9_; have NB398_393 := n10_; clear n0_ n1_ n2_ n3_ n4_ n5_ n6_ n7_ n8_ n9_ n10_; clear hb hbox hg; have hnb40 := NB398_390.out; have hnc40 := NB390_398.out; have hnb41 := NB398_393.out; have hnc41 := NB393_398.out; have hcz42_0 : w39.cell? ⟨gb398, 0, none⟩ = some (.int .i64 0) := (blk_cell BK398.out 0).trans rfl; have hcz42_1 : w39.cell? ⟨gb398, 1, none⟩ = some (.int .i64 0) := (blk_cell BK398.out 1).trans rfl; have hcz42_2 : w39.cell? ⟨gb398, 2, none⟩ = some (.int .i32 0) := (blk_cell BK398.out 2).trans rfl; have hcz42_3 : w39.cell? ⟨gb398, 3, none⟩ = some (.bool false) := (blk_cell BK398.out 3).trans rfl; have hfz42_0 := blk_frozen BK398.out 0; have hfz42_1 := blk_frozen BK398.out 1; have hfz42_2 := blk_frozen BK398.out 2; have hfz42_3 := blk_frozen BK398.out 3; have hnb43 := NB393_390.out; have hnc43 := NB390_393.out; have hcz44_0 : w39.cell? ⟨gb393, 0, none⟩ = some (.int .i64 t391) := (blk_cell BK393.out 0).trans rfl; have hcz44_1 : w39.cell? ⟨gb393, 1, none⟩ = some (.int .i64 x394001_2) := (blk_cell BK393.out 1).trans rfl; have hcz44_2 : w39.cell? ⟨gb393, 2, none⟩ = some (.int .i64 x394002_2) := (blk_cell BK393.out 2).trans rfl; have hcz44_3 : w39.cell? ⟨gb393, 3, none⟩ = some (.int .i64 x394003_2) := (blk_cell BK393.out 3).trans rfl; have hfz44_0 := blk_frozen BK393.out 0; have hfz44_1 := blk_frozen BK393.out 1; have hfz44_2 := blk_frozen BK393.out 2; have hfz44_3 := blk_frozen BK393.out 3))
                      have n0_ : Aside0 (Kd.R k33 33 (((((w39.setCell ⟨gb398, 0, none⟩ (.int .i64 ((rd_T33 t394 x31_2).f0))).setCell ⟨gb398, 1, none⟩ (.int .i64 ((rd_T33 t394 x31_2).f1))).setCell ⟨gb398, 2, none⟩ (.int .i32 ((rd_T33 t394 x31_2).f2))).setCell ⟨gb398, 3, none⟩ (.bool ((rd_T33 t394 x31_2).f3))).setCell ⟨gb393, 2, none⟩ (.int .i64 (wrap64 (x394002_2 + 1)))) w.heap.size (fun k_ => k_ ≠ gb398) (.slice (some ad397) t394.length co14) t394) := ⟨by (with_reducible repeat (first | apply Kd.R_alloc | apply Kd.R_drewN | apply Kd.R_drew)); exact Kd.R_mono (Kd.R_far (p := ⟨gb393, 2, none⟩) (Kd.R_far (p := ⟨gb398, 3, none⟩) (Kd.R_far (p := ⟨gb398, 2, none⟩) (Kd.R_far (p := ⟨gb398, 1, none⟩) (Kd.R_far (p := ⟨gb398, 0, none⟩) (Kd.R_types (Kd.R_mono HO_29.out (fun k_ hk => (⟨hk, hk.2⟩ : _ ∧ k_ ≠ gb398))) BK393.out (by decide)) (fun _ hk => hk.1.2) (.int .i64 ((rd_T33 t394 x31_2).f0))) (fun _ hk => hk.1.2) (.int .i64 ((rd_T33 t394 x31_2).f1))) (fun _ hk => hk.1.2) (.int .i32 ((rd_T33 t394 x31_2).f2))) (fun _ hk => hk.1.2) (.bool ((rd_T33 t394 x31_2).f3))) (fun _ hk => hk.2) (.int .i64 (wrap64 (x394002_2 + 1)))) (fun _ hk => hk.1.1.2)⟩
                      have n1_ : Aside0 ((((((w39.setCell ⟨gb398, 0, none⟩ (.int .i64 ((rd_T33 t394 x31_2).f0))).setCell ⟨gb398, 1, none⟩ (.int .i64 ((rd_T33 t394 x31_2).f1))).setCell ⟨gb398, 2, none⟩ (.int .i32 ((rd_T33 t394 x31_2).f2))).setCell ⟨gb398, 3, none⟩ (.bool ((rd_T33 t394 x31_2).f3))).setCell ⟨gb393, 2, none⟩ (.int .i64 (wrap64 (x394002_2 + 1)))).heap[gb390]? = some (.cells #[.int .i64 0, .int .i64 0, .int .i64 0, .int .i64 0] 81 (0, 0))) := ⟨by (with_reducible repeat (first | refine blk_drewN ?_ _ | refine blk_drew ?_ | refine blk_alloc ?_ _)); refine blk_far ?_ NB390_393.out _; (with_reducible repeat (first | refine blk_drewN ?_ _ | refine blk_drew ?_ | refine blk_alloc ?_ _)); refine blk_far ?_ NB390_398.out _; (with_reducible repeat (first | refine blk_drewN ?_ _ | refine blk_drew ?_ | refine blk_alloc ?_ _)); refine blk_far ?_ NB390_398.out _; (with_reducible repeat (first | refine blk_drewN ?_ _ | refine blk_drew ?_ | refine blk_alloc ?_ _)); refine blk_far ?_ NB390_398.out _; (with_reducible repeat (first | refine blk_drewN ?_ _ | refine blk_drew ?_ | refine blk_alloc ?_ _)); refine blk_far ?_ NB390_398.out _; (with_reducible repeat (first | refine blk_drewN ?_ _ | refine blk_drew ?_ | refine blk_alloc ?_ _)); exact BK390.out⟩
                      have n2_ : Aside0 ((((((w39.setCell ⟨gb398, 0, none⟩ (.int .i64 ((rd_T33 t394 x31_2).f0))).setCell ⟨gb398, 1, none⟩ (.int .i64 ((rd_T33 t394 x31_2).f1))).setCell ⟨gb398, 2, none⟩ (.int .i32 ((rd_T33 t394 x31_2).f2))).setCell ⟨gb398, 3, none⟩ (.bool ((rd_T33 t394 x31_2).f3))).setCell ⟨gb393, 2, none⟩ (.int .i64 (wrap64 (x394002_2 + 1)))).heap[gb393]? = some (.cells #[.int .i64 t391, .int .i64 x394001_2, .int .i64 (wrap64 (x394002_2 + 1)), .int .i64 x394003_2] 81 (0, 0))) := ⟨by (with_reducible repeat (first | refine blk_drewN ?_ _ | refine blk_drew ?_ | refine blk_alloc ?_ _)); refine blk_put (cs := #[.int .i64 t391, .int .i64 x394001_2, .int .i64 x394002_2, .int .i64 x394003_2]) ?_ 2 _ rfl; (with_reducible repeat (first | refine blk_drewN ?_ _ | refine blk_drew ?_ | refine blk_alloc ?_ _)); refine blk_far ?_ NB393_398.out _; (with_reducible repeat (first | refine blk_drewN ?_ _ | refine blk_drew ?_ | refine blk_alloc ?_ _)); refine blk_far ?_ NB393_398.out _; (with_reducible repeat (first | refine blk_drewN ?_ _ | refine blk_drew ?_ | refine blk_alloc ?_ _)); refine blk_far ?_ NB393_398.out _; (with_reducible repeat (first | refine blk_drewN ?_ _ | refine blk_drew ?_ | refine blk_alloc ?_ _)); refine blk_far ?_ NB393_398.out _; (with_reducible repeat (first | refine blk_drewN ?_ _ | refine blk_drew ?_ | refine blk_alloc ?_ _)); exact BK393.out⟩
                      have n3_ : Aside0 ((((((w39.setCell ⟨gb398, 0, none⟩ (.int .i64 ((rd_T33 t394 x31_2).f0))).setCell ⟨gb398, 1, none⟩ (.int .i64 ((rd_T33 t394 x31_2).f1))).setCell ⟨gb398, 2, none⟩ (.int .i32 ((rd_T33 t394 x31_2).f2))).setCell ⟨gb398, 3, none⟩ (.bool ((rd_T33 t394 x31_2).f3))).setCell ⟨gb393, 2, none⟩ (.int .i64 (wrap64 (x394002_2 + 1)))).heap[gb398]? = some (.cells #[.int .i64 ((rd_T33 t394 x31_2).f0), .int .i64 ((rd_T33 t394 x31_2).f1), .int .i32 ((rd_T33 t394 x31_2).f2), .bool ((rd_T33 t394 x31_2).f3)] 33 (0, 0))) := ⟨by (with_reducible repeat (first | refine blk_drewN ?_ _ | refine blk_drew ?_ | refine blk_alloc ?_ _)); refine blk_far ?_ NB398_393.out _; (with_reducible repeat (first | refine blk_drewN ?_ _ | refine blk_drew ?_ | refine blk_alloc ?_ _)); refine blk_put (cs := #[.int .i64 ((rd_T33 t394 x31_2).f0), .int .i64 ((rd_T33 t394 x31_2).f1), .int .i32 ((rd_T33 t394 x31_2).f2), .bool false]) ?_ 3 _ rfl; (with_reducible repeat (first | refine blk_drewN ?_ _ | refine blk_drew ?_ | refine blk_alloc ?_ _)); refine blk_put (cs := #[.int .i64 ((rd_T33 t394 x31_2).f0), .int .i64 ((rd_T33 t394 x31_2).f1), .int .i32 0, .bool false]) ?_ 2 _ rfl; (with_reducible repeat (first | refine blk_drewN ?_ _ | refine blk_drew ?_ | refine blk_alloc ?_ _)); refine blk_put (cs := #[.int .i64 ((rd_T33 t394 x31_2).f0), .int .i64 0, .int .i32 0, .bool false]) ?_ 1 _ rfl; (with_reducible repeat (first | refine blk_drewN ?_ _ | refine blk_drew ?_ | refine blk_alloc ?_ _)); refine blk_put (cs := #[.int .i64 0, .int .i64 0, .int .i32 0, .bool false]) ?_ 0 _ rfl; (with_reducible repeat (first | refine blk_drewN ?_ _ | refine blk_drew ?_ | refine blk_alloc ?_ _)); exact BK398.out⟩
                      have n4_ : Aside0 (Below w.heap.size w (((((w39.setCell ⟨gb398, 0, none⟩ (.int .i64 ((rd_T33 t394 x31_2).f0))).setCell ⟨gb398, 1, none⟩ (.int .i64 ((rd_T33 t394 x31_2).f1))).setCell ⟨gb398, 2, none⟩ (.int .i32 ((rd_T33 t394 x31_2).f2))).setCell ⟨gb398, 3, none⟩ (.bool ((rd_T33 t394 x31_2).f3))).setCell ⟨gb393, 2, none⟩ (.int .i64 (wrap64 (x394002_2 + 1))))) := ⟨by repeat (first | (with_reducible first | exact HB.out | apply below_alloc | apply pw_below_drewN | apply below_drew1 | refine below_set ?_ GE390.out | refine below_set ?_ GE393.out | refine below_set ?_ GE398.out) | exact HB.out)⟩
                      (try clear HO_29)
                      (try clear BK390)
                      (try clear BK393)
                      (try clear BK398)
                      (try clear HB)
                      generalize (((((w39.setCell ⟨gb398, 0, none⟩ (.int .i64 ((rd_T33 t394 x31_2).f0))).setCell ⟨gb398, 1, none⟩ (.int .i64 ((rd_T33 t394 x31_2).f1))).setCell ⟨gb398, 2, none⟩ (.int .i32 ((rd_T33 t394 x31_2).f2))).setCell ⟨gb398, 3, none⟩ (.bool ((rd_T33 t394 x31_2).f3))).setCell ⟨gb393, 2, none⟩ (.int .i64 (wrap64 (x394002_2 + 1)))) = w45 at n0_ n1_ n2_ n3_ n4_ ⊢
                      have HO_29 := n0_
                      have BK390 := n1_
                      have BK393 := n2_
                      have BK398 := n3_
                      have HB := n4_
                      clear n0_ n1_ n2_ n3_ n4_
                      have n0_ := Aside0.mk (Kd.R_drew HO_29.out)
                      have n1_ := Aside0.mk (blk_drew BK390.out)
                      have n2_ := Aside0.mk (blk_drew BK393.out)
                      have n3_ := Aside0.mk (blk_drew BK398.out)
                      have n4_ := Aside0.mk (below_drew1 HB.out)
                      clear HO_29
                      clear BK390
                      clear BK393
                      clear BK398
                      clear HB
                      have HO_29 := n0_
                      have BK390 := n1_
                      have BK393 := n2_
                      have BK398 := n3_
                      have HB := n4_
                      clear n0_ n1_ n2_ n3_ n4_
                      refine start_ (n := 8) (S := fun w' => w'.cell? ⟨gb393, 0, none⟩ = some (.int .i64 t391) ∧ w'.cell? ⟨gb393, 1, none⟩ = some (.int .i64 x394001_2) ∧ w'.cell? ⟨gb393, 2, none⟩ = some (.int .i64 (wrap64 (x394002_2 + 1))) ∧ w'.cell? ⟨gb393, 3, none⟩ = some (.int .i64 x394003_2) ∧ w'.cell? ⟨gb398, 0, none⟩ = some (.int .i64 ((rd_T33 t394 x31_2).f0)) ∧ w'.cell? ⟨gb398, 1, none⟩ = some (.int .i64 ((rd_T33 t394 x31_2).f1)) ∧ w'.cell? ⟨gb398, 2, none⟩ = some (.int .i32 ((rd_T33 t394 x31_2).f2)) ∧ w'.cell? ⟨gb398, 3, none⟩ = some (.bool ((rd_T33 t394 x31_2).f3))) (ds := [7]) #[false, false, false, false, false, false, false, false] (by kernel_rfl) rfl rfl ⟨(blk_cell BK393.out 0).trans rfl, (blk_cell BK393.out 1).trans rfl, (blk_cell BK393.out 2).trans rfl, (blk_cell BK393.out 3).trans rfl, (blk_cell BK398.out 0).trans rfl, (blk_cell BK398.out 1).trans rfl, (blk_cell BK398.out 2).trans rfl, (blk_cell BK398.out 3).trans rfl⟩ (fun hHeld => ?_); refine with_tabW posternref02_PositionOf.tab10 posternref02_PositionOf.bits10 (fun HT_ HW_ => ?_)
                      generalize w45.drew = w46 at HO_29 BK390 BK393 BK398 HB hHeld ⊢
                      refine pure_ (i := 0) (N := some 43) (v := ?_) (a' := ?_) #[true, false, false, false, false, false, false, false] rfl rfl (any_of HT_.out (by kernel_rfl)) (fun _ _ _ h => h) (Or.inl ⟨by rfl, ?_⟩) ?_ ?_
                      rotate_left
                      · intro w'
                        go_simp
                        with_reducible rfl
                      rotate_left
                      · simp only [Act.put, List.setIfInBounds_toArray, List.set_cons_zero, List.set_cons_succ, i64_w, i32_w]
                        rfl
                      refine pure_ (i := 2) (N := some 45) (v := ?_) (a' := ?_) #[true, false, true, false, false, false, false, false] rfl rfl (any_of HT_.out (by kernel_rfl)) (fun _ _ _ h => h) (Or.inl ⟨by rfl, ?_⟩) ?_ ?_
                      rotate_left
                      · intro w'
                        go_simp
                        with_reducible rfl
                      rotate_left
                      · simp only [Act.put, List.setIfInBounds_toArray, List.set_cons_zero, List.set_cons_succ, i64_w, i32_w]
                        rfl
                      refine take_ (i := 1) (N := some 44) (v := ?_) (a' := ?_) #[true, true, true, false, false, false, false, false] rfl rfl (take_ofW HT_.out HW_.out (by kernel_rfl)) (fun _ _ _ h => h) (Or.inl ⟨by rfl, ?_⟩) hHeld ?_ ?_
                      rotate_left
                      · rintro w' ⟨s0, s1, s2, s3, s4, s5, s6, s7⟩
                        go_simp
                        with_reducible rfl
                      rotate_left
                      · simp only [Act.put, List.setIfInBounds_toArray, List.set_cons_zero, List.set_cons_succ, i64_w, i32_w]
                        rfl
                      refine take_ (i := 3) (N := some 46) (v := ?_) (a' := ?_) #[true, true, true, true, false, false, false, false] rfl rfl (take_ofW HT_.out HW_.out (by kernel_rfl)) (fun _ _ _ h => h) (Or.inl ⟨by rfl, ?_⟩) hHeld ?_ ?_
                      rotate_left
                      · rintro w' ⟨s0, s1, s2, s3, s4, s5, s6, s7⟩
                        go_simp
                        with_reducible rfl
                      rotate_left
                      · simp only [Act.put, List.setIfInBounds_toArray, List.set_cons_zero, List.set_cons_succ, i64_w, i32_w]
                        rfl
                      refine one_ (i := 4) (N := some 47) #[true, true, true, true, true, false, false, false] rfl rfl (one_of HT_.out (by kernel_rfl)) (by decide) (fun K hK => ?_)
                      refine goes_ Tryd.func71 (by kernel_rfl) rfl #[.int .i32 ((rd_T33 t394 x31_2).f2)] (by rfl) rfl rfl (by (try simp only [List.map_toArray, List.map_cons, List.map_nil]); first | done | rfl | (simp only [List.length_drop, List.length_take]; rfl)) ?_
                      with_reducible refine (posternref02_units.calls ((rd_T33 t394 x31_2).f2) t399 _ A26.out).mono ?_
                      rintro e w' ⟨rfl, ⟨nd, rfl⟩⟩
                      refine ⟨_, rfl, ?_⟩
                      refine hK.out _ _ ⟨(blk_cell BK393.out 0).trans rfl, (blk_cell BK393.out 1).trans rfl, (blk_cell BK393.out 2).trans rfl, (blk_cell BK393.out 3).trans rfl, (blk_cell BK398.out 0).trans rfl, (blk_cell BK398.out 1).trans rfl, (blk_cell BK398.out 2).trans rfl, (blk_cell BK398.out 3).trans rfl⟩ (fun hHeld => ?_)
                      clear hK K
                      refine norm_ (a' := ?_) ?_ ?_
                      rotate_left
                      · show Act.put _ (some 47) _ = _
                        simp only [Act.put, List.setIfInBounds_toArray, List.set_cons_zero, List.set_cons_succ, i64_w, i32_w]
                        rfl
                      refine pure_ (i := 5) (N := some 48) (v := ?_) (a' := ?_) #[true, true, true, true, true, true, false, false] rfl rfl (any_of HT_.out (by kernel_rfl)) (fun _ _ _ h => h) (Or.inl ⟨by rfl, ?_⟩) ?_ ?_
                      rotate_left
                      · intro w'
                        go_simp
                        with_reducible rfl
                      rotate_left
                      · simp only [Act.put, List.setIfInBounds_toArray, List.set_cons_zero, List.set_cons_succ, i64_w, i32_w]
                        rfl
                      refine pure_ (i := 6) (N := some 49) (v := ?_) (a' := ?_) #[true, true, true, true, true, true, true, false] rfl rfl (any_of HT_.out (by kernel_rfl)) (fun _ _ _ h => h) (Or.inl ⟨by rfl, ?_⟩) ?_ ?_
                      rotate_left
                      · intro w'
                        go_simp
                        with_reducible rfl
                      rotate_left
                      · simp only [Act.put, List.setIfInBounds_toArray, List.set_cons_zero, List.set_cons_succ, i64_w, i32_w]
                        rfl
                      refine last_ (i := 7) (N := none) #[true, true, true, true, true, true, true, true] rfl rfl (one_of HT_.out (by kernel_rfl)) (by decide) (fun K hK => ?_)
                      have hs47 : w46.cell? ⟨gb393, 3, none⟩ = some (.int .i64 x394003_2) := (blk_cell BK393.out 3).trans rfl
                      have hfs47 := blk_frozen BK393.out 3
                      have hns47_0 := NB390_393.out
                      have hns47_2 := NB398_393.out
                      have hms47_0 := NB393_390.out
                      have hms47_2 := NB393_398.out
                      refine skip_ (w1 := ?_) (by rfl) rfl ?_ ?_
                      rotate_left
                      · go_simp
                        rfl
                      refine hK.out _ _ ?_
                      clear hK K
                      refine done_ (done_of HT_.out (by kernel_rfl)) ?_
                      have hcz48_0 : w46.cell? ⟨gb398, 0, none⟩ = some (.int .i64 ((rd_T33 t394 x31_2).f0)) := (blk_cell BK398.out 0).trans rfl
                      have hcz48_1 : w46.cell? ⟨gb398, 1, none⟩ = some (.int .i64 ((rd_T33 t394 x31_2).f1)) := (blk_cell BK398.out 1).trans rfl
                      have hcz48_2 : w46.cell? ⟨gb398, 2, none⟩ = some (.int .i32 ((rd_T33 t394 x31_2).f2)) := (blk_cell BK398.out 2).trans rfl
                      have hcz48_3 : w46.cell? ⟨gb398, 3, none⟩ = some (.bool ((rd_T33 t394 x31_2).f3)) := (blk_cell BK398.out 3).trans rfl
                      have hfz48_0 := blk_frozen BK398.out 0
                      have hfz48_1 := blk_frozen BK398.out 1
                      have hfz48_2 := blk_frozen BK398.out 2
                      have hfz48_3 := blk_frozen BK398.out 3
                      try go_wp2
                      go_roundg k2
                      case measure => have := HJ2.out; have := HK2.out; omega
                      case rel => exact ⟨(wrap64 (x31_2 + 1)), (x394001_2), (wrap64 (x394002_2 + 1)), (wrap64 (x394003_2 + t399)), (by first | rfl | (simp; done) | (simp [*]; done)), H', ⟨by have := HJ2.out; have := HK2.out; omega⟩, ⟨by (with_reducible repeat (first | apply Kd.R_alloc | apply Kd.R_drewN | apply Kd.R_drew)); exact Kd.R_mono (Kd.R_far (p := ⟨gb393, 3, none⟩) (Kd.R_types HO_29.out BK393.out (by decide)) (fun _ hk => hk.2) (.int .i64 (wrap64 (x394003_2 + t399)))) (fun _ hk => trivial)⟩, ⟨by (with_reducible repeat (first | refine blk_drewN ?_ _ | refine blk_drew ?_ | refine blk_alloc ?_ _)); refine blk_far ?_ NB390_393.out _; (with_reducible repeat (first | refine blk_drewN ?_ _ | refine blk_drew ?_ | refine blk_alloc ?_ _)); exact BK390.out⟩, ⟨by (with_reducible repeat (first | refine blk_drewN ?_ _ | refine blk_drew ?_ | refine blk_alloc ?_ _)); refine blk_put (cs := #[.int .i64 t391, .int .i64 x394001_2, .int .i64 (wrap64 (x394002_2 + 1)), .int .i64 x394003_2]) ?_ 3 _ rfl; (with_reducible repeat (first | refine blk_drewN ?_ _ | refine blk_drew ?_ | refine blk_alloc ?_ _)); exact BK393.out⟩, ⟨by repeat (first | (with_reducible first | exact HB.out | apply below_alloc | apply pw_below_drewN | apply below_drew1 | refine below_set ?_ GE390.out | refine below_set ?_ GE393.out | refine below_set ?_ GE398.out) | exact HB.out)⟩⟩
                · rw [if_neg c17] at H
                  exact absurd H (by simp)
              · rw [if_neg c16] at H
                exact absurd H (by simp)
            · rw [if_neg c15] at H
              have c15b0 : decide (x31_2 < (t394.length : Int)) = false := decide_eq_false c15
              clear c15
              simp only [Option.some.injEq, Prod.mk.injEq] at H
              obtain ⟨rfl, rfl, rfl, rfl, rfl⟩ := H
              have hnb49 := NB393_390.out
              have hnc49 := NB390_393.out
              have hcz50_0 : wr.cell? ⟨gb393, 0, none⟩ = some (.int .i64 t391) := (blk_cell BK393.out 0).trans rfl
              have hcz50_1 : wr.cell? ⟨gb393, 1, none⟩ = some (.int .i64 x394001_2) := (blk_cell BK393.out 1).trans rfl
              have hcz50_2 : wr.cell? ⟨gb393, 2, none⟩ = some (.int .i64 x394002_2) := (blk_cell BK393.out 2).trans rfl
              have hcz50_3 : wr.cell? ⟨gb393, 3, none⟩ = some (.int .i64 x394003_2) := (blk_cell BK393.out 3).trans rfl
              have hfz50_0 := blk_frozen BK393.out 0
              have hfz50_1 := blk_frozen BK393.out 1
              have hfz50_2 := blk_frozen BK393.out 2
              have hfz50_3 := blk_frozen BK393.out 3
              have hcz51_0 : wr.cell? ⟨gb390, 0, none⟩ = some (.int .i64 0) := (blk_cell BK390.out 0).trans rfl
              have hcz51_1 : wr.cell? ⟨gb390, 1, none⟩ = some (.int .i64 0) := (blk_cell BK390.out 1).trans rfl
              have hcz51_2 : wr.cell? ⟨gb390, 2, none⟩ = some (.int .i64 0) := (blk_cell BK390.out 2).trans rfl
              have hcz51_3 : wr.cell? ⟨gb390, 3, none⟩ = some (.int .i64 0) := (blk_cell BK390.out 3).trans rfl
              have hfz51_0 := blk_frozen BK390.out 0
              have hfz51_1 := blk_frozen BK390.out 1
              have hfz51_2 := blk_frozen BK390.out 2
              have hfz51_3 := blk_frozen BK390.out 3
              go_wp2
              refine bodyPost_ret (results_ct rfl _ _ gb390 81 #[.int .i64 t391, .int .i64 x394001_2, .int .i64 x394002_2, .int .i64 x394003_2] (0, 0) _ rfl (by (with_reducible repeat (first | refine blk_drewN ?_ _ | refine blk_drew ?_ | refine blk_alloc ?_ _)); refine blk_put (cs := #[.int .i64 t391, .int .i64 x394001_2, .int .i64 x394002_2, .int .i64 0]) ?_ 3 _ rfl; (with_reducible repeat (first | refine blk_drewN ?_ _ | refine blk_drew ?_ | refine blk_alloc ?_ _)); refine blk_put (cs := #[.int .i64 t391, .int .i64 x394001_2, .int .i64 0, .int .i64 0]) ?_ 2 _ rfl; (with_reducible repeat (first | refine blk_drewN ?_ _ | refine blk_drew ?_ | refine blk_alloc ?_ _)); refine blk_put (cs := #[.int .i64 t391, .int .i64 0, .int .i64 0, .int .i64 0]) ?_ 1 _ rfl; (with_reducible repeat (first | refine blk_drewN ?_ _ | refine blk_drew ?_ | refine blk_alloc ?_ _)); refine blk_put (cs := #[.int .i64 0, .int .i64 0, .int .i64 0, .int .i64 0]) ?_ 0 _ rfl; (with_reducible repeat (first | refine blk_drewN ?_ _ | refine blk_drew ?_ | refine blk_alloc ?_ _)); exact BK390.out) Tryd.underlying81 rfl (by kernel_rfl)) rfl ?_
              exact ⟨by first | rfl | (simp [errW_none, errW_some] <;> rfl) | (simp [*, errW_none, errW_some] <;> rfl), by repeat (first | (with_reducible first | exact HB.out | apply below_alloc | apply pw_below_drewN | apply below_drew1 | refine below_set ?_ GE390.out | refine below_set ?_ GE393.out) | exact HB.out)⟩

end Go.Proofs.YtgippjhkimohlaaDoorQ.Sca
