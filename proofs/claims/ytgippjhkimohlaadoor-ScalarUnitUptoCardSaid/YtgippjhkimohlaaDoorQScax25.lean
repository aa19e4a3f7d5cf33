/- What these functions of the program compute, and that they compute it: printed by wip/tools/orac.py over the kit's print.py. -/
import Derived.Test.YtgippjhkimohlaaDoorQScax0
import Derived.Test.YtgippjhkimohlaaDoorQScax17
import Derived.Test.YtgippjhkimohlaaDoorQScax23
import Derived.Test.YtgippjhkimohlaaDoorQScax24
namespace Go.Proofs.YtgippjhkimohlaaDoorQ.Sca
open Go.RowKit Go.Proofs.YtgippjhkimohlaaDoorW.PrintWords Go.Proofs.YtgippjhkimohlaaDoorW.PrintLast Go.Proofs.YtgippjhkimohlaaDoorW.PrintMore
attribute [local go_sem] max2_int min2_int max_two min_two max_three min_three max_four min_four   -- for this text's walks alone
set_option linter.unusedVariables false
set_option linter.unusedSimpArgs false

/-! ### scalar_Position: function 50 -/
mutual
def scalar_Position.j0 : Nat → ByteArray → Int → Bool → Option (Int × Int × Int × Int × Int)
  | 0, _, _, _ => none
  | k + 1, x0, x1, x21 => if x21 = true then (some (0, 0, 0, 0, 21)) else ((scalar_ends.f k x0).bind fun bt330 => (scalar_Position.l0 k x0 x1 0 bt330.1 (bt330.1.length : Int) 0 0 0 0 0))
def scalar_Position.l0 : Nat → ByteArray → Int → Int → List Int → Int → Int → Int → Int → Int → Int → Option (Int × Int × Int × Int × Int)
  | 0, _, _, _, _, _, _, _, _, _, _ => none
  | k + 1, x0, x1, x7, x28, x29, x30, x330000, x330001, x330002, x330003 => if x30 < x29 then (if 0 ≤ x30 then (if x30 < (x28.length : Int) then (if (rd x28 x30) ≤ x1 then (scalar_Position.l0 k x0 x1 (rd x28 x30) x28 x29 (wrap64 (x30 + 1)) (wrap64 (x330000 + 1)) x330001 x330002 x330003) else (scalar_Position.l0 k x0 x1 x7 x28 x29 (wrap64 (x30 + 1)) x330000 x330001 x330002 x330003)) else (none)) else (none)) else ((scalar_Pieces.f x0).bind fun t337 => (scalar_Position.l1 k x1 x7 t337 (t337.length : Int) 0 x330000 x330001 x330002 x330003))
def scalar_Position.l1 : Nat → Int → Int → List (S32) → Int → Int → Int → Int → Int → Int → Option (Int × Int × Int × Int × Int)
  | 0, _, _, _, _, _, _, _, _, _ => none
  | k + 1, x1, x7, x44, x45, x46, x330000, x330001, x330002, x330003 => if x46 < x45 then (if 0 ≤ x46 then (if x46 < (x44.length : Int) then (if ((rd_T32 x44 x46).f0) ≥ x1 then (some (x330000, x330001, x330002, x330003, 0)) else ((scalar_units.f ((rd_T32 x44 x46).f2)).bind fun t342 => (if ((rd_T32 x44 x46).f0) ≥ x7 then (scalar_Position.l1 k x1 x7 x44 x45 (wrap64 (x46 + 1)) x330000 (wrap64 (x330001 + 1)) (wrap64 (x330002 + 1)) (wrap64 (x330003 + t342))) else (scalar_Position.l1 k x1 x7 x44 x45 (wrap64 (x46 + 1)) x330000 x330001 (wrap64 (x330002 + 1)) (wrap64 (x330003 + t342)))))) else (none)) else (none)) else (some (x330000, x330001, x330002, x330003, 0))
end
def scalar_Position.f (k : Nat) (a0 : ByteArray) (a1 : Int) : Option (Int × Int × Int × Int × Int) := if a1 < 0 then (scalar_Position.j0 k a0 a1 true) else (scalar_Position.j0 k a0 a1 (decide (a1 > (a0.size : Int))))
theorem scalar_Position.mono_l : ∀ k, (∀ y0 y1 y2, LeO (scalar_Position.j0 k y0 y1 y2) (scalar_Position.j0 (k + 1) y0 y1 y2)) ∧ (∀ y0 y1 y2 y3 y4 y5 y6 y7 y8 y9, LeO (scalar_Position.l0 k y0 y1 y2 y3 y4 y5 y6 y7 y8 y9) (scalar_Position.l0 (k + 1) y0 y1 y2 y3 y4 y5 y6 y7 y8 y9)) ∧ (∀ y0 y1 y2 y3 y4 y5 y6 y7 y8, LeO (scalar_Position.l1 k y0 y1 y2 y3 y4 y5 y6 y7 y8) (scalar_Position.l1 (k + 1) y0 y1 y2 y3 y4 y5 y6 y7 y8))
  | 0 => ⟨fun _ _ _ r h => by simp [scalar_Position.j0] at h, fun _ _ _ _ _ _ _ _ _ _ r h => by simp [scalar_Position.l0] at h, fun _ _ _ _ _ _ _ _ _ r h => by simp [scalar_Position.l1] at h⟩
  | k + 1 => by
    obtain ⟨ih0, ih1, ih2⟩ := scalar_Position.mono_l k
    refine ⟨?_, ?_, ?_⟩
    · intro y0 y1 y2
      unfold scalar_Position.j0
      repeat' first
      | (with_reducible exact ih0 _ _ _)
      | (with_reducible exact ih1 _ _ _ _ _ _ _ _ _ _)
      | (with_reducible exact ih2 _ _ _ _ _ _ _ _ _)
      | (with_reducible exact scalar_ends.mono _ _)
      | (with_reducible exact LeO.refl _)
      | (with_reducible exact LeO.none _)
      | (with_reducible refine LeO.ite ?_ ?_)
      | (with_reducible refine LeO.bind ?_ (fun _ => ?_))
      | exact ih0 _ _ _
      | exact ih1 _ _ _ _ _ _ _ _ _ _
      | exact ih2 _ _ _ _ _ _ _ _ _
      | exact scalar_ends.mono _ _
      | exact LeO.none _
      | refine LeO.ite ?_ ?_
      | refine LeO.bind ?_ (fun _ => ?_)
    · intro y0 y1 y2 y3 y4 y5 y6 y7 y8 y9
      unfold scalar_Position.l0
      repeat' first
      | (with_reducible exact ih0 _ _ _)
      | (with_reducible exact ih1 _ _ _ _ _ _ _ _ _ _)
      | (with_reducible exact ih2 _ _ _ _ _ _ _ _ _)
      | (with_reducible exact scalar_ends.mono _ _)
      | (with_reducible exact LeO.refl _)
      | (with_reducible exact LeO.none _)
      | (with_reducible refine LeO.ite ?_ ?_)
      | (with_reducible refine LeO.bind ?_ (fun _ => ?_))
      | exact ih0 _ _ _
      | exact ih1 _ _ _ _ _ _ _ _ _ _
      | exact ih2 _ _ _ _ _ _ _ _ _
      | exact scalar_ends.mono _ _
      | exact LeO.none _
      | refine LeO.ite ?_ ?_
      | refine LeO.bind ?_ (fun _ => ?_)
    · intro y0 y1 y2 y3 y4 y5 y6 y7 y8
      unfold scalar_Position.l1
      repeat' first
      | (with_reducible exact ih0 _ _ _)
      | (with_reducible exact ih1 _ _ _ _ _ _ _ _ _ _)
      | (with_reducible exact ih2 _ _ _ _ _ _ _ _ _)
      | (with_reducible exact scalar_ends.mono _ _)
      | (with_reducible exact LeO.refl _)
      | (with_reducible exact LeO.none _)
      | (with_reducible refine LeO.ite ?_ ?_)
      | (with_reducible refine LeO.bind ?_ (fun _ => ?_))
      | exact ih0 _ _ _
      | exact ih1 _ _ _ _ _ _ _ _ _ _
      | exact ih2 _ _ _ _ _ _ _ _ _
      | exact scalar_ends.mono _ _
      | exact LeO.none _
      | refine LeO.ite ?_ ?_
      | refine LeO.bind ?_ (fun _ => ?_)
theorem scalar_Position.mono : ∀ a0 a1 k, LeO (scalar_Position.f k a0 a1) (scalar_Position.f (k + 1) a0 a1) := by
  intro a0 a1 k
  obtain ⟨ih0, ih1, ih2⟩ := scalar_Position.mono_l k
  unfold scalar_Position.f
  repeat' first
      | (with_reducible exact ih0 _ _ _)
      | (with_reducible exact ih1 _ _ _ _ _ _ _ _ _ _)
      | (with_reducible exact ih2 _ _ _ _ _ _ _ _ _)
      | (with_reducible exact scalar_ends.mono _ _)
      | (with_reducible exact LeO.refl _)
      | (with_reducible exact LeO.none _)
      | (with_reducible refine LeO.ite ?_ ?_)
      | (with_reducible refine LeO.bind ?_ (fun _ => ?_))
      | exact ih0 _ _ _
      | exact ih1 _ _ _ _ _ _ _ _ _ _
      | exact ih2 _ _ _ _ _ _ _ _ _
      | exact scalar_ends.mono _ _
      | exact LeO.none _
      | refine LeO.ite ?_ ?_
      | refine LeO.bind ?_ (fun _ => ?_)
def scalar_Position.T18 : Bool × List (List Nat × List Nat) := (true, [([], []), ([0], [0]), ([], []), ([2], [2]), ([3], [3]), ([1, 4], [1, 4]), ([0, 1, 2, 3, 4, 5], []), ([6, 5, 4, 0, 1, 2, 3, 4, 5], [5, 6])])
def scalar_Position.B18 : List Nat := [0, 1, 0, 4, 12, 31, 63, 127]
theorem scalar_Position.tab18 : rtab .any (opsOf Tryd.f50 18) = scalar_Position.T18 := by kernel_rfl
theorem scalar_Position.bits18 : waitsOk scalar_Position.T18.2 scalar_Position.B18 = true := by kernel_rfl
set_option maxHeartbeats 8000000 in
set_option maxRecDepth 100000 in
theorem scalar_Position.calls (k : Nat) (a0 : ByteArray) (a1 : Int) (r1 : Int) (r2 : Int) (r3 : Int) (r4 : Int) (r5 : Int) (w : World) (h : scalar_Position.f k a0 a1 = some (r1, r2, r3, r4, r5)) (T_ : Go.Proofs.YtgippjhkimohlaaDoor.Tabs w) :
    Calls Tryd.prog 50 #[.string a0, .int .i64 a1] w fun e w' => e = .returned (.tuple #[.agg #[.int .i64 r1, .int .i64 r2, .int .i64 r3, .int .i64 r4], .int .i64 r5]) ∧ Below w.heap.size w w' := by
  have hu75 := Tryd.underlying75
  have hu32 := Tryd.underlying32
  have HB := Aside0.mk (Below.refl w.heap.size w)
  have H : (if a1 < 0 then (scalar_Position.j0 k a0 a1 true) else (scalar_Position.j0 k a0 a1 (decide (a1 > (a0.size : Int))))) = some (r1, r2, r3, r4, r5) := h
  clear h
  have HC3 := Aside0.mk H
  clear H
  go_enter Tryd.func50, Tryd.ntmps50
  go_upto_region 1 with (first | ((with_reducible refine gate_dst (N := 4) rfl ?_); (try (refine gate_guard (by rfl) ?_; dsimp only)); refine box_event ?hg (N := 4) ?hd (cs := #[.int .i64 0, .int .i64 0, .int .i64 0, .int .i64 0]) (t := 75) ?hr ?_; (case hd => rfl); (case hg => rfl); (case hr => first | (go_simp; done) | (go_simp; rfl)); intro gb328 hg w4 hbox hb; have n0_ := Aside0.mk (below_step (by repeat (first | (with_reducible first | exact HB.out | apply below_alloc | apply pw_below_drewN | apply below_drew1) | exact HB.out)) hb); have n1_ := Aside0.mk (hbox); have n2_ := Aside0.mk ((by rw [hg]; exact (below_size (by repeat (first | (with_reducible first | exact HB.out | apply below_alloc | apply pw_below_drewN | apply below_drew1) | exact HB.out))) : w.heap.size ≤ gb328)); have n3_ := Aside0.mk ((by rw [hg]; exact (below_size (by repeat (first | (with_reducible first | exact HB.out | apply below_alloc | apply pw_below_drewN | apply below_drew1) | exact HB.out))) : w.heap.size ≤ gb328)); clear HB; have HB := n0_; have BK328 := n1_; have GW328 := n2_; have GE328 := n3_; clear n0_ n1_ n2_ n3_; clear hb hbox hg))
  (try simp only [Act.put, List.setIfInBounds_toArray, List.set_cons_zero, List.set_cons_succ])
  go_cut [21] (fun v21 wc => ∃ (kq : Nat) (x21_2 : Bool), v21 = .bool x21_2 ∧ Aside0 (scalar_Position.j0 kq a0 a1 x21_2 = some (r1, r2, r3, r4, r5)) ∧ Aside0 (kq ≤ k) ∧ Aside0 (wc.heap[gb328]? = some (.cells #[.int .i64 0, .int .i64 0, .int .i64 0, .int .i64 0] 75 (0, 0))) ∧ Aside0 (Below w.heap.size w wc))
  case first =>
    have H := HC3.out
    clear HC3
    by_cases c5 : a1 < 0
    · rw [if_pos c5] at H
      have c5b0 : decide (a1 < 0) = true := decide_eq_true c5
      clear c5
      (first | rw [c5b0] | (simp only [i64_w, i32_w]; rw [c5b0]) | skip)
      have H' := Aside0.mk H
      clear H
      go_wp2
      go_meet
      case rel => exact ⟨_, (true), (by first | rfl | (simp; done) | (simp [*]; done)), H', ⟨by first | omega | exact Nat.le_refl _⟩, ⟨by (with_reducible repeat (first | refine blk_drewN ?_ _ | refine blk_drew ?_ | refine blk_alloc ?_ _)); exact BK328.out⟩, ⟨by repeat (first | (with_reducible first | exact HB.out | apply below_alloc | apply pw_below_drewN | apply below_drew1 | refine below_set ?_ GE328.out) | exact HB.out)⟩⟩
    · rw [if_neg c5] at H
      have c5b0 : decide (a1 < 0) = false := decide_eq_false c5
      clear c5
      (first | rw [c5b0] | (simp only [i64_w, i32_w]; rw [c5b0]) | skip)
      have H' := Aside0.mk H
      clear H
      go_wp2
      go_meet
      case rel => exact ⟨_, (decide (a1 > (a0.size : Int))), (by first | rfl | (simp; done) | (simp [*]; done)), H', ⟨by first | omega | exact Nat.le_refl _⟩, ⟨by (with_reducible repeat (first | refine blk_drewN ?_ _ | refine blk_drew ?_ | refine blk_alloc ?_ _)); exact BK328.out⟩, ⟨by repeat (first | (with_reducible first | exact HB.out | apply below_alloc | apply pw_below_drewN | apply below_drew1 | refine below_set ?_ GE328.out) | exact HB.out)⟩⟩
  case rest =>
    clear HC3
    try clear p2
    try clear c5
    try clear c5b0
    obtain ⟨kq, x21_2, rfl, HA, HJ2, BK328, HB⟩ := hcut
    cases kq with
    | zero => exact absurd HA.out (by simp [scalar_Position.j0])
    | succ kj2 =>
      have H := HA.out
      clear HA
      simp only [scalar_Position.j0] at H
      by_cases c6 : x21_2 = true
      · subst c6
        have H1 : (some (0, 0, 0, 0, 21)) = some (r1, r2, r3, r4, r5) := by rw [if_pos rfl] at H; exact H
        clear H
        have H := H1
        clear H1
        simp only [Option.some.injEq, Prod.mk.injEq] at H
        obtain ⟨rfl, rfl, rfl, rfl, rfl⟩ := H
        have hcz7_0 : wc.cell? ⟨gb328, 0, none⟩ = some (.int .i64 0) := (blk_cell BK328.out 0).trans rfl
        have hcz7_1 : wc.cell? ⟨gb328, 1, none⟩ = some (.int .i64 0) := (blk_cell BK328.out 1).trans rfl
        have hcz7_2 : wc.cell? ⟨gb328, 2, none⟩ = some (.int .i64 0) := (blk_cell BK328.out 2).trans rfl
        have hcz7_3 : wc.cell? ⟨gb328, 3, none⟩ = some (.int .i64 0) := (blk_cell BK328.out 3).trans rfl
        have hfz7_0 := blk_frozen BK328.out 0
        have hfz7_1 := blk_frozen BK328.out 1
        have hfz7_2 := blk_frozen BK328.out 2
        have hfz7_3 := blk_frozen BK328.out 3
        go_wp2
        refine bodyPost_ret (results_ct rfl _ _ gb328 75 #[.int .i64 0, .int .i64 0, .int .i64 0, .int .i64 0] (0, 0) _ rfl (by (with_reducible repeat (first | refine blk_drewN ?_ _ | refine blk_drew ?_ | refine blk_alloc ?_ _)); refine blk_put (cs := #[.int .i64 0, .int .i64 0, .int .i64 0, .int .i64 0]) ?_ 3 _ rfl; (with_reducible repeat (first | refine blk_drewN ?_ _ | refine blk_drew ?_ | refine blk_alloc ?_ _)); refine blk_put (cs := #[.int .i64 0, .int .i64 0, .int .i64 0, .int .i64 0]) ?_ 2 _ rfl; (with_reducible repeat (first | refine blk_drewN ?_ _ | refine blk_drew ?_ | refine blk_alloc ?_ _)); refine blk_put (cs := #[.int .i64 0, .int .i64 0, .int .i64 0, .int .i64 0]) ?_ 1 _ rfl; (with_reducible repeat (first | refine blk_drewN ?_ _ | refine blk_drew ?_ | refine blk_alloc ?_ _)); refine blk_put (cs := #[.int .i64 0, .int .i64 0, .int .i64 0, .int .i64 0]) ?_ 0 _ rfl; (with_reducible repeat (first | refine blk_drewN ?_ _ | refine blk_drew ?_ | refine blk_alloc ?_ _)); exact BK328.out) Tryd.underlying75 rfl (by kernel_rfl)) rfl ?_
        exact ⟨by first | rfl | (simp [errW_none, errW_some] <;> rfl) | (simp [*, errW_none, errW_some] <;> rfl), by repeat (first | (with_reducible first | exact HB.out | apply below_alloc | apply pw_below_drewN | apply below_drew1 | refine below_set ?_ GE328.out) | exact HB.out)⟩
      · replace c6 := Bool.eq_false_iff.mpr c6
        subst c6
        have H1 : ((scalar_ends.f kj2 a0).bind fun bt330 => (scalar_Position.l0 kj2 a0 a1 0 bt330.1 (bt330.1.length : Int) 0 0 0 0 0)) = some (r1, r2, r3, r4, r5) := by rw [if_neg (show ¬ (false = true) by decide)] at H; exact H
        clear H
        have H := H1
        clear H1
        replace H := Option.bind_eq_some_iff.mp H
        obtain ⟨⟨t330, t331⟩, A80, H⟩ := H
        replace H : (scalar_Position.l0 kj2 a0 a1 0 t330 (t330.length : Int) 0 0 0 0 0) = some (r1, r2, r3, r4, r5) := H
        have A8 := Aside0.mk A80
        clear A80
        have H' := Aside0.mk H
        clear H
        go_wp2_with (first | ((with_reducible refine gate_dst (N := 6) rfl ?_); (try (refine gate_guard (by rfl) ?_; dsimp only)); refine box_event ?hg (N := 6) ?hd (cs := #[.int .i64 0, .int .i64 0, .int .i64 0, .int .i64 0]) (t := 75) ?hr ?_; (case hd => rfl); (case hg => rfl); (case hr => first | (go_simp; done) | (go_simp; rfl)); intro gb329 hg w9 hbox hb; have n0_ := Aside0.mk (blk_below (g := gb328) (o := .cells #[.int .i64 0, .int .i64 0, .int .i64 0, .int .i64 0] 75 (0, 0)) (by (with_reducible repeat (first | refine blk_drewN ?_ _ | refine blk_drew ?_ | refine blk_alloc ?_ _)); exact BK328.out) hb); have n1_ := Aside0.mk (below_step (by repeat (first | (with_reducible first | exact HB.out | apply below_alloc | apply pw_below_drewN | apply below_drew1 | refine below_set ?_ GE328.out) | exact HB.out)) hb); have n2_ := Aside0.mk (hbox); have n3_ := Aside0.mk ((by rw [hg]; exact (below_size (by repeat (first | (with_reducible first | exact HB.out | apply below_alloc | apply pw_below_drewN | apply below_drew1 | refine below_set ?_ GE328.out) | exact HB.out))) : w.heap.size ≤ gb329)); have n4_ := Aside0.mk ((by rw [hg]; exact (below_size (by repeat (first | (with_reducible first | exact HB.out | apply below_alloc | apply pw_below_drewN | apply below_drew1 | refine below_set ?_ GE328.out) | exact HB.out))) : w.heap.size ≤ gb329)); have n5_ := Aside0.mk ((by rw [hg]; exact Nat.ne_of_lt (blk_lt (g := gb328) (o := .cells #[.int .i64 0, .int .i64 0, .int .i64 0, .int .i64 0] 75 (0, 0)) (by (with_reducible repeat (first | refine blk_drewN ?_ _ | refine blk_drew ?_ | refine blk_alloc ?_ _)); exact BK328.out)) : gb328 ≠ gb329)); have n6_ := Aside0.mk ((by rw [hg]; exact Nat.ne_of_gt (blk_lt (g := gb328) (o := .cells #[.int .i64 0, .int .i64 0, .int .i64 0, .int .i64 0] 75 (0, 0)) (by (with_reducible repeat (first | refine blk_drewN ?_ _ | refine blk_drew ?_ | refine blk_alloc ?_ _)); exact BK328.out)) : gb329 ≠ gb328)); clear BK328; clear HB; have BK328 := n0_; have HB := n1_; have BK329 := n2_; have GW329 := n3_; have GE329 := n4_; have NB328_329 := n5_; have NB329_328 := n6_; clear n0_ n1_ n2_ n3_ n4_ n5_ n6_; clear hb hbox hg) | ((with_reducible refine gate_callee (f := 68) rfl ?_); refine goesL_ (some 25) rfl rfl Tryd.func68 (by kernel_rfl) rfl #[.string a0] rfl (by (try simp only [List.map_toArray, List.map_cons, List.map_nil]); first | done | rfl | (simp only [List.length_drop, List.length_take]; rfl)) ?_; (with_reducible refine (scalar_ends.calls kj2 a0 t330 t331 _ A8.out).mono ?_); rintro e w10 ⟨v332, v334, rfl, ho0, ho1, hb⟩; refine ⟨_, rfl, ?_⟩; have n0_ := Aside0.mk (Kd.R_lower ho0 (below_size (by repeat (first | (with_reducible first | exact HB.out | apply below_alloc | apply pw_below_drewN | apply below_drew1 | refine below_set ?_ GE328.out | refine below_set ?_ GE329.out) | exact HB.out)))); have n1_ := Aside0.mk (Kd.R_lower ho1 (below_size (by repeat (first | (with_reducible first | exact HB.out | apply below_alloc | apply pw_below_drewN | apply below_drew1 | refine below_set ?_ GE328.out | refine below_set ?_ GE329.out) | exact HB.out)))); have n2_ := Aside0.mk (blk_below (g := gb328) (o := .cells #[.int .i64 0, .int .i64 0, .int .i64 0, .int .i64 0] 75 (0, 0)) (by (with_reducible repeat (first | refine blk_drewN ?_ _ | refine blk_drew ?_ | refine blk_alloc ?_ _)); exact BK328.out) hb); have n3_ := Aside0.mk (blk_below (g := gb329) (o := .cells #[.int .i64 0, .int .i64 0, .int .i64 0, .int .i64 0] 75 (0, 0)) (by (with_reducible repeat (first | refine blk_drewN ?_ _ | refine blk_drew ?_ | refine blk_alloc ?_ _)); exact BK329.out) hb); have n4_ := Aside0.mk (below_step (by repeat (first | (with_reducible first | exact HB.out | apply below_alloc | apply pw_below_drewN | apply below_drew1 | refine below_set ?_ GE328.out | refine below_set ?_ GE329.out) | exact HB.out)) hb); clear BK328; clear BK329; clear HB; have HO333 := n0_; have HO335 := n1_; have BK328 := n2_; have BK329 := n3_; have HB := n4_; clear n0_ n1_ n2_ n3_ n4_; (try clear hb); (try clear hb2); (try clear hk); (try clear hi); (try clear ho0); (try clear ho1); obtain ⟨Ao11, co11, eo11⟩ := Kd.R_slice HO333.out; subst eo11))
        go_loopg [7, 30] kj2 (fun kq v7 v30 w' => ∃ (x7_2 : Int) (x30_2 : Int) (x330000_2 : Int), v7 = .int .i64 x7_2 ∧ v30 = .int .i64 x30_2 ∧ Aside0 (scalar_Position.l0 kq a0 a1 x7_2 t330 (t330.length : Int) x30_2 x330000_2 0 0 0 = some (r1, r2, r3, r4, r5)) ∧ Aside0 (kq ≤ kj2) ∧ Aside0 (Kd.R (Kd.int .i64) 3 w' w.heap.size (fun _ => True) (.slice Ao11 t330.length co11) t330) ∧ Aside0 (w'.heap[gb328]? = some (.cells #[.int .i64 0, .int .i64 0, .int .i64 0, .int .i64 0] 75 (0, 0))) ∧ Aside0 (w'.heap[gb329]? = some (.cells #[.int .i64 x330000_2, .int .i64 0, .int .i64 0, .int .i64 0] 75 (0, 0))) ∧ Aside0 (Below w.heap.size w w'))
        case atStart => exact ⟨(0), (0), (0), (by first | rfl | (simp; done) | (simp [*]; done)), (by first | rfl | (simp; done) | (simp [*]; done)), H', ⟨Nat.le_refl _⟩, ⟨by (with_reducible repeat (first | apply Kd.R_alloc | apply Kd.R_drewN | apply Kd.R_drew)); exact Kd.R_mono HO333.out (fun _ hk => trivial)⟩, ⟨by (with_reducible repeat (first | refine blk_drewN ?_ _ | refine blk_drew ?_ | refine blk_alloc ?_ _)); exact BK328.out⟩, ⟨by (with_reducible repeat (first | refine blk_drewN ?_ _ | refine blk_drew ?_ | refine blk_alloc ?_ _)); exact BK329.out⟩, ⟨by repeat (first | (with_reducible first | exact HB.out | apply below_alloc | apply pw_below_drewN | apply below_drew1 | refine below_set ?_ GE328.out | refine below_set ?_ GE329.out) | exact HB.out)⟩⟩
        case round =>
          clear H'
          try clear p2
          try clear c5
          try clear c5b0
          try clear c6
          try clear hcz7_0
          try clear hcz7_1
          try clear hcz7_2
          try clear hcz7_3
          try clear hfz7_0
          try clear hfz7_1
          try clear hfz7_2
          try clear hfz7_3
          try clear p2
          obtain ⟨x7_2, x30_2, x330000_2, rfl, rfl, HA, HK2, HO_28, BK328, BK329, HB⟩ := hrel
          cases gk with
          | zero => exact absurd HA.out (by simp [scalar_Position.l0])
          | succ k2 =>
            have H := HA.out
            clear HA
            simp only [scalar_Position.l0] at H
            by_cases c12 : x30_2 < (t330.length : Int)
            · rw [if_pos c12] at H
              have c12b0 : decide (x30_2 < (t330.length : Int)) = true := decide_eq_true c12
              clear c12
              by_cases c13 : 0 ≤ x30_2
              · rw [if_pos c13] at H
                have c13b0 : decide (0 ≤ x30_2) = true := decide_eq_true c13
                clear c13
                by_cases c14 : x30_2 < (t330.length : Int)
                · rw [if_pos c14] at H
                  have c14b0 : decide (x30_2 < (t330.length : Int)) = true := decide_eq_true c14
                  clear c14
                  by_cases c15 : (rd t330 x30_2) ≤ a1
                  · rw [if_pos c15] at H
                    have c15b0 : decide ((rd t330 x30_2) ≤ a1) = true := decide_eq_true c15
                    clear c15
                    have H' := Aside0.mk H
                    clear H
                    have p336 : 0 ≤ (x30_2 : Int) := of_decide_eq_true (by first | (with_reducible assumption) | assumption)
                    have q336 : x30_2 < (t330.length : Int) := of_decide_eq_true (by first | (with_reducible assumption) | assumption)
                    obtain ⟨ad336, e336, hx336_0⟩ := Kd.at_int (Kd.R_reads' HO_28.out).2.2 x30_2 p336 q336
                    cases e336
                    replace p336 := eq_true p336
                    replace q336 := eq_true q336
                    have hnb16 := NB329_328.out
                    have hnc16 := NB328_329.out
                    have hcz17_0 : wr.cell? ⟨gb329, 0, none⟩ = some (.int .i64 x330000_2) := (blk_cell BK329.out 0).trans rfl
                    have hcz17_1 : wr.cell? ⟨gb329, 1, none⟩ = some (.int .i64 0) := (blk_cell BK329.out 1).trans rfl
                    have hcz17_2 : wr.cell? ⟨gb329, 2, none⟩ = some (.int .i64 0) := (blk_cell BK329.out 2).trans rfl
                    have hcz17_3 : wr.cell? ⟨gb329, 3, none⟩ = some (.int .i64 0) := (blk_cell BK329.out 3).trans rfl
                    have hfz17_0 := blk_frozen BK329.out 0
                    have hfz17_1 := blk_frozen BK329.out 1
                    have hfz17_2 := blk_frozen BK329.out 2
                    have hfz17_3 := blk_frozen BK329.out 3
                    go_wp2
                    go_roundg k2
                    case measure => have := HJ2.out; have := HK2.out; omega
                    case rel => exact ⟨(rd t330 x30_2), (wrap64 (x30_2 + 1)), (wrap64 (x330000_2 + 1)), (by first | rfl | (simp; done) | (simp [*]; done)), (by first | rfl | (simp; done) | (simp [*]; done)), H', ⟨by have := HJ2.out; have := HK2.out; omega⟩, ⟨by (with_reducible repeat (first | apply Kd.R_alloc | apply Kd.R_drewN | apply Kd.R_drew)); exact Kd.R_mono (Kd.R_far (p := ⟨gb329, 0, none⟩) (Kd.R_types HO_28.out BK329.out (by decide)) (fun _ hk => hk.2) (.int .i64 (wrap64 (x330000_2 + 1)))) (fun _ hk => trivial)⟩, ⟨by (with_reducible repeat (first | refine blk_drewN ?_ _ | refine blk_drew ?_ | refine blk_alloc ?_ _)); refine blk_far ?_ NB328_329.out _; (with_reducible repeat (first | refine blk_drewN ?_ _ | refine blk_drew ?_ | refine blk_alloc ?_ _)); exact BK328.out⟩, ⟨by (with_reducible repeat (first | refine blk_drewN ?_ _ | refine blk_drew ?_ | refine blk_alloc ?_ _)); refine blk_put (cs := #[.int .i64 x330000_2, .int .i64 0, .int .i64 0, .int .i64 0]) ?_ 0 _ rfl; (with_reducible repeat (first | refine blk_drewN ?_ _ | refine blk_drew ?_ | refine blk_alloc ?_ _)); exact BK329.out⟩, ⟨by repeat (first | (with_reducible first | exact HB.out | apply below_alloc | apply pw_below_drewN | apply below_drew1 | refine below_set ?_ GE328.out | refine below_set ?_ GE329.out) | exact HB.out)⟩⟩
                  · rw [if_neg c15] at H
                    have c15b0 : decide ((rd t330 x30_2) ≤ a1) = false := decide_eq_false c15
                    clear c15
                    have H' := Aside0.mk H
                    clear H
                    have p336 : 0 ≤ (x30_2 : Int) := of_decide_eq_true (by first | (with_reducible assumption) | assumption)
                    have q336 : x30_2 < (t330.length : Int) := of_decide_eq_true (by first | (with_reducible assumption) | assumption)
                    obtain ⟨ad336, e336, hx336_0⟩ := Kd.at_int (Kd.R_reads' HO_28.out).2.2 x30_2 p336 q336
                    cases e336
                    replace p336 := eq_true p336
                    replace q336 := eq_true q336
                    go_wp2
                    go_roundg k2
                    case measure => have := HJ2.out; have := HK2.out; omega
                    case rel => exact ⟨(x7_2), (wrap64 (x30_2 + 1)), (x330000_2), (by first | rfl | (simp; done) | (simp [*]; done)), (by first | rfl | (simp; done) | (simp [*]; done)), H', ⟨by have := HJ2.out; have := HK2.out; omega⟩, ⟨by (with_reducible repeat (first | apply Kd.R_alloc | apply Kd.R_drewN | apply Kd.R_drew)); exact HO_28.out⟩, ⟨by (with_reducible repeat (first | refine blk_drewN ?_ _ | refine blk_drew ?_ | refine blk_alloc ?_ _)); exact BK328.out⟩, ⟨by (with_reducible repeat (first | refine blk_drewN ?_ _ | refine blk_drew ?_ | refine blk_alloc ?_ _)); exact BK329.out⟩, ⟨by repeat (first | (with_reducible first | exact HB.out | apply below_alloc | apply pw_below_drewN | apply below_drew1 | refine below_set ?_ GE328.out | refine below_set ?_ GE329.out) | exact HB.out)⟩⟩
                · rw [if_neg c14] at H
                  exact absurd H (by simp)
              · rw [if_neg c13] at H
                exact absurd H (by simp)
            · rw [if_neg c12] at H
              have c12b0 : decide (x30_2 < (t330.length : Int)) = false := decide_eq_false c12
              clear c12
              replace H := Option.bind_eq_some_iff.mp H
              obtain ⟨t337, A180, H⟩ := H
              replace H : (scalar_Position.l1 k2 a1 x7_2 t337 (t337.length : Int) 0 x330000_2 0 0 0) = some (r1, r2, r3, r4, r5) := H
              have A18 := Aside0.mk A180
              clear A180
              have H' := Aside0.mk H
              clear H
              go_wp2_with (first | ((with_reducible refine gate_callee (f := 21) rfl ?_); refine goesL_ (some 44) rfl rfl Tryd.func21 (by kernel_rfl) rfl #[.string a0] rfl (by (try simp only [List.map_toArray, List.map_cons, List.map_nil]); first | done | rfl | (simp only [List.length_drop, List.length_take]; rfl)) ?_; (with_reducible refine (scalar_Pieces.calls a0 t337 _ A18.out (by first | exact T_ | exact (Utf8Tabs_below T_ (by repeat (first | (with_reducible first | exact HB.out | apply below_alloc | apply pw_below_drewN | apply below_drew1 | refine below_set ?_ GE328.out | refine below_set ?_ GE329.out) | exact HB.out))))).mono ?_); rintro e w19 ⟨v338, rfl, ho0, hb⟩; refine ⟨_, rfl, ?_⟩; have n0_ := Aside0.mk (Kd.R_below (by (with_reducible repeat (first | apply Kd.R_alloc | apply Kd.R_drewN | apply Kd.R_drew)); exact HO_28.out) hb); have n1_ := Aside0.mk (Kd.R_lower ho0 (below_size (by repeat (first | (with_reducible first | exact HB.out | apply below_alloc | apply pw_below_drewN | apply below_drew1 | refine below_set ?_ GE328.out | refine below_set ?_ GE329.out) | exact HB.out)))); have n2_ := Aside0.mk (blk_below (g := gb328) (o := .cells #[.int .i64 0, .int .i64 0, .int .i64 0, .int .i64 0] 75 (0, 0)) (by (with_reducible repeat (first | refine blk_drewN ?_ _ | refine blk_drew ?_ | refine blk_alloc ?_ _)); exact BK328.out) hb); have n3_ := Aside0.mk (blk_below (g := gb329) (o := .cells #[.int .i64 x330000_2, .int .i64 0, .int .i64 0, .int .i64 0] 75 (0, 0)) (by (with_reducible repeat (first | refine blk_drewN ?_ _ | refine blk_drew ?_ | refine blk_alloc ?_ _)); exact BK329.out) hb); have n4_ := Aside0.mk (below_step (by repeat (first | (with_reducible first | exact HB.out | apply below_alloc | apply pw_below_drewN | apply below_drew1 | refine below_set ?_ GE328.out | refine below_set ?_ GE329.out) | exact HB.out)) hb); clear HO_28; clear BK328; clear BK329; clear HB; have HO_28 := n0_; have HO339 := n1_; have BK328 := n2_; have BK329 := n3_; have HB := n4_; clear n0_ n1_ n2_ n3_ n4_; (try clear hb); (try clear hb2); (try clear hk); (try clear hi); (try clear ho0); obtain ⟨Ao20, co20, eo20⟩ := Kd.R_slice HO339.out; subst eo20))
              go_loopg [46] k2 (fun kq v46 w' => ∃ (x46_3 : Int) (x330001_3 : Int) (x330002_3 : Int) (x330003_3 : Int), v46 = .int .i64 x46_3 ∧ Aside0 (scalar_Position.l1 kq a1 x7_2 t337 (t337.length : Int) x46_3 x330000_2 x330001_3 x330002_3 x330003_3 = some (r1, r2, r3, r4, r5)) ∧ Aside0 (kq ≤ k2) ∧ Aside0 (Kd.R k32 32 w' w.heap.size (fun _ => True) (.slice Ao20 t337.length co20) t337) ∧ Aside0 (w'.heap[gb328]? = some (.cells #[.int .i64 0, .int .i64 0, .int .i64 0, .int .i64 0] 75 (0, 0))) ∧ Aside0 (w'.heap[gb329]? = some (.cells #[.int .i64 x330000_2, .int .i64 x330001_3, .int .i64 x330002_3, .int .i64 x330003_3] 75 (0, 0))) ∧ Aside0 (Below w.heap.size w w'))
              case atStart => exact ⟨(0), (0), (0), (0), (by first | rfl | (simp; done) | (simp [*]; done)), H', ⟨Nat.le_refl _⟩, ⟨by (with_reducible repeat (first | apply Kd.R_alloc | apply Kd.R_drewN | apply Kd.R_drew)); exact HO339.out⟩, ⟨by (with_reducible repeat (first | refine blk_drewN ?_ _ | refine blk_drew ?_ | refine blk_alloc ?_ _)); exact BK328.out⟩, ⟨by (with_reducible repeat (first | refine blk_drewN ?_ _ | refine blk_drew ?_ | refine blk_alloc ?_ _)); exact BK329.out⟩, ⟨by repeat (first | (with_reducible first | exact HB.out | apply below_alloc | apply pw_below_drewN | apply below_drew1 | refine below_set ?_ GE328.out | refine below_set ?_ GE329.out) | exact HB.out)⟩⟩
              case round =>
                clear H'
                try clear c1
                try clear c2
                try clear p2
                try clear p3
                try clear q3
                try clear hx3
                try clear c5
                try clear c5b0
                try clear c6
                try clear p6
                try clear c12
                try clear c12b0
                try clear c13
                try clear c13b0
                try clear c14
                try clear c14b0
                try clear c15
                try clear c15b0
                try clear c16
                try clear hcz17_0
                try clear hcz17_1
                try clear hcz17_2
                try clear hcz17_3
                try clear hcz7_0
                try clear hcz7_1
                try clear hcz7_2
                try clear hcz7_3
                try clear hfz17_0
                try clear hfz17_1
                try clear hfz17_2
                try clear hfz17_3
                try clear hfz7_0
                try clear hfz7_1
                try clear hfz7_2
                try clear hfz7_3
                try clear hx336_0
                try clear p2
                try clear p336
                try clear q336
                obtain ⟨x46_3, x330001_3, x330002_3, x330003_3, rfl, HA, HK3, HO_44, BK328, BK329, HB⟩ := hrel
                cases gk with
                | zero => exact absurd HA.out (by simp [scalar_Position.l1])
                | succ k3 =>
                  have H := HA.out
                  clear HA
                  simp only [scalar_Position.l1] at H
                  by_cases c21 : x46_3 < (t337.length : Int)
                  · rw [if_pos c21] at H
                    have c21b0 : decide (x46_3 < (t337.length : Int)) = true := decide_eq_true c21
                    clear c21
                    by_cases c22 : 0 ≤ x46_3
                    · rw [if_pos c22] at H
                      have c22b0 : decide (0 ≤ x46_3) = true := decide_eq_true c22
                      clear c22
                      by_cases c23 : x46_3 < (t337.length : Int)
                      · rw [if_pos c23] at H
                        have c23b0 : decide (x46_3 < (t337.length : Int)) = true := decide_eq_true c23
                        clear c23
                        by_cases c24 : ((rd_T32 t337 x46_3).f0) ≥ a1
                        · rw [if_pos c24] at H
                          have c24b0 : decide (a1 ≤ ((rd_T32 t337 x46_3).f0)) = true := decide_eq_true c24
                          clear c24
                          simp only [Option.some.injEq, Prod.mk.injEq] at H
                          obtain ⟨rfl, rfl, rfl, rfl, rfl⟩ := H
                          have p340 : 0 ≤ (x46_3 : Int) := of_decide_eq_true (by first | (with_reducible assumption) | assumption)
                          have q340 : x46_3 < (t337.length : Int) := of_decide_eq_true (by first | (with_reducible assumption) | assumption)
                          obtain ⟨ad340, e340, hx340_0, hx340_1, hx340_2, hx340_3⟩ := at_T32 (Kd.R_reads' HO_44.out).2.2 x46_3 p340 q340
                          cases e340
                          replace p340 := eq_true p340
                          replace q340 := eq_true q340
                          go_wp2_with (first | ((with_reducible refine gate_dst (N := 13) rfl ?_); (try (refine gate_guard (by rfl) ?_; dsimp only)); refine box_event ?hg (N := 13) ?hd (cs := #[.int .i64 0, .int .i64 0, .int .i32 0, .bool false]) (t := 32) ?hr ?_; (case hd => rfl); (case hg => rfl); (case hr => first | (go_simp; done) | (go_simp; rfl)); intro gb341 hg w25 hbox hb; have n0_ := Aside0.mk (Kd.R_below (Kd.R_elderB (by (with_reducible repeat (first | apply Kd.R_alloc | apply Kd.R_drewN | apply Kd.R_drew)); exact HO_44.out) gb341 (Nat.le_of_eq hg.symm)) hb); have n1_ := Aside0.mk (blk_below (g := gb328) (o := .cells #[.int .i64 0, .int .i64 0, .int .i64 0, .int .i64 0] 75 (0, 0)) (by (with_reducible repeat (first | refine blk_drewN ?_ _ | refine blk_drew ?_ | refine blk_alloc ?_ _)); exact BK328.out) hb); have n2_ := Aside0.mk (blk_below (g := gb329) (o := .cells #[.int .i64 x330000_2, .int .i64 x330001_3, .int .i64 x330002_3, .int .i64 x330003_3] 75 (0, 0)) (by (with_reducible repeat (first | refine blk_drewN ?_ _ | refine blk_drew ?_ | refine blk_alloc ?_ _)); exact BK329.out) hb); have n3_ := Aside0.mk (below_step (by repeat (first | (with_reducible first | exact HB.out | apply below_alloc | apply pw_below_drewN | apply below_drew1 | refine below_set ?_ GE328.out | refine below_set ?_ GE329.out) | exact HB.out)) hb); have n4_ := Aside0.mk (hbox); have n5_ := Aside0.mk ((by rw [hg]; exact (below_size (by repeat (first | (with_reducible first | exact HB.out | apply below_alloc | apply pw_below_drewN | apply below_drew1 | refine below_set ?_ GE328.out | refine below_set ?_ GE329.out) | exact HB.out))) : w.heap.size ≤ gb341)); have n6_ := Aside0.mk ((by rw [hg]; exact (below_size (by repeat (first | (with_reducible first | exact HB.out | apply below_alloc | apply pw_below_drewN | apply below_drew1 | refine below_set ?_ GE328.out | refine below_set ?_ GE329.out) | exact HB.out))) : w.heap.size ≤ gb341)); have n7_ := Aside0.mk ((by rw [hg]; exact Nat.ne_of_lt (blk_lt (g := gb328) (o := .cells #[.int .i64 0, .int .i64 0, .int .i64 0, .int .i64 0] 75 (0, 0)) (by (with_reducible repeat (first | refine blk_drewN ?_ _ | refine blk_drew ?_ | refine blk_alloc ?_ _)); exact BK328.out)) : gb328 ≠ gb341)); have n8_ := Aside0.mk ((by rw [hg]; exact Nat.ne_of_gt (blk_lt (g := gb328) (o := .cells #[.int .i64 0, .int .i64 0, .int .i64 0, .int .i64 0] 75 (0, 0)) (by (with_reducible repeat (first | refine blk_drewN ?_ _ | refine blk_drew ?_ | refine blk_alloc ?_ _)); exact BK328.out)) : gb341 ≠ gb328)); have n9_ := Aside0.mk ((by rw [hg]; exact Nat.ne_of_lt (blk_lt (g := gb329) (o := .cells #[.int .i64 x330000_2, .int .i64 x330001_3, .int .i64 x330002_3, .int .i64 x330003_3] 75 (0, 0)) (by (with_reducible repeat (first | refine blk_drewN ?_ _ | refine blk_drew ?_ | refine blk_alloc ?_ _)); exact BK329.out)) : gb329 ≠ gb341)); have n10_ := Aside0.mk ((by rw [hg]; exact Nat.ne_of_gt (blk_lt (g := gb329) (o := .cells #[.int .i64 x330000_2, .int .i64 x330001_3, .int .i64 x330002_3, .int .i64 x330003_3] 75 (0, 0)) (by (with_reducible repeat (first | refine blk_drewN ?_ _ | refine blk_drew ?_ | refine blk_alloc ?_ _)); exact BK329.out)) : gb341 ≠ gb329)); clear HO_44; clear BK328; clear BK329; clear HB; have HO_44 := n0_; have BK328 := n1_; have BK329 := n2_; have HB := n3_; have BK341 := n4_; have GW341 := n5_; have GE341 := n6_; have NB328_341 := n7_; have NB341_328 := n8_; have NB329_341 := n9_; have NB341_329 := n10_; clear n0_ n1_ n2_ n3_ n4_ n5_ n6_ n7_ n8_ n9_ n10_; clear hb hbox hg; have hnb26 := NB341_328.out; have hnc26 := NB328_341.out; have hnb27 := NB341_329.out; have hnc27 := NB329_341.out; have hcz28_0 : w25.cell? ⟨gb341, 0, none⟩ = some (.int .i64 0) := (blk_cell BK341.out 0).trans rfl; have hcz28_1 : w25.cell? ⟨gb341, 1, none⟩ = some (.int .i64 0) := (blk_cell BK341.out 1).trans rfl; have hcz28_2 : w25.cell? ⟨gb341, 2, none⟩ = some (.int .i32 0) := (blk_cell BK341.out 2).trans rfl; have hcz28_3 : w25.cell? ⟨gb341, 3, none⟩ = some (.bool false) := (blk_cell BK341.out 3).trans rfl; have hfz28_0 := blk_frozen BK341.out 0; have hfz28_1 := blk_frozen BK341.out 1; have hfz28_2 := blk_frozen BK341.out 2; have hfz28_3 := blk_frozen BK341.out 3; have hnb29 := NB329_328.out; have hnc29 := NB328_329.out; have hcz30_0 : w25.cell? ⟨gb329, 0, none⟩ = some (.int .i64 x330000_2) := (blk_cell BK329.out 0).trans rfl; have hcz30_1 : w25.cell? ⟨gb329, 1, none⟩ = some (.int .i64 x330001_3) := (blk_cell BK329.out 1).trans rfl; have hcz30_2 : w25.cell? ⟨gb329, 2, none⟩ = some (.int .i64 x330002_3) := (blk_cell BK329.out 2).trans rfl; have hcz30_3 : w25.cell? ⟨gb329, 3, none⟩ = some (.int .i64 x330003_3) := (blk_cell BK329.out 3).trans rfl; have hfz30_0 := blk_frozen BK329.out 0; have hfz30_1 := blk_frozen BK329.out 1; have hfz30_2 := blk_frozen BK329.out 2; have hfz30_3 := blk_frozen BK329.out 3; have hcz31_0 : w25.cell? ⟨gb328, 0, none⟩ = some (.int .i64 0) := (blk_cell BK328.out 0).trans rfl; have hcz31_1 : w25.cell? ⟨gb328, 1, none⟩ = some (.int .i64 0) := (blk_cell BK328.out 1).trans rfl; have hcz31_2 : w25.cell? ⟨gb328, 2, none⟩ = some (.int .i64 0) := (blk_cell BK328.out 2).trans rfl; have hcz31_3 : w25.cell? ⟨gb328, 3, none⟩ = some (.int .i64 0) := (blk_cell BK328.out 3).trans rfl; have hfz31_0 := blk_frozen BK328.out 0; have hfz31_1 := blk_frozen BK328.out 1; have hfz31_2 := blk_frozen BK328.out 2; have hfz31_3 := blk_frozen BK328.out 3))
                          refine bodyPost_ret (results_ct rfl _ _ gb328 75 #[.int .i64 x330000_2, .int .i64 x330001_3, .int .i64 x330002_3, .int .i64 x330003_3] (0, 0) _ rfl (by (with_reducible repeat (first | refine blk_drewN ?_ _ | refine blk_drew ?_ | refine blk_alloc ?_ _)); refine blk_put (cs := #[.int .i64 x330000_2, .int .i64 x330001_3, .int .i64 x330002_3, .int .i64 0]) ?_ 3 _ rfl; (with_reducible repeat (first | refine blk_drewN ?_ _ | refine blk_drew ?_ | refine blk_alloc ?_ _)); refine blk_put (cs := #[.int .i64 x330000_2, .int .i64 x330001_3, .int .i64 0, .int .i64 0]) ?_ 2 _ rfl; (with_reducible repeat (first | refine blk_drewN ?_ _ | refine blk_drew ?_ | refine blk_alloc ?_ _)); refine blk_put (cs := #[.int .i64 x330000_2, .int .i64 0, .int .i64 0, .int .i64 0]) ?_ 1 _ rfl; (with_reducible repeat (first | refine blk_drewN ?_ _ | refine blk_drew ?_ | refine blk_alloc ?_ _)); refine blk_put (cs := #[.int .i64 0, .int .i64 0, .int .i64 0, .int .i64 0]) ?_ 0 _ rfl; (with_reducible repeat (first | refine blk_drewN ?_ _ | refine blk_drew ?_ | refine blk_alloc ?_ _)); refine blk_far ?_ NB328_341.out _; (with_reducible repeat (first | refine blk_drewN ?_ _ | refine blk_drew ?_ | refine blk_alloc ?_ _)); refine blk_far ?_ NB328_341.out _; (with_reducible repeat (first | refine blk_drewN ?_ _ | refine blk_drew ?_ | refine blk_alloc ?_ _)); refine blk_far ?_ NB328_341.out _; (with_reducible repeat (first | refine blk_drewN ?_ _ | refine blk_drew ?_ | refine blk_alloc ?_ _)); refine blk_far ?_ NB328_341.out _; (with_reducible repeat (first | refine blk_drewN ?_ _ | refine blk_drew ?_ | refine blk_alloc ?_ _)); exact BK328.out) Tryd.underlying75 rfl (by kernel_rfl)) rfl ?_
                          exact ⟨by first | rfl | (simp [errW_none, errW_some] <;> rfl) | (simp [*, errW_none, errW_some] <;> rfl), by repeat (first | (with_reducible first | exact HB.out | apply below_alloc | apply pw_below_drewN | apply below_drew1 | refine below_set ?_ GE328.out | refine below_set ?_ GE329.out | refine below_set ?_ GE341.out) | exact HB.out)⟩
                        · rw [if_neg c24] at H
                          have c24b0 : decide (a1 ≤ ((rd_T32 t337 x46_3).f0)) = false := decide_eq_false c24
                          clear c24
                          replace H := Option.bind_eq_some_iff.mp H
                          obtain ⟨t342, A320, H⟩ := H
                          replace H : (if ((rd_T32 t337 x46_3).f0) ≥ x7_2 then (scalar_Position.l1 k3 a1 x7_2 t337 (t337.length : Int) (wrap64 (x46_3 + 1)) x330000_2 (wrap64 (x330001_3 + 1)) (wrap64 (x330002_3 + 1)) (wrap64 (x330003_3 + t342))) else (scalar_Position.l1 k3 a1 x7_2 t337 (t337.length : Int) (wrap64 (x46_3 + 1)) x330000_2 x330001_3 (wrap64 (x330002_3 + 1)) (wrap64 (x330003_3 + t342)))) = some (r1, r2, r3, r4, r5) := H
                          have A32 := Aside0.mk A320
                          clear A320
                          by_cases c33 : ((rd_T32 t337 x46_3).f0) ≥ x7_2
                          · rw [if_pos c33] at H
                            have c33b0 : decide (x7_2 ≤ ((rd_T32 t337 x46_3).f0)) = true := decide_eq_true c33
                            clear c33
                            have H' := Aside0.mk H
                            clear H
                            have p340 : 0 ≤ (x46_3 : Int) := of_decide_eq_true (by first | (with_reducible assumption) | assumption)
                            have q340 : x46_3 < (t337.length : Int) := of_decide_eq_true (by first | (with_reducible assumption) | assumption)
                            obtain ⟨ad340, e340, hx340_0, hx340_1, hx340_2, hx340_3⟩ := at_T32 (Kd.R_reads' HO_44.out).2.2 x46_3 p340 q340
                            cases e340
                            replace p340 := eq_true p340
                            replace q340 := eq_true q340
                            try go_wp2_with (first | ((with_reducible refine gate_dst (N := 13) rfl ?_); (try (refine gate_guard (by rfl) ?_; dsimp only)); refine box_event ?hg (N := 13) ?hd (cs := #[.int .i64 0, .int .i64 0, .int .i32 0, .bool false]) (t := 32) ?hr ?_; (case hd => rfl); (case hg => rfl); (case hr => first | (go_simp; done) | (go_simp; rfl)); intro gb341 hg w34 hbox hb; have n0_ := Aside0.mk (Kd.R_below (Kd.R_elderB (by (with_reducible repeat (first | apply Kd.R_alloc | apply Kd.R_drewN | apply Kd.R_drew)); exact HO_44.out) gb341 (Nat.le_of_eq hg.symm)) hb); have n1_ := Aside0.mk (blk_below (g := gb328) (o := .cells #[.int .i64 0, .int .i64 0, .int .i64 0, .int .i64 0] 75 (0, 0)) (by (with_reducible repeat (first | refine blk_drewN ?_ _ | refine blk_drew ?_ | refine blk_alloc ?_ _)); exact BK328.out) hb); have n2_ := Aside0.mk (blk_below (g := gb329) (o := .cells #[.int .i64 x330000_2, .int .i64 x330001_3, .int .i64 x330002_3, .int .i64 x330003_3] 75 (0, 0)) (by (with_reducible repeat (first | refine blk_drewN ?_ _ | refine blk_drew ?_ | refine blk_alloc ?_ _)); exact BK329.out) hb); have n3_ := Aside0.mk (below_step (by repeat (first | (with_reducible first | exact HB.out | apply below_alloc | apply pw_below_drewN | apply below_drew1 | refine below_set ?_ GE328.out | refine below_set ?_ GE329.out) | exact HB.out)) hb); have n4_ := Aside0.mk (hbox); have n5_ := Aside0.mk ((by rw [hg]; exact (below_size (by repeat (first | (with_reducible first | exact HB.out | apply below_alloc | apply pw_below_drewN | apply below_drew1 | refine below_set ?_ GE328.out | refine below_set ?_ GE329.out) | exact HB.out))) : w.heap.size ≤ gb341)); have n6_ := Aside0.mk ((by rw [hg]; exact (below_size (by repeat (first | (with_reducible first | exact HB.out | apply below_alloc | apply pw_below_drewN | apply below_drew1 | refine below_set ?_ GE328.out | refine below_set ?_ GE329.out) | exact HB.out))) : w.heap.size ≤ gb341)); have n7_ := Aside0.mk ((by rw [hg]; exact Nat.ne_of_lt (blk_lt (g := gb328) (o := .cells #[.int .i64 0, .int .i64 0, .int .i64 0, .int .i64 0] 75 (0, 0)) (by (with_reducible repeat (first | refine blk_drewN ?_ _ | refine blk_drew ?_ | refine blk_alloc ?_ _)); exact BK328.out)) : gb328 ≠ gb341)); have n8_ := Aside0.mk ((by rw [hg]; exact Nat.ne_of_gt (blk_lt (g := gb328) (o := .cells #[.int .i64 0, .int .i64 0, .int .i64 0, .int .i64 0] 75 (0, 0)) (by (with_reducible repeat (first | refine blk_drewN ?_ _ | refine blk_drew ?_ | refine blk_alloc ?_ _)); exact BK328.out)) : gb341 ≠ gb328)); have n9_ := Aside0.mk ((by rw [hg]; exact Nat.ne_of_lt (blk_lt (g := gb329) (o := .cells #[.int .i64 x330000_2, .int .i64 x330001_3, .int .i64 x330002_3, .int .i64 x330003_3] 75 (0, 0)) (by (with_reducible repeat (first | refine blk_drewN ?_ _ | refine blk_drew ?_ | refine blk_alloc ?_ _)); exact BK329.out)) : gb329 ≠ gb341)); have n10_ := Aside0.mk ((by rw [hg]; exact Nat.ne_of_gt (blk_lt (g := gb329) (o := .cells #[.int .i64 x330000_2, .int .i64 x330001_3, .int .i64 x330002_3, .int .i64 x330003_3] 75 (0, 0)) (by (with_reducible repeat (first | refine blk_drewN ?_ _ | refine blk_drew ?_ | refine blk_alloc ?_ _)); exact BK329.out)) : gb341 ≠ gb329)); clear HO_44; clear BK328; clear BK329; clear HB; have HO_44 := n0_; have BK328 := n1_; have BK329 := n2_; have HB := n3_; have BK341 := n4_; have GW341 := n5_; have GE341 := n6_; have NB328_341 := n7_; have NB341_328 := n8_; have NB329_341 := n9_; have NB341_329 := n10_; clear n0_ n1_ n2_ n3_ n4_ n5_ n6_ n7_ n8_ n9_ n10_; clear hb hbox hg; have hnb35 := NB341_328.out; have hnc35 := NB328_341.out; have hnb36 := NB341_329.out; have hnc36 := NB329_341.out; have hcz37_0 : w34.cell? ⟨gb341, 0, none⟩ = some (.int .i64 0) := (blk_cell BK341.out 0).trans rfl; have hcz37_1 : w34.cell? ⟨gb341, 1, none⟩ = some (.int .i64 0) := (blk_cell BK341.out 1).trans rfl; have hcz37_2 : w34.cell? ⟨gb341, 2, none⟩ = some (.int .i32 0) := (blk_cell BK341.out 2).trans rfl; have hcz37_3 : w34.cell? ⟨gb341, 3, none⟩ = some (.bool false) := (blk_cell BK341.out 3).trans rfl; have hfz37_0 := blk_frozen BK341.out 0; have hfz37_1 := blk_frozen BK341.out 1; have hfz37_2 := blk_frozen BK341.out 2; have hfz37_3 := blk_frozen BK341.out 3; have hnb38 := NB329_328.out; have hnc38 := NB328_329.out; have hcz39_0 : w34.cell? ⟨gb329, 0, none⟩ = some (.int .i64 x330000_2) := (blk_cell BK329.out 0).trans rfl; have hcz39_1 : w34.cell? ⟨gb329, 1, none⟩ = some (.int .i64 x330001_3) := (blk_cell BK329.out 1).trans rfl; have hcz39_2 : w34.cell? ⟨gb329, 2, none⟩ = some (.int .i64 x330002_3) := (blk_cell BK329.out 2).trans rfl; have hcz39_3 : w34.cell? ⟨gb329, 3, none⟩ = some (.int .i64 x330003_3) := (blk_cell BK329.out 3).trans rfl; have hfz39_0 := blk_frozen BK329.out 0; have hfz39_1 := blk_frozen BK329.out 1; have hfz39_2 := blk_frozen BK329.out 2; have hfz39_3 := blk_frozen BK329.out 3))
                            have n0_ : Aside0 (Kd.R k32 32 (((((w34.setCell ⟨gb341, 0, none⟩ (.int .i64 ((rd_T32 t337 x46_3).f0))).setCell ⟨gb341, 1, none⟩ (.int .i64 ((rd_T32 t337 x46_3).f1))).setCell ⟨gb341, 2, none⟩ (.int .i32 ((rd_T32 t337 x46_3).f2))).setCell ⟨gb341, 3, none⟩ (.bool ((rd_T32 t337 x46_3).f3))).setCell ⟨gb329, 2, none⟩ (.int .i64 (wrap64 (x330002_3 + 1)))) w.heap.size (fun k_ => k_ ≠ gb341) (.slice (some ad340) t337.length co20) t337) := ⟨by (with_reducible repeat (first | apply Kd.R_alloc | apply Kd.R_drewN | apply Kd.R_drew)); exact Kd.R_mono (Kd.R_far (p := ⟨gb329, 2, none⟩) (Kd.R_far (p := ⟨gb341, 3, none⟩) (Kd.R_far (p := ⟨gb341, 2, none⟩) (Kd.R_far (p := ⟨gb341, 1, none⟩) (Kd.R_far (p := ⟨gb341, 0, none⟩) (Kd.R_types (Kd.R_mono HO_44.out (fun k_ hk => (⟨hk, hk.2⟩ : _ ∧ k_ ≠ gb341))) BK329.out (by decide)) (fun _ hk => hk.1.2) (.int .i64 ((rd_T32 t337 x46_3).f0))) (fun _ hk => hk.1.2) (.int .i64 ((rd_T32 t337 x46_3).f1))) (fun _ hk => hk.1.2) (.int .i32 ((rd_T32 t337 x46_3).f2))) (fun _ hk => hk.1.2) (.bool ((rd_T32 t337 x46_3).f3))) (fun _ hk => hk.2) (.int .i64 (wrap64 (x330002_3 + 1)))) (fun _ hk => hk.1.1.2)⟩
                            have n1_ : Aside0 ((((((w34.setCell ⟨gb341, 0, none⟩ (.int .i64 ((rd_T32 t337 x46_3).f0))).setCell ⟨gb341, 1, none⟩ (.int .i64 ((rd_T32 t337 x46_3).f1))).setCell ⟨gb341, 2, none⟩ (.int .i32 ((rd_T32 t337 x46_3).f2))).setCell ⟨gb341, 3, none⟩ (.bool ((rd_T32 t337 x46_3).f3))).setCell ⟨gb329, 2, none⟩ (.int .i64 (wrap64 (x330002_3 + 1)))).heap[gb328]? = some (.cells #[.int .i64 0, .int .i64 0, .int .i64 0, .int .i64 0] 75 (0, 0))) := ⟨by (with_reducible repeat (first | refine blk_drewN ?_ _ | refine blk_drew ?_ | refine blk_alloc ?_ _)); refine blk_far ?_ NB328_329.out _; (with_reducible repeat (first | refine blk_drewN ?_ _ | refine blk_drew ?_ | refine blk_alloc ?_ _)); refine blk_far ?_ NB328_341.out _; (with_reducible repeat (first | refine blk_drewN ?_ _ | refine blk_drew ?_ | refine blk_alloc ?_ _)); refine blk_far ?_ NB328_341.out _; (with_reducible repeat (first | refine blk_drewN ?_ _ | refine blk_drew ?_ | refine blk_alloc ?_ _)); refine blk_far ?_ NB328_341.out _; (with_reducible repeat (first | refine blk_drewN ?_ _ | refine blk_drew ?_ | refine blk_alloc ?_ _)); refine blk_far ?_ NB328_341.out _; (with_reducible repeat (first | refine blk_drewN ?_ _ | refine blk_drew ?_ | refine blk_alloc ?_ _)); exact BK328.out⟩
                            have n2_ : Aside0 ((((((w34.setCell ⟨gb341, 0, none⟩ (.int .i64 ((rd_T32 t337 x46_3).f0))).setCell ⟨gb341, 1, none⟩ (.int .i64 ((rd_T32 t337 x46_3).f1))).setCell ⟨gb341, 2, none⟩ (.int .i32 ((rd_T32 t337 x46_3).f2))).setCell ⟨gb341, 3, none⟩ (.bool ((rd_T32 t337 x46_3).f3))).setCell ⟨gb329, 2, none⟩ (.int .i64 (wrap64 (x330002_3 + 1)))).heap[gb329]? = some (.cells #[.int .i64 x330000_2, .int .i64 x330001_3, .int .i64 (wrap64 (x330002_3 + 1)), .int .i64 x330003_3] 75 (0, 0))) := ⟨by (with_reducible repeat (first | refine blk_drewN ?_ _ | refine blk_drew ?_ | refine blk_alloc ?_ _)); refine blk_put (cs := #[.int .i64 x330000_2, .int .i64 x330001_3, .int .i64 x330002_3, .int .i64 x330003_3]) ?_ 2 _ rfl; (with_reducible repeat (first | refine blk_drewN ?_ _ | refine blk_drew ?_ | refine blk_alloc ?_ _)); refine blk_far ?_ NB329_341.out _; (with_reducible repeat (first | refine blk_drewN ?_ _ | refine blk_drew ?_ | refine blk_alloc ?_ _)); refine blk_far ?_ NB329_341.out _; (with_reducible repeat (first | refine blk_drewN ?_ _ | refine blk_drew ?_ | refine blk_alloc ?_ _)); refine blk_far ?_ NB329_341.out _; (with_reducible repeat (first | refine blk_drewN ?_ _ | refine blk_drew ?_ | refine blk_alloc ?_ _)); refine blk_far ?_ NB329_341.out _; (with_reducible repeat (first | refine blk_drewN ?_ _ | refine blk_drew ?_ | refine blk_alloc ?_ _)); exact BK329.out⟩
                            have n3_ : Aside0 ((((((w34.setCell ⟨gb341, 0, none⟩ (.int .i64 ((rd_T32 t337 x46_3).f0))).setCell ⟨gb341, 1, none⟩ (.int .i64 ((rd_T32 t337 x46_3).f1))).setCell ⟨gb341, 2, none⟩ (.int .i32 ((rd_T32 t337 x46_3).f2))).setCell ⟨gb341, 3, none⟩ (.bool ((rd_T32 t337 x46_3).f3))).setCell ⟨gb329, 2, none⟩ (.int .i64 (wrap64 (x330002_3 + 1)))).heap[gb341]? = some (.cells #[.int .i64 ((rd_T32 t337 x46_3).f0), .int .i64 ((rd_T32 t337 x46_3).f1), .int .i32 ((rd_T32 t337 x46_3).f2), .bool ((rd_T32 t337 x46_3).f3)] 32 (0, 0))) := ⟨by (with_reducible repeat (first | refine blk_drewN ?_ _ | refine blk_drew ?_ | refine blk_alloc ?_ _)); refine blk_far ?_ NB341_329.out _; (with_reducible repeat (first | refine blk_drewN ?_ _ | refine blk_drew ?_ | refine blk_alloc ?_ _)); refine blk_put (cs := #[.int .i64 ((rd_T32 t337 x46_3).f0), .int .i64 ((rd_T32 t337 x46_3).f1), .int .i32 ((rd_T32 t337 x46_3).f2), .bool false]) ?_ 3 _ rfl; (with_reducible repeat (first | refine blk_drewN ?_ _ | refine blk_drew ?_ | refine blk_alloc ?_ _)); refine blk_put (cs := #[.int .i64 ((rd_T32 t337 x46_3).f0), .int .i64 ((rd_T32 t337 x46_3).f1), .int .i32 0, .bool false]) ?_ 2 _ rfl; (with_reducible repeat (first | refine blk_drewN ?_ _ | refine blk_drew ?_ | refine blk_alloc ?_ _)); refine blk_put (cs := #[.int .i64 ((rd_T32 t337 x46_3).f0), .int .i64 0, .int .i32 0, .bool false]) ?_ 1 _ rfl; (with_reducible repeat (first | refine blk_drewN ?_ _ | refine blk_drew ?_ | refine blk_alloc ?_ _)); refine blk_put (cs := #[.int .i64 0, .int .i64 0, .int .i32 0, .bool false]) ?_ 0 _ rfl; (with_reducible repeat (first | refine blk_drewN ?_ _ | refine blk_drew ?_ | refine blk_alloc ?_ _)); exact BK341.out⟩
                            have n4_ : Aside0 (Below w.heap.size w (((((w34.setCell ⟨gb341, 0, none⟩ (.int .i64 ((rd_T32 t337 x46_3).f0))).setCell ⟨gb341, 1, none⟩ (.int .i64 ((rd_T32 t337 x46_3).f1))).setCell ⟨gb341, 2, none⟩ (.int .i32 ((rd_T32 t337 x46_3).f2))).setCell ⟨gb341, 3, none⟩ (.bool ((rd_T32 t337 x46_3).f3))).setCell ⟨gb329, 2, none⟩ (.int .i64 (wrap64 (x330002_3 + 1))))) := ⟨by repeat (first | (with_reducible first | exact HB.out | apply below_alloc | apply pw_below_drewN | apply below_drew1 | refine below_set ?_ GE328.out | refine below_set ?_ GE329.out | refine below_set ?_ GE341.out) | exact HB.out)⟩
                            (try clear HO_44)
                            (try clear BK328)
                            (try clear BK329)
                            (try clear BK341)
                            (try clear HB)
                            generalize (((((w34.setCell ⟨gb341, 0, none⟩ (.int .i64 ((rd_T32 t337 x46_3).f0))).setCell ⟨gb341, 1, none⟩ (.int .i64 ((rd_T32 t337 x46_3).f1))).setCell ⟨gb341, 2, none⟩ (.int .i32 ((rd_T32 t337 x46_3).f2))).setCell ⟨gb341, 3, none⟩ (.bool ((rd_T32 t337 x46_3).f3))).setCell ⟨gb329, 2, none⟩ (.int .i64 (wrap64 (x330002_3 + 1)))) = w40 at n0_ n1_ n2_ n3_ n4_ ⊢
                            have HO_44 := n0_
                            have BK328 := n1_
                            have BK329 := n2_
                            have BK341 := n3_
                            have HB := n4_
                            clear n0_ n1_ n2_ n3_ n4_
                            have n0_ := Aside0.mk (Kd.R_drew HO_44.out)
                            have n1_ := Aside0.mk (blk_drew BK328.out)
                            have n2_ := Aside0.mk (blk_drew BK329.out)
                            have n3_ := Aside0.mk (blk_drew BK341.out)
                            have n4_ := Aside0.mk (below_drew1 HB.out)
                            clear HO_44
                            clear BK328
                            clear BK329
                            clear BK341
                            clear HB
                            have HO_44 := n0_
                            have BK328 := n1_
                            have BK329 := n2_
                            have BK341 := n3_
                            have HB := n4_
                            clear n0_ n1_ n2_ n3_ n4_
                            refine start_ (n := 8) (S := fun w' => w'.cell? ⟨gb329, 0, none⟩ = some (.int .i64 x330000_2) ∧ w'.cell? ⟨gb329, 1, none⟩ = some (.int .i64 x330001_3) ∧ w'.cell? ⟨gb329, 2, none⟩ = some (.int .i64 (wrap64 (x330002_3 + 1))) ∧ w'.cell? ⟨gb329, 3, none⟩ = some (.int .i64 x330003_3) ∧ w'.cell? ⟨gb341, 0, none⟩ = some (.int .i64 ((rd_T32 t337 x46_3).f0)) ∧ w'.cell? ⟨gb341, 1, none⟩ = some (.int .i64 ((rd_T32 t337 x46_3).f1)) ∧ w'.cell? ⟨gb341, 2, none⟩ = some (.int .i32 ((rd_T32 t337 x46_3).f2)) ∧ w'.cell? ⟨gb341, 3, none⟩ = some (.bool ((rd_T32 t337 x46_3).f3))) (ds := [7]) #[false, false, false, false, false, false, false, false] (by kernel_rfl) rfl rfl ⟨(blk_cell BK329.out 0).trans rfl, (blk_cell BK329.out 1).trans rfl, (blk_cell BK329.out 2).trans rfl, (blk_cell BK329.out 3).trans rfl, (blk_cell BK341.out 0).trans rfl, (blk_cell BK341.out 1).trans rfl, (blk_cell BK341.out 2).trans rfl, (blk_cell BK341.out 3).trans rfl⟩ (fun hHeld => ?_); refine with_tabW scalar_Position.tab18 scalar_Position.bits18 (fun HT_ HW_ => ?_)
                            generalize w40.drew = w41 at HO_44 BK328 BK329 BK341 HB hHeld ⊢
                            refine pure_ (i := 0) (N := some 58) (v := ?_) (a' := ?_) #[true, false, false, false, false, false, false, false] rfl rfl (any_of HT_.out (by kernel_rfl)) (fun _ _ _ h => h) (Or.inl ⟨by rfl, ?_⟩) ?_ ?_
                            rotate_left
                            · intro w'
                              go_simp
                              with_reducible rfl
                            rotate_left
                            · simp only [Act.put, List.setIfInBounds_toArray, List.set_cons_zero, List.set_cons_succ, i64_w, i32_w]
                              rfl
                            refine pure_ (i := 2) (N := some 60) (v := ?_) (a' := ?_) #[true, false, true, false, false, false, false, false] rfl rfl (any_of HT_.out (by kernel_rfl)) (fun _ _ _ h => h) (Or.inl ⟨by rfl, ?_⟩) ?_ ?_
                            rotate_left
                            · intro w'
                              go_simp
                              with_reducible rfl
                            rotate_left
                            · simp only [Act.put, List.setIfInBounds_toArray, List.set_cons_zero, List.set_cons_succ, i64_w, i32_w]
                              rfl
                            refine take_ (i := 1) (N := some 59) (v := ?_) (a' := ?_) #[true, true, true, false, false, false, false, false] rfl rfl (take_ofW HT_.out HW_.out (by kernel_rfl)) (fun _ _ _ h => h) (Or.inl ⟨by rfl, ?_⟩) hHeld ?_ ?_
                            rotate_left
                            · rintro w' ⟨s0, s1, s2, s3, s4, s5, s6, s7⟩
                              go_simp
                              with_reducible rfl
                            rotate_left
                            · simp only [Act.put, List.setIfInBounds_toArray, List.set_cons_zero, List.set_cons_succ, i64_w, i32_w]
                              rfl
                            refine take_ (i := 3) (N := some 61) (v := ?_) (a' := ?_) #[true, true, true, true, false, false, false, false] rfl rfl (take_ofW HT_.out HW_.out (by kernel_rfl)) (fun _ _ _ h => h) (Or.inl ⟨by rfl, ?_⟩) hHeld ?_ ?_
                            rotate_left
                            · rintro w' ⟨s0, s1, s2, s3, s4, s5, s6, s7⟩
                              go_simp
                              with_reducible rfl
                            rotate_left
                            · simp only [Act.put, List.setIfInBounds_toArray, List.set_cons_zero, List.set_cons_succ, i64_w, i32_w]
                              rfl
                            refine one_ (i := 4) (N := some 62) #[true, true, true, true, true, false, false, false] rfl rfl (one_of HT_.out (by kernel_rfl)) (by decide) (fun K hK => ?_)
                            refine goes_ Tryd.func69 (by kernel_rfl) rfl #[.int .i32 ((rd_T32 t337 x46_3).f2)] (by rfl) rfl rfl (by (try simp only [List.map_toArray, List.map_cons, List.map_nil]); first | done | rfl | (simp only [List.length_drop, List.length_take]; rfl)) ?_
                            with_reducible refine (scalar_units.calls ((rd_T32 t337 x46_3).f2) t342 _ A32.out).mono ?_
                            rintro e w' ⟨rfl, ⟨nd, rfl⟩⟩
                            refine ⟨_, rfl, ?_⟩
                            refine hK.out _ _ ⟨(blk_cell BK329.out 0).trans rfl, (blk_cell BK329.out 1).trans rfl, (blk_cell BK329.out 2).trans rfl, (blk_cell BK329.out 3).trans rfl, (blk_cell BK341.out 0).trans rfl, (blk_cell BK341.out 1).trans rfl, (blk_cell BK341.out 2).trans rfl, (blk_cell BK341.out 3).trans rfl⟩ (fun hHeld => ?_)
                            clear hK K
                            refine norm_ (a' := ?_) ?_ ?_
                            rotate_left
                            · show Act.put _ (some 62) _ = _
                              simp only [Act.put, List.setIfInBounds_toArray, List.set_cons_zero, List.set_cons_succ, i64_w, i32_w]
                              rfl
                            refine pure_ (i := 5) (N := some 63) (v := ?_) (a' := ?_) #[true, true, true, true, true, true, false, false] rfl rfl (any_of HT_.out (by kernel_rfl)) (fun _ _ _ h => h) (Or.inl ⟨by rfl, ?_⟩) ?_ ?_
                            rotate_left
                            · intro w'
                              go_simp
                              with_reducible rfl
                            rotate_left
                            · simp only [Act.put, List.setIfInBounds_toArray, List.set_cons_zero, List.set_cons_succ, i64_w, i32_w]
                              rfl
                            refine pure_ (i := 6) (N := some 64) (v := ?_) (a' := ?_) #[true, true, true, true, true, true, true, false] rfl rfl (any_of HT_.out (by kernel_rfl)) (fun _ _ _ h => h) (Or.inl ⟨by rfl, ?_⟩) ?_ ?_
                            rotate_left
                            · intro w'
                              go_simp
                              with_reducible rfl
                            rotate_left
                            · simp only [Act.put, List.setIfInBounds_toArray, List.set_cons_zero, List.set_cons_succ, i64_w, i32_w]
                              rfl
                            refine last_ (i := 7) (N := none) #[true, true, true, true, true, true, true, true] rfl rfl (one_of HT_.out (by kernel_rfl)) (by decide) (fun K hK => ?_)
                            have hs42 : w41.cell? ⟨gb329, 3, none⟩ = some (.int .i64 x330003_3) := (blk_cell BK329.out 3).trans rfl
                            have hfs42 := blk_frozen BK329.out 3
                            have hns42_0 := NB328_329.out
                            have hns42_2 := NB341_329.out
                            have hms42_0 := NB329_328.out
                            have hms42_2 := NB329_341.out
                            refine skip_ (w1 := ?_) (by rfl) rfl ?_ ?_
                            rotate_left
                            · go_simp
                              rfl
                            refine hK.out _ _ ?_
                            clear hK K
                            refine done_ (done_of HT_.out (by kernel_rfl)) ?_
                            have hcz43_0 : w41.cell? ⟨gb341, 0, none⟩ = some (.int .i64 ((rd_T32 t337 x46_3).f0)) := (blk_cell BK341.out 0).trans rfl
                            have hcz43_1 : w41.cell? ⟨gb341, 1, none⟩ = some (.int .i64 ((rd_T32 t337 x46_3).f1)) := (blk_cell BK341.out 1).trans rfl
                            have hcz43_2 : w41.cell? ⟨gb341, 2, none⟩ = some (.int .i32 ((rd_T32 t337 x46_3).f2)) := (blk_cell BK341.out 2).trans rfl
                            have hcz43_3 : w41.cell? ⟨gb341, 3, none⟩ = some (.bool ((rd_T32 t337 x46_3).f3)) := (blk_cell BK341.out 3).trans rfl
                            have hfz43_0 := blk_frozen BK341.out 0
                            have hfz43_1 := blk_frozen BK341.out 1
                            have hfz43_2 := blk_frozen BK341.out 2
                            have hfz43_3 := blk_frozen BK341.out 3
                            have hcz44_0 : w41.cell? ⟨gb329, 0, none⟩ = some (.int .i64 x330000_2) := (blk_cell BK329.out 0).trans rfl
                            have hcz44_1 : w41.cell? ⟨gb329, 1, none⟩ = some (.int .i64 x330001_3) := (blk_cell BK329.out 1).trans rfl
                            have hcz44_2 : w41.cell? ⟨gb329, 2, none⟩ = some (.int .i64 (wrap64 (x330002_3 + 1))) := (blk_cell BK329.out 2).trans rfl
                            have hcz44_3 : w41.cell? ⟨gb329, 3, none⟩ = some (.int .i64 x330003_3) := (blk_cell BK329.out 3).trans rfl
                            have hfz44_0 := blk_frozen BK329.out 0
                            have hfz44_1 := blk_frozen BK329.out 1
                            have hfz44_2 := blk_frozen BK329.out 2
                            have hfz44_3 := blk_frozen BK329.out 3
                            try go_wp2
                            go_roundg k3
                            case measure => have := HJ2.out; have := HK2.out; have := HK3.out; omega
                            case rel => exact ⟨(wrap64 (x46_3 + 1)), (wrap64 (x330001_3 + 1)), (wrap64 (x330002_3 + 1)), (wrap64 (x330003_3 + t342)), (by first | rfl | (simp; done) | (simp [*]; done)), H', ⟨by have := HJ2.out; have := HK2.out; have := HK3.out; omega⟩, ⟨by (with_reducible repeat (first | apply Kd.R_alloc | apply Kd.R_drewN | apply Kd.R_drew)); exact Kd.R_mono (Kd.R_far (p := ⟨gb329, 1, none⟩) (Kd.R_far (p := ⟨gb329, 3, none⟩) (Kd.R_types HO_44.out BK329.out (by decide)) (fun _ hk => hk.2) (.int .i64 (wrap64 (x330003_3 + t342)))) (fun _ hk => hk.2) (.int .i64 (wrap64 (x330001_3 + 1)))) (fun _ hk => trivial)⟩, ⟨by (with_reducible repeat (first | refine blk_drewN ?_ _ | refine blk_drew ?_ | refine blk_alloc ?_ _)); refine blk_far ?_ NB328_329.out _; (with_reducible repeat (first | refine blk_drewN ?_ _ | refine blk_drew ?_ | refine blk_alloc ?_ _)); refine blk_far ?_ NB328_329.out _; (with_reducible repeat (first | refine blk_drewN ?_ _ | refine blk_drew ?_ | refine blk_alloc ?_ _)); exact BK328.out⟩, ⟨by (with_reducible repeat (first | refine blk_drewN ?_ _ | refine blk_drew ?_ | refine blk_alloc ?_ _)); refine blk_put (cs := #[.int .i64 x330000_2, .int .i64 x330001_3, .int .i64 (wrap64 (x330002_3 + 1)), .int .i64 (wrap64 (x330003_3 + t342))]) ?_ 1 _ rfl; (with_reducible repeat (first | refine blk_drewN ?_ _ | refine blk_drew ?_ | refine blk_alloc ?_ _)); refine blk_put (cs := #[.int .i64 x330000_2, .int .i64 x330001_3, .int .i64 (wrap64 (x330002_3 + 1)), .int .i64 x330003_3]) ?_ 3 _ rfl; (with_reducible repeat (first | refine blk_drewN ?_ _ | refine blk_drew ?_ | refine blk_alloc ?_ _)); exact BK329.out⟩, ⟨by repeat (first | (with_reducible first | exact HB.out | apply below_alloc | apply pw_below_drewN | apply below_drew1 | refine below_set ?_ GE328.out | refine below_set ?_ GE329.out | refine below_set ?_ GE341.out) | exact HB.out)⟩⟩
                          · rw [if_neg c33] at H
                            have c33b0 : decide (x7_2 ≤ ((rd_T32 t337 x46_3).f0)) = false := decide_eq_false c33
                            clear c33
                            have H' := Aside0.mk H
                            clear H
                            have p340 : 0 ≤ (x46_3 : Int) := of_decide_eq_true (by first | (with_reducible assumption) | assumption)
                            have q340 : x46_3 < (t337.length : Int) := of_decide_eq_true (by first | (with_reducible assumption) | assumption)
                            obtain ⟨ad340, e340, hx340_0, hx340_1, hx340_2, hx340_3⟩ := at_T32 (Kd.R_reads' HO_44.out).2.2 x46_3 p340 q340
                            cases e340
                            replace p340 := eq_true p340
                            replace q340 := eq_true q340
                            try go_wp2_with (first | ((with_reducible refine gate_dst (N := 13) rfl ?_); (try (refine gate_guard (by rfl) ?_; dsimp only)); refine box_event ?hg (N := 13) ?hd (cs := #[.int .i64 0, .int .i64 0, .int .i32 0, .bool false]) (t := 32) ?hr ?_; (case hd => rfl); (case hg => rfl); (case hr => first | (go_simp; done) | (go_simp; rfl)); intro gb341 hg w45 hbox hb; have n0_ := Aside0.mk (Kd.R_below (Kd.R_elderB (by (with_reducible repeat (first | apply Kd.R_alloc | apply Kd.R_drewN | apply Kd.R_drew)); exact HO_44.out) gb341 (Nat.le_of_eq hg.symm)) hb); have n1_ := Aside0.mk (blk_below (g := gb328) (o := .cells #[.int .i64 0, .int .i64 0, .int .i64 0, .int .i64 0] 75 (0, 0)) (by (with_reducible repeat (first | refine blk_drewN ?_ _ | refine blk_drew ?_ | refine blk_alloc ?_ _)); exact BK328.out) hb); have n2_ := Aside0.mk (blk_below (g := gb329) (o := .cells #[.int .i64 x330000_2, .int .i64 x330001_3, .int .i64 x330002_3, .int .i64 x330003_3] 75 (0, 0)) (by (with_reducible repeat (first | refine blk_drewN ?_ _ | refine blk_drew ?_ | refine blk_alloc ?_ _)); exact BK329.out) hb); have n3_ := Aside0.mk (below_step (by repeat (first | (with_reducible first | exact HB.out | apply below_alloc | apply pw_below_drewN | apply below_drew1 | refine below_set ?_ GE328.out | refine below_set ?_ GE329.out) | exact HB.out)) hb); have n4_ := Aside0.mk (hbox); have n5_ := Aside0.mk ((by rw [hg]; exact (below_size (by repeat (first | (with_reducible first | exact HB.out | apply below_alloc | apply pw_below_drewN | apply below_drew1 | refine below_set ?_ GE328.out | refine below_set ?_ GE329.out) | exact HB.out))) : w.heap.size ≤ gb341)); have n6_ := Aside0.mk ((by rw [hg]; exact (below_size (by repeat (first | (with_reducible first | exact HB.out | apply below_alloc | apply pw_below_drewN | apply below_drew1 | refine below_set ?_ GE328.out | refine below_set ?_ GE329.out) | exact HB.out))) : w.heap.size ≤ gb341)); have n7_ := Aside0.mk ((by rw [hg]; exact Nat.ne_of_lt (blk_lt (g := gb328) (o := .cells #[.int .i64 0, .int .i64 0, .int .i64 0, .int .i64 0] 75 (0, 0)) (by (with_reducible repeat (first | refine blk_drewN ?_ _ | refine blk_drew ?_ | refine blk_alloc ?_ _)); exact BK328.out)) : gb328 ≠ gb341)); have n8_ := Aside0.mk ((by rw [hg]; exact Nat.ne_of_gt (blk_lt (g := gb328) (o := .cells #[.int .i64 0, .int .i64 0, .int .i64 0, .int .i64 0] 75 (0, 0)) (by (with_reducible repeat (first | refine blk_drewN ?_ _ | refine blk_drew ?_ | refine blk_alloc ?_ _)); exact BK328.out)) : gb341 ≠ gb328)); have n9_ := Aside0.mk ((by rw [hg]; exact Nat.ne_of_lt (blk_lt (g := gb329) (o := .cells #[.int .i64 x330000_2, .int .i64 x330001_3, .int .i64 x330002_3, .int .i64 x330003_3] 75 (0, 0)) (by (with_reducible repeat (first | refine blk_drewN ?_ _ | refine blk_drew ?_ | refine blk_alloc ?_ _)); exact BK329.out)) : gb329 ≠ gb341)); have n10_ := Aside0.mk ((by rw [hg]; exact Nat.ne_of_gt (blk_lt (g := gb329) (o := .cells #[.int .i64 x330000_2, .int .i64 x330001_3, .int .i64 x330002_3, .int .i64 x330003_3] 75 (0, 0)) (by (with_reducible repeat (first | refine blk_drewN ?_ _ | refine blk_drew ?_ | refine blk_alloc ?_ _)); exact BK329.out)) : gb341 ≠ gb329)); clear HO_44; clear BK328; clear BK329; clear HB; have HO_44 := n0_; have BK328 := n1_; have BK329 := n2_; have HB := n3_; have BK341 := n4_; have GW341 := n5_; have GE341 := n6_; have NB328_341 := n7_; have NB341_328 := n8_; have NB329_341 := n9_; have NB341_329 := n10_; clear n0_ n1_ n2_ n3_ n4_ n5_ n6_ n7_ n8_ n9_ n10_; clear hb hbox hg; have hnb46 := NB341_328.out; have hnc46 := NB328_341.out; have hnb47 := NB341_329.out; have hnc47 := NB329_341.out; have hcz48_0 : w45.cell? ⟨gb341, 0, none⟩ = some (.int .i64 0) := (blk_cell BK341.out 0).trans rfl; have hcz48_1 : w45.cell? ⟨gb341, 1, none⟩ = some (.int .i64 0) := (blk_cell BK341.out 1).trans rfl; have hcz48_2 : w45.cell? ⟨gb341, 2, none⟩ = some (.int .i32 0) := (blk_cell BK341.out 2).trans rfl; have hcz48_3 : w45.cell? ⟨gb341, 3, none⟩ = some (.bool false) := (blk_cell BK341.out 3).trans rfl; have hfz48_0 := blk_frozen BK341.out 0; have hfz48_1 := blk_frozen BK341.out 1; have hfz48_2 := blk_frozen BK341.out 2; have hfz48_3 := blk_frozen BK341.out 3; have hnb49 := NB329_328.out; have hnc49 := NB328_329.out; have hcz50_0 : w45.cell? ⟨gb329, 0, none⟩ = some (.int .i64 x330000_2) := (blk_cell BK329.out 0).trans rfl; have hcz50_1 : w45.cell? ⟨gb329, 1, none⟩ = some (.int .i64 x330001_3) := (blk_cell BK329.out 1).trans rfl; have hcz50_2 : w45.cell? ⟨gb329, 2, none⟩ = some (.int .i64 x330002_3) := (blk_cell BK329.out 2).trans rfl; have hcz50_3 : w45.cell? ⟨gb329, 3, none⟩ = some (.int .i64 x330003_3) := (blk_cell BK329.out 3).trans rfl; have hfz50_0 := blk_frozen BK329.out 0; have hfz50_1 := blk_frozen BK329.out 1; have hfz50_2 := blk_frozen BK329.out 2; have hfz50_3 := blk_frozen BK329.out 3))
                            have n0_ : Aside0 (Kd.R k32 32 (((((w45.setCell ⟨gb341, 0, none⟩ (.int .i64 ((rd_T32 t337 x46_3).f0))).setCell ⟨gb341, 1, none⟩ (.int .i64 ((rd_T32 t337 x46_3).f1))).setCell ⟨gb341, 2, none⟩ (.int .i32 ((rd_T32 t337 x46_3).f2))).setCell ⟨gb341, 3, none⟩ (.bool ((rd_T32 t337 x46_3).f3))).setCell ⟨gb329, 2, none⟩ (.int .i64 (wrap64 (x330002_3 + 1)))) w.heap.size (fun k_ => k_ ≠ gb341) (.slice (some ad340) t337.length co20) t337) := ⟨by (with_reducible repeat (first | apply Kd.R_alloc | apply Kd.R_drewN | apply Kd.R_drew)); exact Kd.R_mono (Kd.R_far (p := ⟨gb329, 2, none⟩) (Kd.R_far (p := ⟨gb341, 3, none⟩) (Kd.R_far (p := ⟨gb341, 2, none⟩) (Kd.R_far (p := ⟨gb341, 1, none⟩) (Kd.R_far (p := ⟨gb341, 0, none⟩) (Kd.R_types (Kd.R_mono HO_44.out (fun k_ hk => (⟨hk, hk.2⟩ : _ ∧ k_ ≠ gb341))) BK329.out (by decide)) (fun _ hk => hk.1.2) (.int .i64 ((rd_T32 t337 x46_3).f0))) (fun _ hk => hk.1.2) (.int .i64 ((rd_T32 t337 x46_3).f1))) (fun _ hk => hk.1.2) (.int .i32 ((rd_T32 t337 x46_3).f2))) (fun _ hk => hk.1.2) (.bool ((rd_T32 t337 x46_3).f3))) (fun _ hk => hk.2) (.int .i64 (wrap64 (x330002_3 + 1)))) (fun _ hk => hk.1.1.2)⟩
                            have n1_ : Aside0 ((((((w45.setCell ⟨gb341, 0, none⟩ (.int .i64 ((rd_T32 t337 x46_3).f0))).setCell ⟨gb341, 1, none⟩ (.int .i64 ((rd_T32 t337 x46_3).f1))).setCell ⟨gb341, 2, none⟩ (.int .i32 ((rd_T32 t337 x46_3).f2))).setCell ⟨gb341, 3, none⟩ (.bool ((rd_T32 t337 x46_3).f3))).setCell ⟨gb329, 2, none⟩ (.int .i64 (wrap64 (x330002_3 + 1)))).heap[gb328]? = some (.cells #[.int .i64 0, .int .i64 0, .int .i64 0, .int .i64 0] 75 (0, 0))) := ⟨by (with_reducible repeat (first | refine blk_drewN ?_ _ | refine blk_drew ?_ | refine blk_alloc ?_ _)); refine blk_far ?_ NB328_329.out _; (with_reducible repeat (first | refine blk_drewN ?_ _ | refine blk_drew ?_ | refine blk_alloc ?_ _)); refine blk_far ?_ NB328_341.out _; (with_reducible repeat (first | refine blk_drewN ?_ _ | refine blk_drew ?_ | refine blk_alloc ?_ _)); refine blk_far ?_ NB328_341.out _; (with_reducible repeat (first | refine blk_drewN ?_ _ | refine blk_drew ?_ | refine blk_alloc ?_ _)); refine blk_far ?_ NB328_341.out _; (with_reducible repeat (first | refine blk_drewN ?_ _ | refine blk_drew ?_ | refine blk_alloc ?_ _)); refine blk_far ?_ NB328_341.out _; (with_reducible repeat (first | refine blk_drewN ?_ _ | refine blk_drew ?_ | refine blk_alloc ?_ _)); exact BK328.out⟩
                            have n2_ : Aside0 ((((((w45.setCell ⟨gb341, 0, none⟩ (.int .i64 ((rd_T32 t337 x46_3).f0))).setCell ⟨gb341, 1, none⟩ (.int .i64 ((rd_T32 t337 x46_3).f1))).setCell ⟨gb341, 2, none⟩ (.int .i32 ((rd_T32 t337 x46_3).f2))).setCell ⟨gb341, 3, none⟩ (.bool ((rd_T32 t337 x46_3).f3))).setCell ⟨gb329, 2, none⟩ (.int .i64 (wrap64 (x330002_3 + 1)))).heap[gb329]? = some (.cells #[.int .i64 x330000_2, .int .i64 x330001_3, .int .i64 (wrap64 (x330002_3 + 1)), .int .i64 x330003_3] 75 (0, 0))) := ⟨by (with_reducible repeat (first | refine blk_drewN ?_ _ | refine blk_drew ?_ | refine blk_alloc ?_ _)); refine blk_put (cs := #[.int .i64 x330000_2, .int .i64 x330001_3, .int .i64 x330002_3, .int .i64 x330003_3]) ?_ 2 _ rfl; (with_reducible repeat (first | refine blk_drewN ?_ _ | refine blk_drew ?_ | refine blk_alloc ?_ _)); refine blk_far ?_ NB329_341.out _; (with_reducible repeat (first | refine blk_drewN ?_ _ | refine blk_drew ?_ | refine blk_alloc ?_ _)); refine blk_far ?_ NB329_341.out _; (with_reducible repeat (first | refine blk_drewN ?_ _ | refine blk_drew ?_ | refine blk_alloc ?_ _)); refine blk_far ?_ NB329_341.out _; (with_reducible repeat (first | refine blk_drewN ?_ _ | refine blk_drew ?_ | refine blk_alloc ?_ _)); refine blk_far ?_ NB329_341.out _; (with_reducible repeat (first | refine blk_drewN ?_ _ | refine blk_drew ?_ | refine blk_alloc ?_ _)); exact BK329.out⟩
                            have n3_ : Aside0 ((((((w45.setCell ⟨gb341, 0, none⟩ (.int .i64 ((rd_T32 t337 x46_3).f0))).setCell ⟨gb341, 1, none⟩ (.int .i64 ((rd_T32 t337 x46_3).f1))).setCell ⟨gb341, 2, none⟩ (.int .i32 ((rd_T32 t337 x46_3).f2))).setCell ⟨gb341, 3, none⟩ (.bool ((rd_T32 t337 x46_3).f3))).setCell ⟨gb329, 2, none⟩ (.int .i64 (wrap64 (x330002_3 + 1)))).heap[gb341]? = some (.cells #[.int .i64 ((rd_T32 t337 x46_3).f0), .int .i64 ((rd_T32 t337 x46_3).f1), .int .i32 ((rd_T32 t337 x46_3).f2), .bool ((rd_T32 t337 x46_3).f3)] 32 (0, 0))) := ⟨by (with_reducible repeat (first | refine blk_drewN ?_ _ | refine blk_drew ?_ | refine blk_alloc ?_ _)); refine blk_far ?_ NB341_329.out _; (with_reducible repeat (first | refine blk_drewN ?_ _ | refine blk_drew ?_ | refine blk_alloc ?_ _)); refine blk_put (cs := #[.int .i64 ((rd_T32 t337 x46_3).f0), .int .i64 ((rd_T32 t337 x46_3).f1), .int .i32 ((rd_T32 t337 x46_3).f2), .bool false]) ?_ 3 _ rfl; (with_reducible repeat (first | refine blk_drewN ?_ _ | refine blk_drew ?_ | refine blk_alloc ?_ _)); refine blk_put (cs := #[.int .i64 ((rd_T32 t337 x46_3).f0), .int .i64 ((rd_T32 t337 x46_3).f1), .int .i32 0, .bool false]) ?_ 2 _ rfl; (with_reducible repeat (first | refine blk_drewN ?_ _ | refine blk_drew ?_ | refine blk_alloc ?_ _)); refine blk_put (cs := #[.int .i64 ((rd_T32 t337 x46_3).f0), .int .i64 0, .int .i32 0, .bool false]) ?_ 1 _ rfl; (with_reducible repeat (first | refine blk_drewN ?_ _ | refine blk_drew ?_ | refine blk_alloc ?_ _)); refine blk_put (cs := #[.int .i64 0, .int .i64 0, .int .i32 0, .bool false]) ?_ 0 _ rfl; (with_reducible repeat (first | refine blk_drewN ?_ _ | refine blk_drew ?_ | refine blk_alloc ?_ _)); exact BK341.out⟩
                            have n4_ : Aside0 (Below w.heap.size w (((((w45.setCell ⟨gb341, 0, none⟩ (.int .i64 ((rd_T32 t337 x46_3).f0))).setCell ⟨gb341, 1, none⟩ (.int .i64 ((rd_T32 t337 x46_3).f1))).setCell ⟨gb341, 2, none⟩ (.int .i32 ((rd_T32 t337 x46_3).f2))).setCell ⟨gb341, 3, none⟩ (.bool ((rd_T32 t337 x46_3).f3))).setCell ⟨gb329, 2, none⟩ (.int .i64 (wrap64 (x330002_3 + 1))))) := ⟨by repeat (first | (with_reducible first | exact HB.out | apply below_alloc | apply pw_below_drewN | apply below_drew1 | refine below_set ?_ GE328.out | refine below_set ?_ GE329.out | refine below_set ?_ GE341.out) | exact HB.out)⟩
                            (try clear HO_44)
                            (try clear BK328)
                            (try clear BK329)
                            (try clear BK341)
                            (try clear HB)
                            generalize (((((w45.setCell ⟨gb341, 0, none⟩ (.int .i64 ((rd_T32 t337 x46_3).f0))).setCell ⟨gb341, 1, none⟩ (.int .i64 ((rd_T32 t337 x46_3).f1))).setCell ⟨gb341, 2, none⟩ (.int .i32 ((rd_T32 t337 x46_3).f2))).setCell ⟨gb341, 3, none⟩ (.bool ((rd_T32 t337 x46_3).f3))).setCell ⟨gb329, 2, none⟩ (.int .i64 (wrap64 (x330002_3 + 1)))) = w51 at n0_ n1_ n2_ n3_ n4_ ⊢
                            have HO_44 := n0_
                            have BK328 := n1_
                            have BK329 := n2_
                            have BK341 := n3_
                            have HB := n4_
                            clear n0_ n1_ n2_ n3_ n4_
                            have n0_ := Aside0.mk (Kd.R_drew HO_44.out)
                            have n1_ := Aside0.mk (blk_drew BK328.out)
                            have n2_ := Aside0.mk (blk_drew BK329.out)
                            have n3_ := Aside0.mk (blk_drew BK341.out)
                            have n4_ := Aside0.mk (below_drew1 HB.out)
                            clear HO_44
                            clear BK328
                            clear BK329
                            clear BK341
                            clear HB
                            have HO_44 := n0_
                            have BK328 := n1_
                            have BK329 := n2_
                            have BK341 := n3_
                            have HB := n4_
                            clear n0_ n1_ n2_ n3_ n4_
                            refine start_ (n := 8) (S := fun w' => w'.cell? ⟨gb329, 0, none⟩ = some (.int .i64 x330000_2) ∧ w'.cell? ⟨gb329, 1, none⟩ = some (.int .i64 x330001_3) ∧ w'.cell? ⟨gb329, 2, none⟩ = some (.int .i64 (wrap64 (x330002_3 + 1))) ∧ w'.cell? ⟨gb329, 3, none⟩ = some (.int .i64 x330003_3) ∧ w'.cell? ⟨gb341, 0, none⟩ = some (.int .i64 ((rd_T32 t337 x46_3).f0)) ∧ w'.cell? ⟨gb341, 1, none⟩ = some (.int .i64 ((rd_T32 t337 x46_3).f1)) ∧ w'.cell? ⟨gb341, 2, none⟩ = some (.int .i32 ((rd_T32 t337 x46_3).f2)) ∧ w'.cell? ⟨gb341, 3, none⟩ = some (.bool ((rd_T32 t337 x46_3).f3))) (ds := [7]) #[false, false, false, false, false, false, false, false] (by kernel_rfl) rfl rfl ⟨(blk_cell BK329.out 0).trans rfl, (blk_cell BK329.out 1).trans rfl, (blk_cell BK329.out 2).trans rfl, (blk_cell BK329.out 3).trans rfl, (blk_cell BK341.out 0).trans rfl, (blk_cell BK341.out 1).trans rfl, (blk_cell BK341.out 2).trans rfl, (blk_cell BK341.out 3).trans rfl⟩ (fun hHeld => ?_); refine with_tabW scalar_Position.tab18 scalar_Position.bits18 (fun HT_ HW_ => ?_)
                            generalize w51.drew = w52 at HO_44 BK328 BK329 BK341 HB hHeld ⊢
                            refine pure_ (i := 0) (N := some 58) (v := ?_) (a' := ?_) #[true, false, false, false, false, false, false, false] rfl rfl (any_of HT_.out (by kernel_rfl)) (fun _ _ _ h => h) (Or.inl ⟨by rfl, ?_⟩) ?_ ?_
                            rotate_left
                            · intro w'
                              go_simp
                              with_reducible rfl
                            rotate_left
                            · simp only [Act.put, List.setIfInBounds_toArray, List.set_cons_zero, List.set_cons_succ, i64_w, i32_w]
                              rfl
                            refine pure_ (i := 2) (N := some 60) (v := ?_) (a' := ?_) #[true, false, true, false, false, false, false, false] rfl rfl (any_of HT_.out (by kernel_rfl)) (fun _ _ _ h => h) (Or.inl ⟨by rfl, ?_⟩) ?_ ?_
                            rotate_left
                            · intro w'
                              go_simp
                              with_reducible rfl
                            rotate_left
                            · simp only [Act.put, List.setIfInBounds_toArray, List.set_cons_zero, List.set_cons_succ, i64_w, i32_w]
                              rfl
                            refine take_ (i := 1) (N := some 59) (v := ?_) (a' := ?_) #[true, true, true, false, false, false, false, false] rfl rfl (take_ofW HT_.out HW_.out (by kernel_rfl)) (fun _ _ _ h => h) (Or.inl ⟨by rfl, ?_⟩) hHeld ?_ ?_
                            rotate_left
                            · rintro w' ⟨s0, s1, s2, s3, s4, s5, s6, s7⟩
                              go_simp
                              with_reducible rfl
                            rotate_left
                            · simp only [Act.put, List.setIfInBounds_toArray, List.set_cons_zero, List.set_cons_succ, i64_w, i32_w]
                              rfl
                            refine take_ (i := 3) (N := some 61) (v := ?_) (a' := ?_) #[true, true, true, true, false, false, false, false] rfl rfl (take_ofW HT_.out HW_.out (by kernel_rfl)) (fun _ _ _ h => h) (Or.inl ⟨by rfl, ?_⟩) hHeld ?_ ?_
                            rotate_left
                            · rintro w' ⟨s0, s1, s2, s3, s4, s5, s6, s7⟩
                              go_simp
                              with_reducible rfl
                            rotate_left
                            · simp only [Act.put, List.setIfInBounds_toArray, List.set_cons_zero, List.set_cons_succ, i64_w, i32_w]
                              rfl
                            refine one_ (i := 4) (N := some 62) #[true, true, true, true, true, false, false, false] rfl rfl (one_of HT_.out (by kernel_rfl)) (by decide) (fun K hK => ?_)
                            refine goes_ Tryd.func69 (by kernel_rfl) rfl #[.int .i32 ((rd_T32 t337 x46_3).f2)] (by rfl) rfl rfl (by (try simp only [List.map_toArray, List.map_cons, List.map_nil]); first | done | rfl | (simp only [List.length_drop, List.length_take]; rfl)) ?_
                            with_reducible refine (scalar_units.calls ((rd_T32 t337 x46_3).f2) t342 _ A32.out).mono ?_
                            rintro e w' ⟨rfl, ⟨nd, rfl⟩⟩
                            refine ⟨_, rfl, ?_⟩
                            refine hK.out _ _ ⟨(blk_cell BK329.out 0).trans rfl, (blk_cell BK329.out 1).trans rfl, (blk_cell BK329.out 2).trans rfl, (blk_cell BK329.out 3).trans rfl, (blk_cell BK341.out 0).trans rfl, (blk_cell BK341.out 1).trans rfl, (blk_cell BK341.out 2).trans rfl, (blk_cell BK341.out 3).trans rfl⟩ (fun hHeld => ?_)
                            clear hK K
                            refine norm_ (a' := ?_) ?_ ?_
                            rotate_left
                            · show Act.put _ (some 62) _ = _
                              simp only [Act.put, List.setIfInBounds_toArray, List.set_cons_zero, List.set_cons_succ, i64_w, i32_w]
                              rfl
                            refine pure_ (i := 5) (N := some 63) (v := ?_) (a' := ?_) #[true, true, true, true, true, true, false, false] rfl rfl (any_of HT_.out (by kernel_rfl)) (fun _ _ _ h => h) (Or.inl ⟨by rfl, ?_⟩) ?_ ?_
                            rotate_left
                            · intro w'
                              go_simp
                              with_reducible rfl
                            rotate_left
                            · simp only [Act.put, List.setIfInBounds_toArray, List.set_cons_zero, List.set_cons_succ, i64_w, i32_w]
                              rfl
                            refine pure_ (i := 6) (N := some 64) (v := ?_) (a' := ?_) #[true, true, true, true, true, true, true, false] rfl rfl (any_of HT_.out (by kernel_rfl)) (fun _ _ _ h => h) (Or.inl ⟨by rfl, ?_⟩) ?_ ?_
                            rotate_left
                            · intro w'
                              go_simp
                              with_reducible rfl
                            rotate_left
                            · simp only [Act.put, List.setIfInBounds_toArray, List.set_cons_zero, List.set_cons_succ, i64_w, i32_w]
                              rfl
                            refine last_ (i := 7) (N := none) #[true, true, true, true, true, true, true, true] rfl rfl (one_of HT_.out (by kernel_rfl)) (by decide) (fun K hK => ?_)
                            have hs53 : w52.cell? ⟨gb329, 3, none⟩ = some (.int .i64 x330003_3) := (blk_cell BK329.out 3).trans rfl
                            have hfs53 := blk_frozen BK329.out 3
                            have hns53_0 := NB328_329.out
                            have hns53_2 := NB341_329.out
                            have hms53_0 := NB329_328.out
                            have hms53_2 := NB329_341.out
                            refine skip_ (w1 := ?_) (by rfl) rfl ?_ ?_
                            rotate_left
                            · go_simp
                              rfl
                            refine hK.out _ _ ?_
                            clear hK K
                            refine done_ (done_of HT_.out (by kernel_rfl)) ?_
                            have hcz54_0 : w52.cell? ⟨gb341, 0, none⟩ = some (.int .i64 ((rd_T32 t337 x46_3).f0)) := (blk_cell BK341.out 0).trans rfl
                            have hcz54_1 : w52.cell? ⟨gb341, 1, none⟩ = some (.int .i64 ((rd_T32 t337 x46_3).f1)) := (blk_cell BK341.out 1).trans rfl
                            have hcz54_2 : w52.cell? ⟨gb341, 2, none⟩ = some (.int .i32 ((rd_T32 t337 x46_3).f2)) := (blk_cell BK341.out 2).trans rfl
                            have hcz54_3 : w52.cell? ⟨gb341, 3, none⟩ = some (.bool ((rd_T32 t337 x46_3).f3)) := (blk_cell BK341.out 3).trans rfl
                            have hfz54_0 := blk_frozen BK341.out 0
                            have hfz54_1 := blk_frozen BK341.out 1
                            have hfz54_2 := blk_frozen BK341.out 2
                            have hfz54_3 := blk_frozen BK341.out 3
                            try go_wp2
                            go_roundg k3
                            case measure => have := HJ2.out; have := HK2.out; have := HK3.out; omega
                            case rel => exact ⟨(wrap64 (x46_3 + 1)), (x330001_3), (wrap64 (x330002_3 + 1)), (wrap64 (x330003_3 + t342)), (by first | rfl | (simp; done) | (simp [*]; done)), H', ⟨by have := HJ2.out; have := HK2.out; have := HK3.out; omega⟩, ⟨by (with_reducible repeat (first | apply Kd.R_alloc | apply Kd.R_drewN | apply Kd.R_drew)); exact Kd.R_mono (Kd.R_far (p := ⟨gb329, 3, none⟩) (Kd.R_types HO_44.out BK329.out (by decide)) (fun _ hk => hk.2) (.int .i64 (wrap64 (x330003_3 + t342)))) (fun _ hk => trivial)⟩, ⟨by (with_reducible repeat (first | refine blk_drewN ?_ _ | refine blk_drew ?_ | refine blk_alloc ?_ _)); refine blk_far ?_ NB328_329.out _; (with_reducible repeat (first | refine blk_drewN ?_ _ | refine blk_drew ?_ | refine blk_alloc ?_ _)); exact BK328.out⟩, ⟨by (with_reducible repeat (first | refine blk_drewN ?_ _ | refine blk_drew ?_ | refine blk_alloc ?_ _)); refine blk_put (cs := #[.int .i64 x330000_2, .int .i64 x330001_3, .int .i64 (wrap64 (x330002_3 + 1)), .int .i64 x330003_3]) ?_ 3 _ rfl; (with_reducible repeat (first | refine blk_drewN ?_ _ | refine blk_drew ?_ | refine blk_alloc ?_ _)); exact BK329.out⟩, ⟨by repeat (first | (with_reducible first | exact HB.out | apply below_alloc | apply pw_below_drewN | apply below_drew1 | refine below_set ?_ GE328.out | refine below_set ?_ GE329.out | refine below_set ?_ GE341.out) | exact HB.out)⟩⟩
                      · rw [if_neg c23] at H
                        exact absurd H (by simp)
                    · rw [if_neg c22] at H
                      exact absurd H (by simp)
                  · rw [if_neg c21] at H
                    have c21b0 : decide (x46_3 < (t337.length : Int)) = false := decide_eq_false c21
                    clear c21
                    simp only [Option.some.injEq, Prod.mk.injEq] at H
                    obtain ⟨rfl, rfl, rfl, rfl, rfl⟩ := H
                    have hnb55 := NB329_328.out
                    have hnc55 := NB328_329.out
                    have hcz56_0 : wr.cell? ⟨gb329, 0, none⟩ = some (.int .i64 x330000_2) := (blk_cell BK329.out 0).trans rfl
                    have hcz56_1 : wr.cell? ⟨gb329, 1, none⟩ = some (.int .i64 x330001_3) := (blk_cell BK329.out 1).trans rfl
                    have hcz56_2 : wr.cell? ⟨gb329, 2, none⟩ = some (.int .i64 x330002_3) := (blk_cell BK329.out 2).trans rfl
                    have hcz56_3 : wr.cell? ⟨gb329, 3, none⟩ = some (.int .i64 x330003_3) := (blk_cell BK329.out 3).trans rfl
                    have hfz56_0 := blk_frozen BK329.out 0
                    have hfz56_1 := blk_frozen BK329.out 1
                    have hfz56_2 := blk_frozen BK329.out 2
                    have hfz56_3 := blk_frozen BK329.out 3
                    have hcz57_0 : wr.cell? ⟨gb328, 0, none⟩ = some (.int .i64 0) := (blk_cell BK328.out 0).trans rfl
                    have hcz57_1 : wr.cell? ⟨gb328, 1, none⟩ = some (.int .i64 0) := (blk_cell BK328.out 1).trans rfl
                    have hcz57_2 : wr.cell? ⟨gb328, 2, none⟩ = some (.int .i64 0) := (blk_cell BK328.out 2).trans rfl
                    have hcz57_3 : wr.cell? ⟨gb328, 3, none⟩ = some (.int .i64 0) := (blk_cell BK328.out 3).trans rfl
                    have hfz57_0 := blk_frozen BK328.out 0
                    have hfz57_1 := blk_frozen BK328.out 1
                    have hfz57_2 := blk_frozen BK328.out 2
                    have hfz57_3 := blk_frozen BK328.out 3
                    go_wp2
                    refine bodyPost_ret (results_ct rfl _ _ gb328 75 #[.int .i64 x330000_2, .int .i64 x330001_3, .int .i64 x330002_3, .int .i64 x330003_3] (0, 0) _ rfl (by (with_reducible repeat (first | refine blk_drewN ?_ _ | refine blk_drew ?_ | refine blk_alloc ?_ _)); refine blk_put (cs := #[.int .i64 x330000_2, .int .i64 x330001_3, .int .i64 x330002_3, .int .i64 0]) ?_ 3 _ rfl; (with_reducible repeat (first | refine blk_drewN ?_ _ | refine blk_drew ?_ | refine blk_alloc ?_ _)); refine blk_put (cs := #[.int .i64 x330000_2, .int .i64 x330001_3, .int .i64 0, .int .i64 0]) ?_ 2 _ rfl; (with_reducible repeat (first | refine blk_drewN ?_ _ | refine blk_drew ?_ | refine blk_alloc ?_ _)); refine blk_put (cs := #[.int .i64 x330000_2, .int .i64 0, .int .i64 0, .int .i64 0]) ?_ 1 _ rfl; (with_reducible repeat (first | refine blk_drewN ?_ _ | refine blk_drew ?_ | refine blk_alloc ?_ _)); refine blk_put (cs := #[.int .i64 0, .int .i64 0, .int .i64 0, .int .i64 0]) ?_ 0 _ rfl; (with_reducible repeat (first | refine blk_drewN ?_ _ | refine blk_drew ?_ | refine blk_alloc ?_ _)); exact BK328.out) Tryd.underlying75 rfl (by kernel_rfl)) rfl ?_
                    exact ⟨by first | rfl | (simp [errW_none, errW_some] <;> rfl) | (simp [*, errW_none, errW_some] <;> rfl), by repeat (first | (with_reducible first | exact HB.out | apply below_alloc | apply pw_below_drewN | apply below_drew1 | refine below_set ?_ GE328.out | refine below_set ?_ GE329.out) | exact HB.out)⟩

end Go.Proofs.YtgippjhkimohlaaDoorQ.Sca
