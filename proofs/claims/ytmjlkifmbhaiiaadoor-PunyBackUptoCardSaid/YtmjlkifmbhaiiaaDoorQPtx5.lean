/- What these functions of the program compute, and that they compute it: printed by wip/tools/orac.py over the kit's print.py; merged. -/
import Derived.Test.YtmjlkifmbhaiiaaDoorQPtx0
import Derived.Test.YtmjlkifmbhaiiaaDoorQPtx4
section
namespace Go.Proofs.YtmjlkifmbhaiiaaDoorQ.Pt
open Go.RowKit Go.Proofs.YtmjlkifmbhaiiaaDoorW.PrintWords Go.Proofs.YtmjlkifmbhaiiaaDoorW.PrintLast Go.Proofs.YtmjlkifmbhaiiaaDoorW.PrintMore
attribute [local go_sem] Go.Proofs.YtmjlkifmbhaiiaaDoor.field0_boot
attribute [local go_sem] max2_int min2_int max_two min_two max_three min_three max_four min_four   -- for this text's walks alone
set_option linter.unusedVariables false
set_option linter.unusedSimpArgs false

/-! ### posternref14_Decode: function 16 -/
mutual
def posternref14_Decode.l0 : Nat → ByteArray → Int → Int → Option (List Int × Int × Int)
 | 0, _, _, _ => none
 | k + 1, x0, x5, x6 => if x6 < (x0.size : Int) then (if 0 ≤ x6 then (if (bt x0 x6) = 45 then (posternref14_Decode.l0 k x0 x6 (wrap64 (x6 + 1))) else (posternref14_Decode.l0 k x0 x5 (wrap64 (x6 + 1)))) else (none)) else (posternref14_Decode.l1 k x0 x5 (([] : List Int)) 0)
def posternref14_Decode.l1 : Nat → ByteArray → Int → List Int → Int → Option (List Int × Int × Int)
 | 0, _, _, _, _ => none
 | k + 1, x0, x5, x7, x8 => if x8 < x5 then (if 0 ≤ x8 then (if x8 < (x0.size : Int) then (if (bt x0 x8) > 127 then (some (([] : List Int), x8, 141)) else (if x7.length < 35184372088832 then (posternref14_Decode.l1 k x0 x5 (x7 ++ [wrap32 (bt x0 x8)]) (wrap64 (x8 + 1))) else (none))) else (none)) else (none)) else (if x5 > 0 then (posternref14_Decode.j2 k x0 (wrap64 (x5 + 1)) x7) else (posternref14_Decode.j2 k x0 x5 x7))
def posternref14_Decode.j2 : Nat → ByteArray → Int → List Int → Option (List Int × Int × Int)
 | 0, _, _, _ => none
 | k + 1, x0, x5, x7 => posternref14_Decode.l2 k x0 x5 x7 128 0 72
def posternref14_Decode.l2 : Nat → ByteArray → Int → List Int → Int → Int → Int → Option (List Int × Int × Int)
 | 0, _, _, _, _, _, _ => none
 | k + 1, x0, x5, x7, x9, x10, x11 => if x5 < (x0.size : Int) then (posternref14_Decode.l3 k x0 x5 x7 x9 x10 x11 x10 1 36) else (some (x7, 0, 0))
def posternref14_Decode.l3 : Nat → ByteArray → Int → List Int → Int → Int → Int → Int → Int → Int → Option (List Int × Int × Int)
 | 0, _, _, _, _, _, _, _, _, _ => none
 | k + 1, x0, x5, x7, x9, x10, x11, x12, x13, x14 => if x5 = (x0.size : Int) then (some (([] : List Int), x5, 140)) else (if 0 ≤ x5 then (if x5 < (x0.size : Int) then ((posternref14_Digit.f k (bt x0 x5)).bind fun t188 => (if t188 < 0 then (some (([] : List Int), x5, 140)) else (if (wrap64 (x10 + (wrap64 (t188 * x13)))) > 2147483647 then (some (([] : List Int), x5, 142)) else ((posternref14_threshold.f x14 x11).bind fun t189 => (if t188 < t189 then ((posternref14_Adapt.f k (wrap64 ((wrap64 (x10 + (wrap64 (t188 * x13)))) - x12)) (wrap64 ((x7.length : Int) + 1)) (x12 == 0)).bind fun t190 => (if (wrap64 ((x7.length : Int) + 1)) = 0 then (none) else (if (wrap64 (x9 + (wrap64 (Int.tdiv (wrap64 (x10 + (wrap64 (t188 * x13)))) (wrap64 ((x7.length : Int) + 1)))))) > 1114111 then (some (([] : List Int), x5, 142)) else ((posternref14_scalar.f (wrap32 (wrap64 (x9 + (wrap64 (Int.tdiv (wrap64 (x10 + (wrap64 (t188 * x13)))) (wrap64 ((x7.length : Int) + 1)))))))).bind fun t191 => (if t191 = true then (if x7.length < 35184372088832 then ((some (x7 ++ [0] : List Int)).bind fun y192 => (posternref14_Decode.l4 k x0 x5 y192 (wrap64 (x9 + (wrap64 (Int.tdiv (wrap64 (x10 + (wrap64 (t188 * x13)))) (wrap64 ((x7.length : Int) + 1)))))) (Int.tmod (wrap64 (x10 + (wrap64 (t188 * x13)))) (wrap64 ((x7.length : Int) + 1))) t190 (wrap64 ((y192.length : Int) - 1)))) else (none)) else (some (([] : List Int), x5, 143))))))) else (if (wrap64 (x13 * (wrap64 (36 - t189)))) > 2147483647 then (some (([] : List Int), x5, 142)) else (posternref14_Decode.l3 k x0 (wrap64 (x5 + 1)) x7 x9 (wrap64 (x10 + (wrap64 (t188 * x13)))) x11 x12 (wrap64 (x13 * (wrap64 (36 - t189)))) (wrap64 (x14 + 36))))))))) else (none)) else (none))
def posternref14_Decode.l4 : Nat → ByteArray → Int → List Int → Int → Int → Int → Int → Option (List Int × Int × Int)
 | 0, _, _, _, _, _, _, _ => none
 | k + 1, x0, x5, x7, x9, x10, x11, x18 => if x18 > x10 then (if 0 ≤ (wrap64 (x18 - 1)) then (if (wrap64 (x18 - 1)) < (x7.length : Int) then (if 0 ≤ x18 then (if x18 < (x7.length : Int) then (posternref14_Decode.l4 k x0 x5 (x7.set (x18 : Int).toNat (rd x7 (wrap64 (x18 - 1)))) x9 x10 x11 (wrap64 (x18 - 1))) else (none)) else (none)) else (none)) else (none)) else (if 0 ≤ x10 then (if x10 < (x7.length : Int) then (posternref14_Decode.l2 k x0 (wrap64 (x5 + 1)) (x7.set (x10 : Int).toNat (wrap32 (x9))) x9 (wrap64 (x10 + 1)) x11) else (none)) else (none))
end
def posternref14_Decode.f (k : Nat) (a0 : ByteArray) : Option (List Int × Int × Int) := posternref14_Decode.l0 k a0 0 0
theorem posternref14_Decode.mono_l : ∀ k, (∀ y0 y1 y2, LeO (posternref14_Decode.l0 k y0 y1 y2) (posternref14_Decode.l0 (k + 1) y0 y1 y2)) ∧ (∀ y0 y1 y2 y3, LeO (posternref14_Decode.l1 k y0 y1 y2 y3) (posternref14_Decode.l1 (k + 1) y0 y1 y2 y3)) ∧ (∀ y0 y1 y2, LeO (posternref14_Decode.j2 k y0 y1 y2) (posternref14_Decode.j2 (k + 1) y0 y1 y2)) ∧ (∀ y0 y1 y2 y3 y4 y5, LeO (posternref14_Decode.l2 k y0 y1 y2 y3 y4 y5) (posternref14_Decode.l2 (k + 1) y0 y1 y2 y3 y4 y5)) ∧ (∀ y0 y1 y2 y3 y4 y5 y6 y7 y8, LeO (posternref14_Decode.l3 k y0 y1 y2 y3 y4 y5 y6 y7 y8) (posternref14_Decode.l3 (k + 1) y0 y1 y2 y3 y4 y5 y6 y7 y8)) ∧ (∀ y0 y1 y2 y3 y4 y5 y6, LeO (posternref14_Decode.l4 k y0 y1 y2 y3 y4 y5 y6) (posternref14_Decode.l4 (k + 1) y0 y1 y2 y3 y4 y5 y6))
 | 0 => ⟨fun _ _ _ r h => by simp [posternref14_Decode.l0] at h, fun _ _ _ _ r h => by simp [posternref14_Decode.l1] at h, fun _ _ _ r h => by simp [posternref14_Decode.j2] at h, fun _ _ _ _ _ _ r h => by simp [posternref14_Decode.l2] at h, fun _ _ _ _ _ _ _ _ _ r h => by simp [posternref14_Decode.l3] at h, fun _ _ _ _ _ _ _ r h => by simp [posternref14_Decode.l4] at h⟩
 | k + 1 => by
  obtain ⟨ih0, ih1, ih2, ih3, ih4, ih5⟩ := posternref14_Decode.mono_l k
  refine ⟨?_, ?_, ?_, ?_, ?_, ?_⟩
  ·intro y0 y1 y2
   unfold posternref14_Decode.l0
   repeat' first
   | (with_reducible exact ih0 _ _ _)
   | (with_reducible exact ih1 _ _ _ _)
   | (with_reducible exact ih2 _ _ _)
   | (with_reducible exact ih3 _ _ _ _ _ _)
   | (with_reducible exact ih4 _ _ _ _ _ _ _ _ _)
   | (with_reducible exact ih5 _ _ _ _ _ _ _)
   | (with_reducible exact posternref14_Adapt.mono _ _ _ _)
   | (with_reducible exact posternref14_Digit.mono _ _)
   | (with_reducible exact LeO.refl _)
   | (with_reducible exact LeO.none _)
   | (with_reducible refine LeO.ite ?_ ?_)
   | (with_reducible refine LeO.bind ?_ (fun _ => ?_))
   | exact ih0 _ _ _
   | exact ih1 _ _ _ _
   | exact ih2 _ _ _
   | exact ih3 _ _ _ _ _ _
   | exact ih4 _ _ _ _ _ _ _ _ _
   | exact ih5 _ _ _ _ _ _ _
   | exact posternref14_Adapt.mono _ _ _ _
   | exact posternref14_Digit.mono _ _
   | exact LeO.none _
   | refine LeO.ite ?_ ?_
   | refine LeO.bind ?_ (fun _ => ?_)
  ·intro y0 y1 y2 y3
   unfold posternref14_Decode.l1
   repeat' first
   | (with_reducible exact ih0 _ _ _)
   | (with_reducible exact ih1 _ _ _ _)
   | (with_reducible exact ih2 _ _ _)
   | (with_reducible exact ih3 _ _ _ _ _ _)
   | (with_reducible exact ih4 _ _ _ _ _ _ _ _ _)
   | (with_reducible exact ih5 _ _ _ _ _ _ _)
   | (with_reducible exact posternref14_Adapt.mono _ _ _ _)
   | (with_reducible exact posternref14_Digit.mono _ _)
   | (with_reducible exact LeO.refl _)
   | (with_reducible exact LeO.none _)
   | (with_reducible refine LeO.ite ?_ ?_)
   | (with_reducible refine LeO.bind ?_ (fun _ => ?_))
   | exact ih0 _ _ _
   | exact ih1 _ _ _ _
   | exact ih2 _ _ _
   | exact ih3 _ _ _ _ _ _
   | exact ih4 _ _ _ _ _ _ _ _ _
   | exact ih5 _ _ _ _ _ _ _
   | exact posternref14_Adapt.mono _ _ _ _
   | exact posternref14_Digit.mono _ _
   | exact LeO.none _
   | refine LeO.ite ?_ ?_
   | refine LeO.bind ?_ (fun _ => ?_)
  ·intro y0 y1 y2
   unfold posternref14_Decode.j2
   repeat' first
   | (with_reducible exact ih0 _ _ _)
   | (with_reducible exact ih1 _ _ _ _)
   | (with_reducible exact ih2 _ _ _)
   | (with_reducible exact ih3 _ _ _ _ _ _)
   | (with_reducible exact ih4 _ _ _ _ _ _ _ _ _)
   | (with_reducible exact ih5 _ _ _ _ _ _ _)
   | (with_reducible exact posternref14_Adapt.mono _ _ _ _)
   | (with_reducible exact posternref14_Digit.mono _ _)
   | (with_reducible exact LeO.refl _)
   | (with_reducible exact LeO.none _)
   | (with_reducible refine LeO.ite ?_ ?_)
   | (with_reducible refine LeO.bind ?_ (fun _ => ?_))
   | exact ih0 _ _ _
   | exact ih1 _ _ _ _
   | exact ih2 _ _ _
   | exact ih3 _ _ _ _ _ _
   | exact ih4 _ _ _ _ _ _ _ _ _
   | exact ih5 _ _ _ _ _ _ _
   | exact posternref14_Adapt.mono _ _ _ _
   | exact posternref14_Digit.mono _ _
   | exact LeO.none _
   | refine LeO.ite ?_ ?_
   | refine LeO.bind ?_ (fun _ => ?_)
  ·intro y0 y1 y2 y3 y4 y5
   unfold posternref14_Decode.l2
   repeat' first
   | (with_reducible exact ih0 _ _ _)
   | (with_reducible exact ih1 _ _ _ _)
   | (with_reducible exact ih2 _ _ _)
   | (with_reducible exact ih3 _ _ _ _ _ _)
   | (with_reducible exact ih4 _ _ _ _ _ _ _ _ _)
   | (with_reducible exact ih5 _ _ _ _ _ _ _)
   | (with_reducible exact posternref14_Adapt.mono _ _ _ _)
   | (with_reducible exact posternref14_Digit.mono _ _)
   | (with_reducible exact LeO.refl _)
   | (with_reducible exact LeO.none _)
   | (with_reducible refine LeO.ite ?_ ?_)
   | (with_reducible refine LeO.bind ?_ (fun _ => ?_))
   | exact ih0 _ _ _
   | exact ih1 _ _ _ _
   | exact ih2 _ _ _
   | exact ih3 _ _ _ _ _ _
   | exact ih4 _ _ _ _ _ _ _ _ _
   | exact ih5 _ _ _ _ _ _ _
   | exact posternref14_Adapt.mono _ _ _ _
   | exact posternref14_Digit.mono _ _
   | exact LeO.none _
   | refine LeO.ite ?_ ?_
   | refine LeO.bind ?_ (fun _ => ?_)
  ·intro y0 y1 y2 y3 y4 y5 y6 y7 y8
   unfold posternref14_Decode.l3
   repeat' first
   | (with_reducible exact ih0 _ _ _)
   | (with_reducible exact ih1 _ _ _ _)
   | (with_reducible exact ih2 _ _ _)
   | (with_reducible exact ih3 _ _ _ _ _ _)
   | (with_reducible exact ih4 _ _ _ _ _ _ _ _ _)
   | (with_reducible exact ih5 _ _ _ _ _ _ _)
   | (with_reducible exact posternref14_Adapt.mono _ _ _ _)
   | (with_reducible exact posternref14_Digit.mono _ _)
   | (with_reducible exact LeO.refl _)
   | (with_reducible exact LeO.none _)
   | (with_reducible refine LeO.ite ?_ ?_)
   | (with_reducible refine LeO.bind ?_ (fun _ => ?_))
   | exact ih0 _ _ _
   | exact ih1 _ _ _ _
   | exact ih2 _ _ _
   | exact ih3 _ _ _ _ _ _
   | exact ih4 _ _ _ _ _ _ _ _ _
   | exact ih5 _ _ _ _ _ _ _
   | exact posternref14_Adapt.mono _ _ _ _
   | exact posternref14_Digit.mono _ _
   | exact LeO.none _
   | refine LeO.ite ?_ ?_
   | refine LeO.bind ?_ (fun _ => ?_)
  ·intro y0 y1 y2 y3 y4 y5 y6
   unfold posternref14_Decode.l4
   repeat' first
   | (with_reducible exact ih0 _ _ _)
   | (with_reducible exact ih1 _ _ _ _)
   | (with_reducible exact ih2 _ _ _)
   | (with_reducible exact ih3 _ _ _ _ _ _)
   | (with_reducible exact ih4 _ _ _ _ _ _ _ _ _)
   | (with_reducible exact ih5 _ _ _ _ _ _ _)
   | (with_reducible exact posternref14_Adapt.mono _ _ _ _)
   | (with_reducible exact posternref14_Digit.mono _ _)
   | (with_reducible exact LeO.refl _)
   | (with_reducible exact LeO.none _)
   | (with_reducible refine LeO.ite ?_ ?_)
   | (with_reducible refine LeO.bind ?_ (fun _ => ?_))
   | exact ih0 _ _ _
   | exact ih1 _ _ _ _
   | exact ih2 _ _ _
   | exact ih3 _ _ _ _ _ _
   | exact ih4 _ _ _ _ _ _ _ _ _
   | exact ih5 _ _ _ _ _ _ _
   | exact posternref14_Adapt.mono _ _ _ _
   | exact posternref14_Digit.mono _ _
   | exact LeO.none _
   | refine LeO.ite ?_ ?_
   | refine LeO.bind ?_ (fun _ => ?_)
theorem posternref14_Decode.mono : ∀ a0 k, LeO (posternref14_Decode.f k a0) (posternref14_Decode.f (k + 1) a0) := by
 intro a0 k
 obtain ⟨ih0, ih1, ih2, ih3, ih4, ih5⟩ := posternref14_Decode.mono_l k
 unfold posternref14_Decode.f
 repeat' first
   | (with_reducible exact ih0 _ _ _)
   | (with_reducible exact ih1 _ _ _ _)
   | (with_reducible exact ih2 _ _ _)
   | (with_reducible exact ih3 _ _ _ _ _ _)
   | (with_reducible exact ih4 _ _ _ _ _ _ _ _ _)
   | (with_reducible exact ih5 _ _ _ _ _ _ _)
   | (with_reducible exact posternref14_Adapt.mono _ _ _ _)
   | (with_reducible exact posternref14_Digit.mono _ _)
   | (with_reducible exact LeO.refl _)
   | (with_reducible exact LeO.none _)
   | (with_reducible refine LeO.ite ?_ ?_)
   | (with_reducible refine LeO.bind ?_ (fun _ => ?_))
   | exact ih0 _ _ _
   | exact ih1 _ _ _ _
   | exact ih2 _ _ _
   | exact ih3 _ _ _ _ _ _
   | exact ih4 _ _ _ _ _ _ _ _ _
   | exact ih5 _ _ _ _ _ _ _
   | exact posternref14_Adapt.mono _ _ _ _
   | exact posternref14_Digit.mono _ _
   | exact LeO.none _
   | refine LeO.ite ?_ ?_
   | refine LeO.bind ?_ (fun _ => ?_)
set_option maxHeartbeats 8000000 in
set_option maxRecDepth 100000 in
theorem posternref14_Decode.calls (k : Nat) (a0 : ByteArray) (r1 : List Int) (r2 : Int) (r3 : Int) (w : World) (h : posternref14_Decode.f k a0 = some (r1, r2, r3)) :
  Calls Tryd.prog 16 #[.string a0] w fun e w' => ∃ v0_ : Value, e = .returned (.tuple #[v0_, .int .i64 r2, .int .i64 r3]) ∧ Kd.R (Kd.int .i32) 21 w' w.heap.size (fun _ => True) v0_ r1 ∧ Below w.heap.size w w' := by
 have HB := Aside0.mk (Below.refl w.heap.size w)
 have H : (posternref14_Decode.l0 k a0 0 0) = some (r1, r2, r3) := h
 clear h
 have H' := Aside0.mk H
 clear H
 go_enter Tryd.func16, Tryd.ntmps16
 go_wp2
 go_loopg [5, 6] k (fun kq v5 v6 w' => ∃ (x5_1 : Int) (x6_1 : Int), v5 = .int .i64 x5_1 ∧ v6 = .int .i64 x6_1 ∧ Aside0 (posternref14_Decode.l0 kq a0 x5_1 x6_1 = some (r1, r2, r3)) ∧ Aside0 (kq ≤ k) ∧ Aside0 (Below w.heap.size w w'))
 case atStart => exact ⟨(0), (0), (by first | rfl | (simp; done) | (simp [*]; done)), (by first | rfl | (simp; done) | (simp [*]; done)), H', ⟨Nat.le_refl _⟩, ⟨by repeat (first | (with_reducible first | exact HB.out | apply below_alloc | apply pw_below_drewN | apply below_drew1) | exact HB.out)⟩⟩
 case round =>
  clear H'
  try clear c1
  obtain ⟨x5_1, x6_1, rfl, rfl, HA, HK1, HB⟩ := hrel
  cases gk with
  | zero => exact absurd HA.out (by simp [posternref14_Decode.l0])
  | succ k1 =>
   have H := HA.out
   clear HA
   simp only [posternref14_Decode.l0] at H
   by_cases c2 : x6_1 < (a0.size : Int)
   ·rw [if_pos c2] at H
    have c2b0 : decide (x6_1 < (a0.size : Int)) = true := decide_eq_true c2
    clear c2
    by_cases c3 : 0 ≤ x6_1
    ·rw [if_pos c3] at H
     have c3b0 : decide (0 ≤ x6_1) = true := decide_eq_true c3
     clear c3
     by_cases c5 : (bt a0 x6_1) = 45
     ·rw [if_pos c5] at H
      have c5b0 : ((bt a0 x6_1) == 45) = true := beq_iff_eq.mpr c5
      have c5b1 : ((bt a0 x6_1) != 45) = false := bne_eq_false_iff_eq.mpr c5
      clear c5
      have H' := Aside0.mk H
      clear H
      have p4 : 0 ≤ (x6_1 : Int) := of_decide_eq_true (by first | (with_reducible assumption) | assumption)
      have q4 : x6_1 < (a0.size : Int) := of_decide_eq_true (by first | (with_reducible assumption) | assumption)
      have hx4 := bt_at a0 x6_1
      replace p4 := eq_true p4
      replace q4 := eq_true q4
      go_wp2
      go_roundg k1
      case measure => have := HK1.out; omega
      case rel => exact ⟨(x6_1), (wrap64 (x6_1 + 1)), (by first | rfl | (simp; done) | (simp [*]; done)), (by first | rfl | (simp; done) | (simp [*]; done)), H', ⟨by have := HK1.out; omega⟩, ⟨by repeat (first | (with_reducible first | exact HB.out | apply below_alloc | apply pw_below_drewN | apply below_drew1) | exact HB.out)⟩⟩
     ·rw [if_neg c5] at H
      have c5b0 : ((bt a0 x6_1) == 45) = false := beq_eq_false_iff_ne.mpr c5
      have c5b1 : ((bt a0 x6_1) != 45) = true := bne_iff_ne.mpr c5
      have H' := Aside0.mk H
      clear H
      have p4 : 0 ≤ (x6_1 : Int) := of_decide_eq_true (by first | (with_reducible assumption) | assumption)
      have q4 : x6_1 < (a0.size : Int) := of_decide_eq_true (by first | (with_reducible assumption) | assumption)
      have hx4 := bt_at a0 x6_1
      replace p4 := eq_true p4
      replace q4 := eq_true q4
      go_wp2
      go_roundg k1
      case measure => have := HK1.out; omega
      case rel => exact ⟨(x5_1), (wrap64 (x6_1 + 1)), (by first | rfl | (simp; done) | (simp [*]; done)), (by first | rfl | (simp; done) | (simp [*]; done)), H', ⟨by have := HK1.out; omega⟩, ⟨by repeat (first | (with_reducible first | exact HB.out | apply below_alloc | apply pw_below_drewN | apply below_drew1) | exact HB.out)⟩⟩
    ·rw [if_neg c3] at H
     exact absurd H (by simp)
   ·rw [if_neg c2] at H
    have c2b0 : decide (x6_1 < (a0.size : Int)) = false := decide_eq_false c2
    clear c2
    obtain ⟨y182, hy182⟩ : ∃ y_ : List Int, y_ = (([] : List Int)) := ⟨_, rfl⟩
    replace H : (posternref14_Decode.l1 k1 a0 x5_1 y182 0) = some (r1, r2, r3) := by first | (rw [hy182]; with_reducible exact H) | (have H2_ := (Option.bind_some _ _).symm.trans H; rw [hy182]; with_reducible exact H2_) | (have H2_ := (Option.bind_some _ _).symm.trans H; with_reducible exact H2_) | with_reducible exact H | (rw [hy182]; exact H) | exact H
    have Ny182 := Aside0.mk hy182
    clear hy182
    have H' := Aside0.mk H
    clear H
    go_wp2_with (first | ((with_reducible refine gate_dst (N := 30) rfl ?_); refine Kd.R_lit (Kd.int .i32) _ 21 ?hg (N := 30) ?hd (xs := ([] : List Int)) (inner := []) (ok := fun _ => True) (okp := fun _ => True) ?hr ?hp (fun _ hk => hk) trivial (Below.refl _ _) (Nat.le_refl _) (by simp) ?_; (case hd => rfl); (case hg => rfl); (case hr => first | (go_simp; done) | (go_simp; rfl)); (case hp => exact (Reps.none _ _)); intro v183 w6 ho7 hb hg_ hnew_; clear hg_ hnew_; (first | rw [← Ny182.out] at ho7 | (simp only [Int.reduceToNat] at ho7; rw [← Ny182.out] at ho7)); have n0_ := Aside0.mk (Kd.R_lower ho7 (below_size (by repeat (first | (with_reducible first | exact HB.out | apply below_alloc | apply pw_below_drewN | apply below_drew1) | exact HB.out)))); have n1_ := Aside0.mk (below_step (by repeat (first | (with_reducible first | exact HB.out | apply below_alloc | apply pw_below_drewN | apply below_drew1) | exact HB.out)) hb); clear HB; have HO184 := n0_; have HB := n1_; clear n0_ n1_; clear hb ho7))
    go_loopg [7, 8] k1 (fun kq v7 v8 w' => ∃ (x7_2 : List Int) (x8_2 : Int), v8 = .int .i64 x8_2 ∧ Aside0 (posternref14_Decode.l1 kq a0 x5_1 x7_2 x8_2 = some (r1, r2, r3)) ∧ Aside0 (kq ≤ k1) ∧ Aside0 (Kd.R (Kd.int .i32) 21 w' w.heap.size (fun _ => True) v7 x7_2) ∧ Aside0 (Below w.heap.size w w'))
    case atStart => exact ⟨(y182), (0), (by first | rfl | (simp; done) | (simp [*]; done)), H', ⟨Nat.le_refl _⟩, ⟨by (with_reducible repeat (first | apply Kd.R_alloc | apply Kd.R_drewN | apply Kd.R_drew)); exact HO184.out⟩, ⟨by repeat (first | (with_reducible first | exact HB.out | apply below_alloc | apply pw_below_drewN | apply below_drew1) | exact HB.out)⟩⟩
    case round =>
     clear H'
     try clear c1
     try clear c2
     try clear c2b0
     try clear p2
     try clear c3
     try clear c3b0
     try clear p4
     try clear q4
     try clear hx4
     try clear c5
     try clear c5b0
     try clear c5b1
     try clear p6
     try clear p4
     try clear q4
     obtain ⟨x7_2, x8_2, rfl, HA, HK2, HO_7, HB⟩ := hrel
     cases gk with
     | zero => exact absurd HA.out (by simp [posternref14_Decode.l1])
     | succ k2 =>
      have H := HA.out
      clear HA
      simp only [posternref14_Decode.l1] at H
      by_cases c8 : x8_2 < x5_1
      ·rw [if_pos c8] at H
       have c8b0 : decide (x8_2 < x5_1) = true := decide_eq_true c8
       clear c8
       by_cases c9 : 0 ≤ x8_2
       ·rw [if_pos c9] at H
        have c9b0 : decide (0 ≤ x8_2) = true := decide_eq_true c9
        clear c9
        by_cases c10 : x8_2 < (a0.size : Int)
        ·rw [if_pos c10] at H
         have c10b0 : decide (x8_2 < (a0.size : Int)) = true := decide_eq_true c10
         clear c10
         by_cases c12 : (bt a0 x8_2) > 127
         ·rw [if_pos c12] at H
          have c12b0 : decide (127 < (bt a0 x8_2)) = true := decide_eq_true c12
          clear c12
          simp only [Option.some.injEq, Prod.mk.injEq] at H
          obtain ⟨rfl, rfl, rfl⟩ := H
          have p11 : 0 ≤ (x8_2 : Int) := of_decide_eq_true (by first | (with_reducible assumption) | assumption)
          have q11 : x8_2 < (a0.size : Int) := of_decide_eq_true (by first | (with_reducible assumption) | assumption)
          have hx11 := bt_at a0 x8_2
          replace p11 := eq_true p11
          replace q11 := eq_true q11
          go_wp2
          go_ret3
          exact ⟨_, by first | rfl | (simp [errW_none, errW_some] <;> rfl) | (simp [*, errW_none, errW_some] <;> rfl), by first | exact Kd.R_nil _ _ _ _ _ | exact Kd.N_nil _ _ _ _ _ | exact Kd.V_nil _ _ _ _ _ | exact Kd.Q_nil _ _ _ _ _ | exact Kd.S_nil _ _ _ _ _, by repeat (first | (with_reducible first | exact HB.out | apply below_alloc | apply pw_below_drewN | apply below_drew1) | exact HB.out)⟩
         ·rw [if_neg c12] at H
          have c12b0 : decide (127 < (bt a0 x8_2)) = false := decide_eq_false c12
          clear c12
          by_cases c14 : x7_2.length < 35184372088832
          ·rw [if_pos c14] at H
           have LMc14 := Aside0.mk c14
           clear c14
           obtain ⟨y185, hy185⟩ : ∃ y_ : List Int, y_ = (x7_2 ++ [wrap32 (bt a0 x8_2)]) := ⟨_, rfl⟩
           replace H : (posternref14_Decode.l1 k2 a0 x5_1 y185 (wrap64 (x8_2 + 1))) = some (r1, r2, r3) := by first | (rw [hy185]; with_reducible exact H) | (have H2_ := (Option.bind_some _ _).symm.trans H; rw [hy185]; with_reducible exact H2_) | (have H2_ := (Option.bind_some _ _).symm.trans H; with_reducible exact H2_) | with_reducible exact H | (rw [hy185]; exact H) | exact H
           have Ny185 := Aside0.mk hy185
           clear hy185
           have H' := Aside0.mk H
           clear H
           have p11 : 0 ≤ (x8_2 : Int) := of_decide_eq_true (by first | (with_reducible assumption) | assumption)
           have q11 : x8_2 < (a0.size : Int) := of_decide_eq_true (by first | (with_reducible assumption) | assumption)
           have hx11 := bt_at a0 x8_2
           replace p11 := eq_true p11
           replace q11 := eq_true q11
           have p13 : 0 ≤ (x8_2 : Int) := of_decide_eq_true (by first | (with_reducible assumption) | assumption)
           have q13 : x8_2 < (a0.size : Int) := of_decide_eq_true (by first | (with_reducible assumption) | assumption)
           have hx13 := bt_at a0 x8_2
           replace p13 := eq_true p13
           replace q13 := eq_true q13
           go_wp2_with (first | ((with_reducible refine gate_builtin (b := .append) (xs := #[.tmp 41, .tmp 46]) rfl ?_); at_builtin; refine Kd.R_append (Kd.int .i32) (w0 := w) w.heap.size rfl (.tmp 41) (.tmp 46) 22 21 (.int .i32 0) 4 rfl Tryd.underlying22 info21 rfl (by decide) (by omega) u7 x7_2 (wrap32 (bt a0 x8_2)) [.int .i32 (wrap32 (bt a0 x8_2))] (fun _ => True) (fun _ => False) rfl rfl ?aP (fun _ hk => hk.elim) ?aF ?aO ?aB ?aS ?aL ?_; (case aP => exact rfl); (case aB => exact (by repeat (first | (with_reducible first | exact HB.out | apply below_alloc | apply pw_below_drewN | apply below_drew1) | exact HB.out))); (case aF => exact (fun _ _ => trivial)); (case aO => exact (by (with_reducible repeat (first | apply Kd.R_alloc | apply Kd.R_drewN | apply Kd.R_drew)); exact HO_7.out)); (case aS => exact (below_size (by repeat (first | (with_reducible first | exact HB.out | apply below_alloc | apply pw_below_drewN | apply below_drew1) | exact HB.out)))); (case aL => have := LMc14.out; omega); intro v186 w15 ho hb hg hat; rw [← Ny185.out] at ho; have n0_ := Aside0.mk (hb); have n1_ := Aside0.mk (ho); clear HB; clear HO_7; have HB := n0_; have HO187 := n1_; clear n0_ n1_; clear ho hb hg hat))
           go_roundg k2
           case measure => have := HK1.out; have := HK2.out; omega
           case rel => exact ⟨(y185), (wrap64 (x8_2 + 1)), (by first | rfl | (simp; done) | (simp [*]; done)), H', ⟨by have := HK1.out; have := HK2.out; omega⟩, ⟨by (with_reducible repeat (first | apply Kd.R_alloc | apply Kd.R_drewN | apply Kd.R_drew)); exact HO187.out⟩, ⟨by repeat (first | (with_reducible first | exact HB.out | apply below_alloc | apply pw_below_drewN | apply below_drew1) | exact HB.out)⟩⟩
          ·rw [if_neg c14] at H
           exact absurd H (by simp)
        ·rw [if_neg c10] at H
         exact absurd H (by simp)
       ·rw [if_neg c9] at H
        exact absurd H (by simp)
      ·rw [if_neg c8] at H
       have c8b0 : decide (x8_2 < x5_1) = false := decide_eq_false c8
       clear c8
       have HC16 := Aside0.mk H
       clear H
       go_upto_if 49 with (fail)
       go_cut [5] (fun v5 wc => ∃ (kq : Nat) (x5_15 : Int), v5 = .int .i64 x5_15 ∧ Aside0 (posternref14_Decode.j2 kq a0 x5_15 x7_2 = some (r1, r2, r3)) ∧ Aside0 (kq ≤ k2) ∧ Aside0 (Kd.R (Kd.int .i32) 21 wc w.heap.size (fun _ => True) u7 x7_2) ∧ Aside0 (Below w.heap.size w wc))
       case first =>
        have H := HC16.out
        clear HC16
        by_cases c17 : x5_1 > 0
        ·rw [if_pos c17] at H
         have c17b0 : decide (0 < x5_1) = true := decide_eq_true c17
         clear c17
         (first | rw [c17b0] | rw [c17b1] | (simp only [i64_w, i32_w]; rw [c17b0]) | skip)
         have H' := Aside0.mk H
         clear H
         go_wp2
         go_meet
         case rel => exact ⟨_, (wrap64 (x5_1 + 1)), (by first | rfl | (simp; done) | (simp [*]; done)), H', ⟨by have := HK1.out; have := HK2.out; first | omega | exact Nat.le_refl _⟩, ⟨by (with_reducible repeat (first | apply Kd.R_alloc | apply Kd.R_drewN | apply Kd.R_drew)); exact HO_7.out⟩, ⟨by repeat (first | (with_reducible first | exact HB.out | apply below_alloc | apply pw_below_drewN | apply below_drew1) | exact HB.out)⟩⟩
        ·rw [if_neg c17] at H
         have c17b0 : decide (0 < x5_1) = false := decide_eq_false c17
         clear c17
         (first | rw [c17b0] | rw [c17b1] | (simp only [i64_w, i32_w]; rw [c17b0]) | skip)
         have H' := Aside0.mk H
         clear H
         go_wp2
         go_meet
         case rel => exact ⟨_, (x5_1), (by first | rfl | (simp; done) | (simp [*]; done)), H', ⟨by have := HK1.out; have := HK2.out; first | omega | exact Nat.le_refl _⟩, ⟨by (with_reducible repeat (first | apply Kd.R_alloc | apply Kd.R_drewN | apply Kd.R_drew)); exact HO_7.out⟩, ⟨by repeat (first | (with_reducible first | exact HB.out | apply below_alloc | apply pw_below_drewN | apply below_drew1) | exact HB.out)⟩⟩
       case rest =>
        clear HC16
        try clear c1
        try clear p1
        try clear q1
        try clear hx1
        try clear c2
        try clear c2b0
        try clear p2
        try clear c3
        try clear c3b0
        try clear p3
        try clear p4
        try clear q4
        try clear hx4
        try clear c5
        try clear c5b0
        try clear c5b1
        try clear p6
        try clear c8
        try clear c8b0
        try clear c9
        try clear c9b0
        try clear c10
        try clear c10b0
        try clear p11
        try clear q11
        try clear hx11
        try clear c12
        try clear c12b0
        try clear p13
        try clear q13
        try clear hx13
        try clear c14
        try clear c16
        try clear c17
        try clear c17b0
        try clear p11
        try clear p13
        try clear p2
        try clear p4
        try clear p6
        try clear q11
        try clear q13
        try clear q4
        obtain ⟨kq, x5_15, rfl, HA, HJ15, HO_7, HB⟩ := hcut
        cases kq with
        | zero => exact absurd HA.out (by simp [posternref14_Decode.j2])
        | succ kj15 =>
         have H := HA.out
         clear HA
         simp only [posternref14_Decode.j2] at H
         have H' := Aside0.mk H
         clear H
         go_wp2
         go_loopg [5, 7, 9, 10, 11] kj15 (fun kq v5 v7 v9 v10 v11 w' => ∃ (x5_4 : Int) (x7_4 : List Int) (x9_4 : Int) (x10_4 : Int) (x11_4 : Int), v5 = .int .i64 x5_4 ∧ v9 = .int .i64 x9_4 ∧ v10 = .int .i64 x10_4 ∧ v11 = .int .i64 x11_4 ∧ Aside0 (posternref14_Decode.l2 kq a0 x5_4 x7_4 x9_4 x10_4 x11_4 = some (r1, r2, r3)) ∧ Aside0 (kq ≤ kj15) ∧ Aside0 (Kd.R (Kd.int .i32) 21 w' w.heap.size (fun _ => True) v7 x7_4) ∧ Aside0 (Below w.heap.size w w'))
         case atStart => exact ⟨(x5_15), (x7_2), (128), (0), (72), (by first | rfl | (simp; done) | (simp [*]; done)), (by first | rfl | (simp; done) | (simp [*]; done)), (by first | rfl | (simp; done) | (simp [*]; done)), (by first | rfl | (simp; done) | (simp [*]; done)), H', ⟨Nat.le_refl _⟩, ⟨by (with_reducible repeat (first | apply Kd.R_alloc | apply Kd.R_drewN | apply Kd.R_drew)); exact HO_7.out⟩, ⟨by repeat (first | (with_reducible first | exact HB.out | apply below_alloc | apply pw_below_drewN | apply below_drew1) | exact HB.out)⟩⟩
         case round =>
          clear H'
          try clear c1
          try clear p1
          try clear q1
          try clear hx1
          try clear c2
          try clear c2b0
          try clear p2
          try clear c3
          try clear c3b0
          try clear p3
          try clear p4
          try clear q4
          try clear hx4
          try clear c5
          try clear c5b0
          try clear c5b1
          try clear p6
          try clear c8
          try clear c8b0
          try clear c9
          try clear c9b0
          try clear c10
          try clear c10b0
          try clear p11
          try clear q11
          try clear hx11
          try clear c12
          try clear c12b0
          try clear p13
          try clear q13
          try clear hx13
          try clear c14
          try clear c16
          try clear c17
          try clear c17b0
          try clear p1
          try clear p11
          try clear p13
          try clear p2
          try clear p3
          try clear p4
          try clear p6
          try clear q1
          try clear q11
          try clear q13
          try clear q4
          obtain ⟨x5_4, x7_4, x9_4, x10_4, x11_4, rfl, rfl, rfl, rfl, HA, HK4, HO_7, HB⟩ := hrel
          cases gk with
          | zero => exact absurd HA.out (by simp [posternref14_Decode.l2])
          | succ k4 =>
           have H := HA.out
           clear HA
           simp only [posternref14_Decode.l2] at H
           by_cases c18 : x5_4 < (a0.size : Int)
           ·rw [if_pos c18] at H
            have c18b0 : decide (x5_4 < (a0.size : Int)) = true := decide_eq_true c18
            clear c18
            have H' := Aside0.mk H
            clear H
            go_wp2
            go_loopg [5, 10, 13, 14] k4 (fun kq v5 v10 v13 v14 w' => ∃ (x5_5 : Int) (x10_5 : Int) (x13_5 : Int) (x14_5 : Int), v5 = .int .i64 x5_5 ∧ v10 = .int .i64 x10_5 ∧ v13 = .int .i64 x13_5 ∧ v14 = .int .i64 x14_5 ∧ Aside0 (posternref14_Decode.l3 kq a0 x5_5 x7_4 x9_4 x10_5 x11_4 x10_4 x13_5 x14_5 = some (r1, r2, r3)) ∧ Aside0 (kq ≤ k4) ∧ Aside0 (Kd.R (Kd.int .i32) 21 w' w.heap.size (fun _ => True) u7 x7_4) ∧ Aside0 (Below w.heap.size w w'))
            case atStart => exact ⟨(x5_4), (x10_4), (1), (36), (by first | rfl | (simp; done) | (simp [*]; done)), (by first | rfl | (simp; done) | (simp [*]; done)), (by first | rfl | (simp; done) | (simp [*]; done)), (by first | rfl | (simp; done) | (simp [*]; done)), H', ⟨Nat.le_refl _⟩, ⟨by (with_reducible repeat (first | apply Kd.R_alloc | apply Kd.R_drewN | apply Kd.R_drew)); exact HO_7.out⟩, ⟨by repeat (first | (with_reducible first | exact HB.out | apply below_alloc | apply pw_below_drewN | apply below_drew1) | exact HB.out)⟩⟩
            case round =>
             clear H'
             try clear c1
             try clear p1
             try clear q1
             try clear hx1
             try clear c2
             try clear c2b0
             try clear p2
             try clear c3
             try clear c3b0
             try clear p3
             try clear p4
             try clear q4
             try clear hx4
             try clear c5
             try clear c5b0
             try clear c5b1
             try clear p6
             try clear c8
             try clear c8b0
             try clear c9
             try clear c9b0
             try clear c10
             try clear c10b0
             try clear p11
             try clear q11
             try clear hx11
             try clear c12
             try clear c12b0
             try clear p13
             try clear q13
             try clear hx13
             try clear c14
             try clear c16
             try clear c17
             try clear c17b0
             try clear c18
             try clear c18b0
             try clear p1
             try clear p11
             try clear p13
             try clear p2
             try clear p3
             try clear p4
             try clear p6
             try clear q1
             try clear q11
             try clear q13
             try clear q4
             obtain ⟨x5_5, x10_5, x13_5, x14_5, rfl, rfl, rfl, rfl, HA, HK5, HO_7, HB⟩ := hrel
             cases gk with
             | zero => exact absurd HA.out (by simp [posternref14_Decode.l3])
             | succ k5 =>
              have H := HA.out
              clear HA
              simp only [posternref14_Decode.l3] at H
              by_cases c19 : x5_5 = (a0.size : Int)
              ·rw [if_pos c19] at H
               have c19b0 : (x5_5 == (a0.size : Int)) = true := beq_iff_eq.mpr c19
               have c19b1 : (x5_5 != (a0.size : Int)) = false := bne_eq_false_iff_eq.mpr c19
               clear c19
               simp only [Option.some.injEq, Prod.mk.injEq] at H
               obtain ⟨rfl, rfl, rfl⟩ := H
               go_wp2
               go_ret3
               exact ⟨_, by first | rfl | (simp [errW_none, errW_some] <;> rfl) | (simp [*, errW_none, errW_some] <;> rfl), by first | exact Kd.R_nil _ _ _ _ _ | exact Kd.N_nil _ _ _ _ _ | exact Kd.V_nil _ _ _ _ _ | exact Kd.Q_nil _ _ _ _ _ | exact Kd.S_nil _ _ _ _ _, by repeat (first | (with_reducible first | exact HB.out | apply below_alloc | apply pw_below_drewN | apply below_drew1) | exact HB.out)⟩
              ·rw [if_neg c19] at H
               have c19b0 : (x5_5 == (a0.size : Int)) = false := beq_eq_false_iff_ne.mpr c19
               have c19b1 : (x5_5 != (a0.size : Int)) = true := bne_iff_ne.mpr c19
               by_cases c20 : 0 ≤ x5_5
               ·rw [if_pos c20] at H
                have c20b0 : decide (0 ≤ x5_5) = true := decide_eq_true c20
                clear c20
                by_cases c21 : x5_5 < (a0.size : Int)
                ·rw [if_pos c21] at H
                 have c21b0 : decide (x5_5 < (a0.size : Int)) = true := decide_eq_true c21
                 clear c21
                 replace H := Option.bind_eq_some_iff.mp H
                 obtain ⟨t188, A230, H⟩ := H
                 replace H : (if t188 < 0 then (some (([] : List Int), x5_5, 140)) else (if (wrap64 (x10_5 + (wrap64 (t188 * x13_5)))) > 2147483647 then (some (([] : List Int), x5_5, 142)) else ((posternref14_threshold.f x14_5 x11_4).bind fun t189 => (if t188 < t189 then ((posternref14_Adapt.f k5 (wrap64 ((wrap64 (x10_5 + (wrap64 (t188 * x13_5)))) - x10_4)) (wrap64 ((x7_4.length : Int) + 1)) (x10_4 == 0)).bind fun t190 => (if (wrap64 ((x7_4.length : Int) + 1)) = 0 then (none) else (if (wrap64 (x9_4 + (wrap64 (Int.tdiv (wrap64 (x10_5 + (wrap64 (t188 * x13_5)))) (wrap64 ((x7_4.length : Int) + 1)))))) > 1114111 then (some (([] : List Int), x5_5, 142)) else ((posternref14_scalar.f (wrap32 (wrap64 (x9_4 + (wrap64 (Int.tdiv (wrap64 (x10_5 + (wrap64 (t188 * x13_5)))) (wrap64 ((x7_4.length : Int) + 1)))))))).bind fun t191 => (if t191 = true then (if x7_4.length < 35184372088832 then ((some (x7_4 ++ [0] : List Int)).bind fun y192 => (posternref14_Decode.l4 k5 a0 x5_5 y192 (wrap64 (x9_4 + (wrap64 (Int.tdiv (wrap64 (x10_5 + (wrap64 (t188 * x13_5)))) (wrap64 ((x7_4.length : Int) + 1)))))) (Int.tmod (wrap64 (x10_5 + (wrap64 (t188 * x13_5)))) (wrap64 ((x7_4.length : Int) + 1))) t190 (wrap64 ((y192.length : Int) - 1)))) else (none)) else (some (([] : List Int), x5_5, 143))))))) else (if (wrap64 (x13_5 * (wrap64 (36 - t189)))) > 2147483647 then (some (([] : List Int), x5_5, 142)) else (posternref14_Decode.l3 k5 a0 (wrap64 (x5_5 + 1)) x7_4 x9_4 (wrap64 (x10_5 + (wrap64 (t188 * x13_5)))) x11_4 x10_4 (wrap64 (x13_5 * (wrap64 (36 - t189)))) (wrap64 (x14_5 + 36)))))))) = some (r1, r2, r3) := H
                 have A23 := Aside0.mk A230
                 clear A230
                 by_cases c24 : t188 < 0
                 ·rw [if_pos c24] at H
                  have c24b0 : decide (t188 < 0) = true := decide_eq_true c24
                  clear c24
                  simp only [Option.some.injEq, Prod.mk.injEq] at H
                  obtain ⟨rfl, rfl, rfl⟩ := H
                  have p22 : 0 ≤ (x5_5 : Int) := of_decide_eq_true (by first | (with_reducible assumption) | assumption)
                  have q22 : x5_5 < (a0.size : Int) := of_decide_eq_true (by first | (with_reducible assumption) | assumption)
                  have hx22 := bt_at a0 x5_5
                  replace p22 := eq_true p22
                  replace q22 := eq_true q22
                  go_wp2_with (first | ((with_reducible refine gate_callee (f := 19) rfl ?_); refine goesL_ (some 65) rfl rfl Tryd.func19 (by kernel_rfl) rfl #[.int .u8 (bt a0 x5_5)] rfl (by (try simp only [List.map_toArray, List.map_cons, List.map_nil]); first | done | rfl | (simp only [List.length_drop, List.length_take]; rfl)) ?_; (with_reducible refine (posternref14_Digit.calls k5 (bt a0 x5_5) t188 _ A23.out).mono ?_); rintro e w' ⟨rfl, ⟨nd, rfl⟩⟩; refine ⟨_, rfl, ?_⟩))
                  go_ret3
                  exact ⟨_, by first | rfl | (simp [errW_none, errW_some] <;> rfl) | (simp [*, errW_none, errW_some] <;> rfl), by first | exact Kd.R_nil _ _ _ _ _ | exact Kd.N_nil _ _ _ _ _ | exact Kd.V_nil _ _ _ _ _ | exact Kd.Q_nil _ _ _ _ _ | exact Kd.S_nil _ _ _ _ _, by repeat (first | (with_reducible first | exact HB.out | apply below_alloc | apply pw_below_drewN | apply below_drew1) | exact HB.out)⟩
                 ·rw [if_neg c24] at H
                  have c24b0 : decide (t188 < 0) = false := decide_eq_false c24
                  clear c24
                  by_cases c25 : (wrap64 (x10_5 + (wrap64 (t188 * x13_5)))) > 2147483647
                  ·rw [if_pos c25] at H
                   have c25b0 : decide (2147483647 < (wrap64 (x10_5 + (wrap64 (t188 * x13_5))))) = true := decide_eq_true c25
                   clear c25
                   simp only [Option.some.injEq, Prod.mk.injEq] at H
                   obtain ⟨rfl, rfl, rfl⟩ := H
                   have p22 : 0 ≤ (x5_5 : Int) := of_decide_eq_true (by first | (with_reducible assumption) | assumption)
                   have q22 : x5_5 < (a0.size : Int) := of_decide_eq_true (by first | (with_reducible assumption) | assumption)
                   have hx22 := bt_at a0 x5_5
                   replace p22 := eq_true p22
                   replace q22 := eq_true q22
                   go_wp2_with (first | ((with_reducible refine gate_callee (f := 19) rfl ?_); refine goesL_ (some 65) rfl rfl Tryd.func19 (by kernel_rfl) rfl #[.int .u8 (bt a0 x5_5)] rfl (by (try simp only [List.map_toArray, List.map_cons, List.map_nil]); first | done | rfl | (simp only [List.length_drop, List.length_take]; rfl)) ?_; (with_reducible refine (posternref14_Digit.calls k5 (bt a0 x5_5) t188 _ A23.out).mono ?_); rintro e w' ⟨rfl, ⟨nd, rfl⟩⟩; refine ⟨_, rfl, ?_⟩))
                   go_ret3
                   exact ⟨_, by first | rfl | (simp [errW_none, errW_some] <;> rfl) | (simp [*, errW_none, errW_some] <;> rfl), by first | exact Kd.R_nil _ _ _ _ _ | exact Kd.N_nil _ _ _ _ _ | exact Kd.V_nil _ _ _ _ _ | exact Kd.Q_nil _ _ _ _ _ | exact Kd.S_nil _ _ _ _ _, by repeat (first | (with_reducible first | exact HB.out | apply below_alloc | apply pw_below_drewN | apply below_drew1) | exact HB.out)⟩
                  ·rw [if_neg c25] at H
                   have c25b0 : decide (2147483647 < (wrap64 (x10_5 + (wrap64 (t188 * x13_5))))) = false := decide_eq_false c25
                   clear c25
                   replace H := Option.bind_eq_some_iff.mp H
                   obtain ⟨t189, A260, H⟩ := H
                   replace H : (if t188 < t189 then ((posternref14_Adapt.f k5 (wrap64 ((wrap64 (x10_5 + (wrap64 (t188 * x13_5)))) - x10_4)) (wrap64 ((x7_4.length : Int) + 1)) (x10_4 == 0)).bind fun t190 => (if (wrap64 ((x7_4.length : Int) + 1)) = 0 then (none) else (if (wrap64 (x9_4 + (wrap64 (Int.tdiv (wrap64 (x10_5 + (wrap64 (t188 * x13_5)))) (wrap64 ((x7_4.length : Int) + 1)))))) > 1114111 then (some (([] : List Int), x5_5, 142)) else ((posternref14_scalar.f (wrap32 (wrap64 (x9_4 + (wrap64 (Int.tdiv (wrap64 (x10_5 + (wrap64 (t188 * x13_5)))) (wrap64 ((x7_4.length : Int) + 1)))))))).bind fun t191 => (if t191 = true then (if x7_4.length < 35184372088832 then ((some (x7_4 ++ [0] : List Int)).bind fun y192 => (posternref14_Decode.l4 k5 a0 x5_5 y192 (wrap64 (x9_4 + (wrap64 (Int.tdiv (wrap64 (x10_5 + (wrap64 (t188 * x13_5)))) (wrap64 ((x7_4.length : Int) + 1)))))) (Int.tmod (wrap64 (x10_5 + (wrap64 (t188 * x13_5)))) (wrap64 ((x7_4.length : Int) + 1))) t190 (wrap64 ((y192.length : Int) - 1)))) else (none)) else (some (([] : List Int), x5_5, 143))))))) else (if (wrap64 (x13_5 * (wrap64 (36 - t189)))) > 2147483647 then (some (([] : List Int), x5_5, 142)) else (posternref14_Decode.l3 k5 a0 (wrap64 (x5_5 + 1)) x7_4 x9_4 (wrap64 (x10_5 + (wrap64 (t188 * x13_5)))) x11_4 x10_4 (wrap64 (x13_5 * (wrap64 (36 - t189)))) (wrap64 (x14_5 + 36))))) = some (r1, r2, r3) := H
                   have A26 := Aside0.mk A260
                   clear A260
                   by_cases c27 : t188 < t189
                   ·rw [if_pos c27] at H
                    have c27b0 : decide (t188 < t189) = true := decide_eq_true c27
                    clear c27
                    replace H := Option.bind_eq_some_iff.mp H
                    obtain ⟨t190, A280, H⟩ := H
                    replace H : (if (wrap64 ((x7_4.length : Int) + 1)) = 0 then (none) else (if (wrap64 (x9_4 + (wrap64 (Int.tdiv (wrap64 (x10_5 + (wrap64 (t188 * x13_5)))) (wrap64 ((x7_4.length : Int) + 1)))))) > 1114111 then (some (([] : List Int), x5_5, 142)) else ((posternref14_scalar.f (wrap32 (wrap64 (x9_4 + (wrap64 (Int.tdiv (wrap64 (x10_5 + (wrap64 (t188 * x13_5)))) (wrap64 ((x7_4.length : Int) + 1)))))))).bind fun t191 => (if t191 = true then (if x7_4.length < 35184372088832 then ((some (x7_4 ++ [0] : List Int)).bind fun y192 => (posternref14_Decode.l4 k5 a0 x5_5 y192 (wrap64 (x9_4 + (wrap64 (Int.tdiv (wrap64 (x10_5 + (wrap64 (t188 * x13_5)))) (wrap64 ((x7_4.length : Int) + 1)))))) (Int.tmod (wrap64 (x10_5 + (wrap64 (t188 * x13_5)))) (wrap64 ((x7_4.length : Int) + 1))) t190 (wrap64 ((y192.length : Int) - 1)))) else (none)) else (some (([] : List Int), x5_5, 143)))))) = some (r1, r2, r3) := H
                    have A28 := Aside0.mk A280
                    clear A280
                    by_cases c29 : (wrap64 ((x7_4.length : Int) + 1)) = 0
                    ·rw [if_pos c29] at H
                     exact absurd H (by simp)
                    ·rw [if_neg c29] at H
                     have c29b0 : ((wrap64 ((x7_4.length : Int) + 1)) == 0) = false := beq_eq_false_iff_ne.mpr c29
                     have c29b1 : ((wrap64 ((x7_4.length : Int) + 1)) != 0) = true := bne_iff_ne.mpr c29
                     by_cases c30 : (wrap64 (x9_4 + (wrap64 (Int.tdiv (wrap64 (x10_5 + (wrap64 (t188 * x13_5)))) (wrap64 ((x7_4.length : Int) + 1)))))) > 1114111
                     ·rw [if_pos c30] at H
                      have c30b0 : decide (1114111 < (wrap64 (x9_4 + (wrap64 (Int.tdiv (wrap64 (x10_5 + (wrap64 (t188 * x13_5)))) (wrap64 ((x7_4.length : Int) + 1))))))) = true := decide_eq_true c30
                      clear c30
                      simp only [Option.some.injEq, Prod.mk.injEq] at H
                      obtain ⟨rfl, rfl, rfl⟩ := H
                      have p22 : 0 ≤ (x5_5 : Int) := of_decide_eq_true (by first | (with_reducible assumption) | assumption)
                      have q22 : x5_5 < (a0.size : Int) := of_decide_eq_true (by first | (with_reducible assumption) | assumption)
                      have hx22 := bt_at a0 x5_5
                      replace p22 := eq_true p22
                      replace q22 := eq_true q22
                      go_wp2_with (first | ((with_reducible refine gate_callee (f := 19) rfl ?_); refine goesL_ (some 65) rfl rfl Tryd.func19 (by kernel_rfl) rfl #[.int .u8 (bt a0 x5_5)] rfl (by (try simp only [List.map_toArray, List.map_cons, List.map_nil]); first | done | rfl | (simp only [List.length_drop, List.length_take]; rfl)) ?_; (with_reducible refine (posternref14_Digit.calls k5 (bt a0 x5_5) t188 _ A23.out).mono ?_); rintro e w' ⟨rfl, ⟨nd, rfl⟩⟩; refine ⟨_, rfl, ?_⟩) | ((with_reducible refine gate_callee (f := 34) rfl ?_); refine goesL_ (some 79) rfl rfl Tryd.func34 (by kernel_rfl) rfl #[.int .i64 x14_5, .int .i64 x11_4] rfl (by (try simp only [List.map_toArray, List.map_cons, List.map_nil]); first | done | rfl | (simp only [List.length_drop, List.length_take]; rfl)) ?_; (with_reducible refine (posternref14_threshold.calls x14_5 x11_4 t189 _ A26.out).mono ?_); rintro e w' ⟨rfl, ⟨nd, rfl⟩⟩; refine ⟨_, rfl, ?_⟩; obtain ⟨Ao31, co31, eo31⟩ := Kd.R_slice HO_7.out; subst eo31) | ((with_reducible refine gate_callee (f := 23) rfl ?_); refine goesL_ (some 103) rfl rfl Tryd.func23 (by kernel_rfl) rfl #[.int .i64 (wrap64 ((wrap64 (x10_5 + (wrap64 (t188 * x13_5)))) - x10_4)), .int .i64 (wrap64 ((x7_4.length : Int) + 1)), .bool (x10_4 == 0)] rfl (by (try simp only [List.map_toArray, List.map_cons, List.map_nil]); first | done | rfl | (simp only [List.length_drop, List.length_take]; rfl)) ?_; (with_reducible refine (posternref14_Adapt.calls k5 (wrap64 ((wrap64 (x10_5 + (wrap64 (t188 * x13_5)))) - x10_4)) (wrap64 ((x7_4.length : Int) + 1)) (x10_4 == 0) t190 _ A28.out).mono ?_); rintro e w' ⟨rfl, ⟨nd, rfl⟩⟩; refine ⟨_, rfl, ?_⟩))
                      go_ret3
                      exact ⟨_, by first | rfl | (simp [errW_none, errW_some] <;> rfl) | (simp [*, errW_none, errW_some] <;> rfl), by first | exact Kd.R_nil _ _ _ _ _ | exact Kd.N_nil _ _ _ _ _ | exact Kd.V_nil _ _ _ _ _ | exact Kd.Q_nil _ _ _ _ _ | exact Kd.S_nil _ _ _ _ _, by repeat (first | (with_reducible first | exact HB.out | apply below_alloc | apply pw_below_drewN | apply below_drew1) | exact HB.out)⟩
                     ·rw [if_neg c30] at H
                      have c30b0 : decide (1114111 < (wrap64 (x9_4 + (wrap64 (Int.tdiv (wrap64 (x10_5 + (wrap64 (t188 * x13_5)))) (wrap64 ((x7_4.length : Int) + 1))))))) = false := decide_eq_false c30
                      clear c30
                      replace H := Option.bind_eq_some_iff.mp H
                      obtain ⟨t191, A320, H⟩ := H
                      replace H : (if t191 = true then (if x7_4.length < 35184372088832 then ((some (x7_4 ++ [0] : List Int)).bind fun y192 => (posternref14_Decode.l4 k5 a0 x5_5 y192 (wrap64 (x9_4 + (wrap64 (Int.tdiv (wrap64 (x10_5 + (wrap64 (t188 * x13_5)))) (wrap64 ((x7_4.length : Int) + 1)))))) (Int.tmod (wrap64 (x10_5 + (wrap64 (t188 * x13_5)))) (wrap64 ((x7_4.length : Int) + 1))) t190 (wrap64 ((y192.length : Int) - 1)))) else (none)) else (some (([] : List Int), x5_5, 143))) = some (r1, r2, r3) := H
                      have A32 := Aside0.mk A320
                      clear A320
                      by_cases c33 : t191 = true
                      ·subst c33
                       have H1 : (if x7_4.length < 35184372088832 then ((some (x7_4 ++ [0] : List Int)).bind fun y192 => (posternref14_Decode.l4 k5 a0 x5_5 y192 (wrap64 (x9_4 + (wrap64 (Int.tdiv (wrap64 (x10_5 + (wrap64 (t188 * x13_5)))) (wrap64 ((x7_4.length : Int) + 1)))))) (Int.tmod (wrap64 (x10_5 + (wrap64 (t188 * x13_5)))) (wrap64 ((x7_4.length : Int) + 1))) t190 (wrap64 ((y192.length : Int) - 1)))) else (none)) = some (r1, r2, r3) := by rw [if_pos rfl] at H; exact H
                       clear H
                       have H := H1
                       clear H1
                       by_cases c34 : x7_4.length < 35184372088832
                       ·rw [if_pos c34] at H
                        have LMc34 := Aside0.mk c34
                        clear c34
                        obtain ⟨y192, hy192⟩ : ∃ y_ : List Int, y_ = (x7_4 ++ [0]) := ⟨_, rfl⟩
                        replace H : (posternref14_Decode.l4 k5 a0 x5_5 y192 (wrap64 (x9_4 + (wrap64 (Int.tdiv (wrap64 (x10_5 + (wrap64 (t188 * x13_5)))) (wrap64 ((x7_4.length : Int) + 1)))))) (Int.tmod (wrap64 (x10_5 + (wrap64 (t188 * x13_5)))) (wrap64 ((x7_4.length : Int) + 1))) t190 (wrap64 ((y192.length : Int) - 1))) = some (r1, r2, r3) := by first | (rw [hy192]; with_reducible exact H) | (have H2_ := (Option.bind_some _ _).symm.trans H; rw [hy192]; with_reducible exact H2_) | (have H2_ := (Option.bind_some _ _).symm.trans H; with_reducible exact H2_) | with_reducible exact H | (rw [hy192]; exact H) | exact H
                        have Ny192 := Aside0.mk hy192
                        clear hy192
                        have H' := Aside0.mk H
                        clear H
                        have p22 : 0 ≤ (x5_5 : Int) := of_decide_eq_true (by first | (with_reducible assumption) | assumption)
                        have q22 : x5_5 < (a0.size : Int) := of_decide_eq_true (by first | (with_reducible assumption) | assumption)
                        have hx22 := bt_at a0 x5_5
                        replace p22 := eq_true p22
                        replace q22 := eq_true q22
                        go_wp2_with (first | ((with_reducible refine gate_callee (f := 19) rfl ?_); refine goesL_ (some 65) rfl rfl Tryd.func19 (by kernel_rfl) rfl #[.int .u8 (bt a0 x5_5)] rfl (by (try simp only [List.map_toArray, List.map_cons, List.map_nil]); first | done | rfl | (simp only [List.length_drop, List.length_take]; rfl)) ?_; (with_reducible refine (posternref14_Digit.calls k5 (bt a0 x5_5) t188 _ A23.out).mono ?_); rintro e w' ⟨rfl, ⟨nd, rfl⟩⟩; refine ⟨_, rfl, ?_⟩) | ((with_reducible refine gate_callee (f := 34) rfl ?_); refine goesL_ (some 79) rfl rfl Tryd.func34 (by kernel_rfl) rfl #[.int .i64 x14_5, .int .i64 x11_4] rfl (by (try simp only [List.map_toArray, List.map_cons, List.map_nil]); first | done | rfl | (simp only [List.length_drop, List.length_take]; rfl)) ?_; (with_reducible refine (posternref14_threshold.calls x14_5 x11_4 t189 _ A26.out).mono ?_); rintro e w' ⟨rfl, ⟨nd, rfl⟩⟩; refine ⟨_, rfl, ?_⟩; obtain ⟨Ao35, co35, eo35⟩ := Kd.R_slice HO_7.out; subst eo35) | ((with_reducible refine gate_callee (f := 23) rfl ?_); refine goesL_ (some 103) rfl rfl Tryd.func23 (by kernel_rfl) rfl #[.int .i64 (wrap64 ((wrap64 (x10_5 + (wrap64 (t188 * x13_5)))) - x10_4)), .int .i64 (wrap64 ((x7_4.length : Int) + 1)), .bool (x10_4 == 0)] rfl (by (try simp only [List.map_toArray, List.map_cons, List.map_nil]); first | done | rfl | (simp only [List.length_drop, List.length_take]; rfl)) ?_; (with_reducible refine (posternref14_Adapt.calls k5 (wrap64 ((wrap64 (x10_5 + (wrap64 (t188 * x13_5)))) - x10_4)) (wrap64 ((x7_4.length : Int) + 1)) (x10_4 == 0) t190 _ A28.out).mono ?_); rintro e w' ⟨rfl, ⟨nd, rfl⟩⟩; refine ⟨_, rfl, ?_⟩) | ((with_reducible refine gate_callee (f := 33) rfl ?_); refine goesL_ (some 117) rfl rfl Tryd.func33 (by kernel_rfl) rfl #[.int .i32 (wrap32 (wrap64 (x9_4 + (wrap64 (Int.tdiv (wrap64 (x10_5 + (wrap64 (t188 * x13_5)))) (wrap64 ((x7_4.length : Int) + 1)))))))] rfl (by (try simp only [List.map_toArray, List.map_cons, List.map_nil]); first | done | rfl | (simp only [List.length_drop, List.length_take]; rfl)) ?_; (with_reducible refine (posternref14_scalar.calls (wrap32 (wrap64 (x9_4 + (wrap64 (Int.tdiv (wrap64 (x10_5 + (wrap64 (t188 * x13_5)))) (wrap64 ((x7_4.length : Int) + 1))))))) true _ A32.out).mono ?_); rintro e w' ⟨rfl, ⟨nd, rfl⟩⟩; refine ⟨_, rfl, ?_⟩) | ((with_reducible refine gate_builtin (b := .append) (xs := #[.tmp 120, .tmp 121]) rfl ?_); at_builtin; refine Kd.R_append (Kd.int .i32) (w0 := w) w.heap.size rfl (.tmp 120) (.tmp 121) 22 21 (.int .i32 0) 4 rfl Tryd.underlying22 info21 rfl (by decide) (by omega) (.slice Ao35 x7_4.length co35) x7_4 0 [.int .i32 0] (fun _ => True) (fun _ => False) rfl rfl ?aP (fun _ hk => hk.elim) ?aF ?aO ?aB ?aS ?aL ?_; (case aP => exact rfl); (case aB => exact (by repeat (first | (with_reducible first | exact HB.out | apply below_alloc | apply pw_below_drewN | apply below_drew1) | exact HB.out))); (case aF => exact (fun _ _ => trivial)); (case aO => exact (by (with_reducible repeat (first | apply Kd.R_alloc | apply Kd.R_drewN | apply Kd.R_drew)); exact HO_7.out)); (case aS => exact (below_size (by repeat (first | (with_reducible first | exact HB.out | apply below_alloc | apply pw_below_drewN | apply below_drew1) | exact HB.out)))); (case aL => have := LMc34.out; omega); intro v193 w36 ho hb hg hat; rw [← Ny192.out] at ho; have n0_ := Aside0.mk (hb); have n1_ := Aside0.mk (ho); clear HB; clear HO_7; have HB := n0_; have HO194 := n1_; clear n0_ n1_; clear ho hb hg hat; obtain ⟨Ao37, co37, eo37⟩ := Kd.R_slice HO194.out; subst eo37))
                        go_loopg [18] k5 (fun kq v18 w' => ∃ (x7_6 : List Int) (x18_6 : Int), v18 = .int .i64 x18_6 ∧ Aside0 (posternref14_Decode.l4 kq a0 x5_5 x7_6 (wrap64 (x9_4 + (wrap64 (Int.tdiv (wrap64 (x10_5 + (wrap64 (t188 * x13_5)))) (wrap64 ((x7_4.length : Int) + 1)))))) (Int.tmod (wrap64 (x10_5 + (wrap64 (t188 * x13_5)))) (wrap64 ((x7_4.length : Int) + 1))) t190 x18_6 = some (r1, r2, r3)) ∧ Aside0 (kq ≤ k5) ∧ Aside0 (Kd.R (Kd.int .i32) 21 w' w.heap.size (fun _ => True) (.slice Ao37 y192.length co37) x7_6) ∧ Aside0 (Below w.heap.size w w'))
                        case atStart => exact ⟨(y192), (wrap64 ((y192.length : Int) - 1)), (by first | rfl | (simp; done) | (simp [*]; done)), H', ⟨Nat.le_refl _⟩, ⟨by (with_reducible repeat (first | apply Kd.R_alloc | apply Kd.R_drewN | apply Kd.R_drew)); exact HO194.out⟩, ⟨by repeat (first | (with_reducible first | exact HB.out | apply below_alloc | apply pw_below_drewN | apply below_drew1) | exact HB.out)⟩⟩
                        case round =>
                         clear H'
                         try clear c1
                         try clear p1
                         try clear q1
                         try clear hx1
                         try clear c2
                         try clear c2b0
                         try clear p2
                         try clear q2
                         try clear hx2
                         try clear c3
                         try clear c3b0
                         try clear p3
                         try clear p4
                         try clear q4
                         try clear hx4
                         try clear c5
                         try clear c5b0
                         try clear c5b1
                         try clear p6
                         try clear c8
                         try clear c8b0
                         try clear c9
                         try clear c9b0
                         try clear c10
                         try clear c10b0
                         try clear p11
                         try clear q11
                         try clear hx11
                         try clear c12
                         try clear c12b0
                         try clear p13
                         try clear q13
                         try clear hx13
                         try clear c14
                         try clear c16
                         try clear c17
                         try clear c17b0
                         try clear c18
                         try clear c18b0
                         try clear c19
                         try clear c19b0
                         try clear c19b1
                         try clear c20
                         try clear c20b0
                         try clear c21
                         try clear c21b0
                         try clear p22
                         try clear q22
                         try clear hx22
                         try clear c23
                         try clear c24
                         try clear c24b0
                         try clear c25
                         try clear c25b0
                         try clear c27
                         try clear c27b0
                         try clear c29
                         try clear c29b0
                         try clear c29b1
                         try clear c30
                         try clear c30b0
                         try clear p32
                         try clear c33
                         try clear c34
                         try clear p1
                         try clear p11
                         try clear p13
                         try clear p2
                         try clear p22
                         try clear p3
                         try clear p4
                         try clear p6
                         try clear q1
                         try clear q11
                         try clear q13
                         try clear q22
                         try clear q4
                         obtain ⟨x7_6, x18_6, rfl, HA, HK6, HO_7, HB⟩ := hrel
                         have hl7_6 := (Kd.R_reads' HO_7.out).1
                         rw [hl7_6] at HO_7
                         (try simp only [hl7_6])
                         cases gk with
                         | zero => exact absurd HA.out (by simp [posternref14_Decode.l4])
                         | succ k6 =>
                          have H := HA.out
                          clear HA
                          simp only [posternref14_Decode.l4] at H
                          by_cases c38 : x18_6 > (Int.tmod (wrap64 (x10_5 + (wrap64 (t188 * x13_5)))) (wrap64 ((x7_4.length : Int) + 1)))
                          ·rw [if_pos c38] at H
                           have c38b0 : decide ((Int.tmod (wrap64 (x10_5 + (wrap64 (t188 * x13_5)))) (wrap64 ((x7_4.length : Int) + 1))) < x18_6) = true := decide_eq_true c38
                           clear c38
                           obtain ⟨ji39, hji39⟩ : ∃ j_ : Int, (wrap64 (x18_6 - 1)) = j_ := ⟨_, rfl⟩
                           replace H : (if 0 ≤ (ji39) then (if (ji39) < (x7_6.length : Int) then (if 0 ≤ x18_6 then (if x18_6 < (x7_6.length : Int) then (posternref14_Decode.l4 k6 a0 x5_5 (x7_6.set (x18_6 : Int).toNat (rd x7_6 (ji39))) (wrap64 (x9_4 + (wrap64 (Int.tdiv (wrap64 (x10_5 + (wrap64 (t188 * x13_5)))) (wrap64 ((x7_4.length : Int) + 1)))))) (Int.tmod (wrap64 (x10_5 + (wrap64 (t188 * x13_5)))) (wrap64 ((x7_4.length : Int) + 1))) t190 ji39) else (none)) else (none)) else (none)) else (none)) = some (r1, r2, r3) := by first | (rw [hji39] at H; exact H) | (simp only [hji39] at H ⊢; exact H)
                           have hji39w : (IntKind.i64.wrap (x18_6 - 1)) = ji39 := (i64_w _).trans hji39
                           by_cases c40 : 0 ≤ (ji39)
                           ·rw [if_pos c40] at H
                            have c40b0 : decide (0 ≤ (ji39)) = true := decide_eq_true c40
                            clear c40
                            by_cases c41 : (ji39) < (x7_6.length : Int)
                            ·rw [if_pos c41] at H
                             have c41b0 : decide ((ji39) < (x7_6.length : Int)) = true := decide_eq_true c41
                             clear c41
                             by_cases c42 : 0 ≤ x18_6
                             ·rw [if_pos c42] at H
                              have c42b0 : decide (0 ≤ x18_6) = true := decide_eq_true c42
                              clear c42
                              by_cases c43 : x18_6 < (x7_6.length : Int)
                              ·rw [if_pos c43] at H
                               have c43b0 : decide (x18_6 < (x7_6.length : Int)) = true := decide_eq_true c43
                               clear c43
                               obtain ⟨y196, hy196⟩ : ∃ y_ : List Int, y_ = (x7_6.set (x18_6 : Int).toNat (rd x7_6 (ji39))) := ⟨_, rfl⟩
                               replace H : (posternref14_Decode.l4 k6 a0 x5_5 y196 (wrap64 (x9_4 + (wrap64 (Int.tdiv (wrap64 (x10_5 + (wrap64 (t188 * x13_5)))) (wrap64 ((x7_4.length : Int) + 1)))))) (Int.tmod (wrap64 (x10_5 + (wrap64 (t188 * x13_5)))) (wrap64 ((x7_4.length : Int) + 1))) t190 ji39) = some (r1, r2, r3) := by first | (rw [hy196]; with_reducible exact H) | (have H2_ := (Option.bind_some _ _).symm.trans H; rw [hy196]; with_reducible exact H2_) | (have H2_ := (Option.bind_some _ _).symm.trans H; with_reducible exact H2_) | with_reducible exact H | (rw [hy196]; exact H) | exact H
                               have Ny196 := Aside0.mk hy196
                               clear hy196
                               have H' := Aside0.mk H
                               clear H
                               have p195 : 0 ≤ ((ji39) : Int) := of_decide_eq_true (by first | (with_reducible assumption) | assumption)
                               have q195 : (ji39) < (x7_6.length : Int) := of_decide_eq_true (by first | (with_reducible assumption) | assumption)
                               obtain ⟨ad195, e195, hx195_0⟩ := Kd.at_int (Kd.R_reads' HO_7.out).2.2 (ji39) p195 q195
                               cases e195
                               replace p195 := eq_true p195
                               replace q195 := eq_true q195
                               have p44 : 0 ≤ (x18_6 : Int) := of_decide_eq_true (by first | (with_reducible assumption) | assumption)
                               have q44 : (x18_6 : Int) < ((x7_6.length : Int) : Int) := of_decide_eq_true (by first | (with_reducible assumption) | assumption)
                               obtain ⟨go44, co44, eo44, gb44, gl44, cl44, HG44⟩ := Kd.R_form HO_7.out (by omega)
                               (first | cases eo44 | (injection eo44 with ea_ en_ ec_; (first | subst ea_ | (injection ea_ with ea_; subst ea_)); subst ec_; clear en_))
                               have GB44 := Aside0.mk gb44
                               have GG44 := Aside0.mk HG44
                               clear gb44 gl44 HG44
                               (first | simp only [add_plain] at hx195_0 | skip)
                               obtain ⟨hx44_0, hf44_0⟩ := Kd.R_celln 0 HO_7.out (x18_6 : Int) p44 q44
                               replace p44 := eq_true p44
                               replace q44 := eq_true q44
                               have HP45 := Kd.R_putg HO_7.out (x18_6 : Int) (rd x7_6 (ji39))
                               go_wp2_with (first | ((with_reducible refine gate_store (t := 21) (p := 138) rfl ?_); refine store_event (t := 21) (p := 138) (v := ?vo_w46) (w1 := (wr.setCell ⟨go44, (x18_6 : Int).toNat, none⟩ (.int .i32 (rd x7_6 (ji39))))) ?hg ?ho ?hn ?hr ?_; (case ho => rfl); (case hg => rfl); (case hn => rfl); (case hr => first | (go_simp; done) | (go_simp; rfl)); intro w46 hw; have hg : wr.grownBy w46 (some go44) := (by rw [hw]; exact HP45.2); have hp_ : Kd.R (Kd.int .i32) 21 w46 w.heap.size (fun _ => True) (.slice (some ⟨go44, 0, none⟩) x7_6.length co37) y196 := (by rw [hw, Ny196.out]; exact HP45.1); clear HP45; have n0_ := Aside0.mk (hp_); have n1_ := Aside0.mk ((by rw [hw]; exact below_set (HB.out) GB44.out : Below w.heap.size w w46)); clear HO_7; clear HB; have HO_7 := n0_; have HB := n1_; clear n0_ n1_; clear hg hw hp_))
                               (try simp only [← hl7_6])
                               go_roundg k6
                               case measure => have := HK1.out; have := HK2.out; have := HJ15.out; have := HK4.out; have := HK5.out; have := HK6.out; omega
                               case rel => exact ⟨(y196), (ji39), (by first | rfl | (simp; done) | (simp only [← hji39] <;> (first | rfl | simp)) | (simp [*]; done)), H', ⟨by have := HK1.out; have := HK2.out; have := HJ15.out; have := HK4.out; have := HK5.out; have := HK6.out; omega⟩, ⟨by (try simp only [hl7_6]); (with_reducible repeat (first | apply Kd.R_alloc | apply Kd.R_drewN | apply Kd.R_drew)); exact HO_7.out⟩, ⟨by repeat (first | (with_reducible first | exact HB.out | apply below_alloc | apply pw_below_drewN | apply below_drew1) | exact HB.out)⟩⟩
                              ·rw [if_neg c43] at H
                               exact absurd H (by simp)
                             ·rw [if_neg c42] at H
                              exact absurd H (by simp)
                            ·rw [if_neg c41] at H
                             exact absurd H (by simp)
                           ·rw [if_neg c40] at H
                            exact absurd H (by simp)
                          ·rw [if_neg c38] at H
                           have c38b0 : decide ((Int.tmod (wrap64 (x10_5 + (wrap64 (t188 * x13_5)))) (wrap64 ((x7_4.length : Int) + 1))) < x18_6) = false := decide_eq_false c38
                           clear c38
                           obtain ⟨ji47, hji47⟩ : ∃ j_ : Int, (Int.tmod (wrap64 (x10_5 + (wrap64 (t188 * x13_5)))) (wrap64 ((x7_4.length : Int) + 1))) = j_ := ⟨_, rfl⟩
                           replace H : (if 0 ≤ (ji47) then (if (ji47) < (x7_6.length : Int) then (posternref14_Decode.l2 k6 a0 (wrap64 (x5_5 + 1)) (x7_6.set ((ji47) : Int).toNat (wrap32 ((wrap64 (x9_4 + (wrap64 (Int.tdiv (wrap64 (x10_5 + (wrap64 (t188 * x13_5)))) (wrap64 ((x7_4.length : Int) + 1))))))))) (wrap64 (x9_4 + (wrap64 (Int.tdiv (wrap64 (x10_5 + (wrap64 (t188 * x13_5)))) (wrap64 ((x7_4.length : Int) + 1)))))) (wrap64 ((ji47) + 1)) t190) else (none)) else (none)) = some (r1, r2, r3) := by first | (rw [hji47] at H; exact H) | (simp only [hji47] at H ⊢; exact H)
                           (try rw [hji47] at c38b0)
                           by_cases c48 : 0 ≤ (ji47)
                           ·rw [if_pos c48] at H
                            have c48b0 : decide (0 ≤ (ji47)) = true := decide_eq_true c48
                            clear c48
                            by_cases c49 : (ji47) < (x7_6.length : Int)
                            ·rw [if_pos c49] at H
                             have c49b0 : decide ((ji47) < (x7_6.length : Int)) = true := decide_eq_true c49
                             clear c49
                             obtain ⟨y197, hy197⟩ : ∃ y_ : List Int, y_ = (x7_6.set ((ji47) : Int).toNat (wrap32 ((wrap64 (x9_4 + (wrap64 (Int.tdiv (wrap64 (x10_5 + (wrap64 (t188 * x13_5)))) (wrap64 ((x7_4.length : Int) + 1))))))))) := ⟨_, rfl⟩
                             replace H : (posternref14_Decode.l2 k6 a0 (wrap64 (x5_5 + 1)) y197 (wrap64 (x9_4 + (wrap64 (Int.tdiv (wrap64 (x10_5 + (wrap64 (t188 * x13_5)))) (wrap64 ((x7_4.length : Int) + 1)))))) (wrap64 ((ji47) + 1)) t190) = some (r1, r2, r3) := by first | (rw [hy197]; with_reducible exact H) | (have H2_ := (Option.bind_some _ _).symm.trans H; rw [hy197]; with_reducible exact H2_) | (have H2_ := (Option.bind_some _ _).symm.trans H; with_reducible exact H2_) | with_reducible exact H | (rw [hy197]; exact H) | exact H
                             have Ny197 := Aside0.mk hy197
                             clear hy197
                             have H' := Aside0.mk H
                             clear H
                             have p50 : 0 ≤ ((ji47) : Int) := of_decide_eq_true (by first | (with_reducible assumption) | assumption)
                             have q50 : ((ji47) : Int) < ((x7_6.length : Int) : Int) := of_decide_eq_true (by first | (with_reducible assumption) | assumption)
                             obtain ⟨go50, co50, eo50, gb50, gl50, cl50, HG50⟩ := Kd.R_form HO_7.out (by omega)
                             (first | cases eo50 | (injection eo50 with ea_ en_ ec_; (first | subst ea_ | (injection ea_ with ea_; subst ea_)); subst ec_; clear en_))
                             have GB50 := Aside0.mk gb50
                             have GG50 := Aside0.mk HG50
                             clear gb50 gl50 HG50
                             obtain ⟨hx50_0, hf50_0⟩ := Kd.R_celln 0 HO_7.out ((ji47) : Int) p50 q50
                             replace p50 := eq_true p50
                             replace q50 := eq_true q50
                             have HP51 := Kd.R_putg HO_7.out ((ji47) : Int) (wrap32 ((wrap64 (x9_4 + (wrap64 (Int.tdiv (wrap64 (x10_5 + (wrap64 (t188 * x13_5)))) (wrap64 ((x7_4.length : Int) + 1))))))))
                             go_wp2_with (first | ((with_reducible refine gate_store (t := 21) (p := 143) rfl ?_); refine store_event (t := 21) (p := 143) (v := ?vo_w52) (w1 := (wr.setCell ⟨go50, ((ji47) : Int).toNat, none⟩ (.int .i32 (wrap32 ((wrap64 (x9_4 + (wrap64 (Int.tdiv (wrap64 (x10_5 + (wrap64 (t188 * x13_5)))) (wrap64 ((x7_4.length : Int) + 1))))))))))) ?hg ?ho ?hn ?hr ?_; (case ho => rfl); (case hg => rfl); (case hn => rfl); (case hr => first | (go_simp; done) | (go_simp; rfl)); intro w52 hw; have hg : wr.grownBy w52 (some go50) := (by rw [hw]; exact HP51.2); have hp_ : Kd.R (Kd.int .i32) 21 w52 w.heap.size (fun _ => True) (.slice (some ⟨go50, 0, none⟩) x7_6.length co37) y197 := (by rw [hw, Ny197.out]; exact HP51.1); clear HP51; have n0_ := Aside0.mk (hp_); have n1_ := Aside0.mk ((by rw [hw]; exact below_set (HB.out) GB50.out : Below w.heap.size w w52)); clear HO_7; clear HB; have HO_7 := n0_; have HB := n1_; clear n0_ n1_; clear hg hw hp_))
                             (try simp only [← hl7_6])
                             go_roundg k6
                             case measure => have := HK1.out; have := HK2.out; have := HJ15.out; have := HK4.out; have := HK5.out; have := HK6.out; omega
                             case rel => exact ⟨(wrap64 (x5_5 + 1)), (y197), ((wrap64 (x9_4 + (wrap64 (Int.tdiv (wrap64 (x10_5 + (wrap64 (t188 * x13_5)))) (wrap64 ((x7_4.length : Int) + 1))))))), (wrap64 ((ji47) + 1)), (t190), (by first | rfl | (simp; done) | (simp [*]; done)), (by first | rfl | (simp; done) | (simp [*]; done)), (by first | rfl | (simp; done) | (simp only [← hji47] <;> (first | rfl | simp)) | (simp [*]; done)), (by first | rfl | (simp; done) | (simp [*]; done)), H', ⟨by have := HK1.out; have := HK2.out; have := HJ15.out; have := HK4.out; have := HK5.out; have := HK6.out; omega⟩, ⟨by (try simp only [hl7_6]); (with_reducible repeat (first | apply Kd.R_alloc | apply Kd.R_drewN | apply Kd.R_drew)); exact HO_7.out⟩, ⟨by repeat (first | (with_reducible first | exact HB.out | apply below_alloc | apply pw_below_drewN | apply below_drew1) | exact HB.out)⟩⟩
                            ·rw [if_neg c49] at H
                             exact absurd H (by simp)
                           ·rw [if_neg c48] at H
                            exact absurd H (by simp)
                       ·rw [if_neg c34] at H
                        exact absurd H (by simp)
                      ·replace c33 := Bool.eq_false_iff.mpr c33
                       subst c33
                       have H1 : (some (([] : List Int), x5_5, 143)) = some (r1, r2, r3) := by rw [if_neg (show ¬ (false = true) by decide)] at H; exact H
                       clear H
                       have H := H1
                       clear H1
                       simp only [Option.some.injEq, Prod.mk.injEq] at H
                       obtain ⟨rfl, rfl, rfl⟩ := H
                       have p22 : 0 ≤ (x5_5 : Int) := of_decide_eq_true (by first | (with_reducible assumption) | assumption)
                       have q22 : x5_5 < (a0.size : Int) := of_decide_eq_true (by first | (with_reducible assumption) | assumption)
                       have hx22 := bt_at a0 x5_5
                       replace p22 := eq_true p22
                       replace q22 := eq_true q22
                       go_wp2_with (first | ((with_reducible refine gate_callee (f := 19) rfl ?_); refine goesL_ (some 65) rfl rfl Tryd.func19 (by kernel_rfl) rfl #[.int .u8 (bt a0 x5_5)] rfl (by (try simp only [List.map_toArray, List.map_cons, List.map_nil]); first | done | rfl | (simp only [List.length_drop, List.length_take]; rfl)) ?_; (with_reducible refine (posternref14_Digit.calls k5 (bt a0 x5_5) t188 _ A23.out).mono ?_); rintro e w' ⟨rfl, ⟨nd, rfl⟩⟩; refine ⟨_, rfl, ?_⟩) | ((with_reducible refine gate_callee (f := 34) rfl ?_); refine goesL_ (some 79) rfl rfl Tryd.func34 (by kernel_rfl) rfl #[.int .i64 x14_5, .int .i64 x11_4] rfl (by (try simp only [List.map_toArray, List.map_cons, List.map_nil]); first | done | rfl | (simp only [List.length_drop, List.length_take]; rfl)) ?_; (with_reducible refine (posternref14_threshold.calls x14_5 x11_4 t189 _ A26.out).mono ?_); rintro e w' ⟨rfl, ⟨nd, rfl⟩⟩; refine ⟨_, rfl, ?_⟩; obtain ⟨Ao53, co53, eo53⟩ := Kd.R_slice HO_7.out; subst eo53) | ((with_reducible refine gate_callee (f := 23) rfl ?_); refine goesL_ (some 103) rfl rfl Tryd.func23 (by kernel_rfl) rfl #[.int .i64 (wrap64 ((wrap64 (x10_5 + (wrap64 (t188 * x13_5)))) - x10_4)), .int .i64 (wrap64 ((x7_4.length : Int) + 1)), .bool (x10_4 == 0)] rfl (by (try simp only [List.map_toArray, List.map_cons, List.map_nil]); first | done | rfl | (simp only [List.length_drop, List.length_take]; rfl)) ?_; (with_reducible refine (posternref14_Adapt.calls k5 (wrap64 ((wrap64 (x10_5 + (wrap64 (t188 * x13_5)))) - x10_4)) (wrap64 ((x7_4.length : Int) + 1)) (x10_4 == 0) t190 _ A28.out).mono ?_); rintro e w' ⟨rfl, ⟨nd, rfl⟩⟩; refine ⟨_, rfl, ?_⟩) | ((with_reducible refine gate_callee (f := 33) rfl ?_); refine goesL_ (some 117) rfl rfl Tryd.func33 (by kernel_rfl) rfl #[.int .i32 (wrap32 (wrap64 (x9_4 + (wrap64 (Int.tdiv (wrap64 (x10_5 + (wrap64 (t188 * x13_5)))) (wrap64 ((x7_4.length : Int) + 1)))))))] rfl (by (try simp only [List.map_toArray, List.map_cons, List.map_nil]); first | done | rfl | (simp only [List.length_drop, List.length_take]; rfl)) ?_; (with_reducible refine (posternref14_scalar.calls (wrap32 (wrap64 (x9_4 + (wrap64 (Int.tdiv (wrap64 (x10_5 + (wrap64 (t188 * x13_5)))) (wrap64 ((x7_4.length : Int) + 1))))))) false _ A32.out).mono ?_); rintro e w' ⟨rfl, ⟨nd, rfl⟩⟩; refine ⟨_, rfl, ?_⟩))
                       go_ret3
                       exact ⟨_, by first | rfl | (simp [errW_none, errW_some] <;> rfl) | (simp [*, errW_none, errW_some] <;> rfl), by first | exact Kd.R_nil _ _ _ _ _ | exact Kd.N_nil _ _ _ _ _ | exact Kd.V_nil _ _ _ _ _ | exact Kd.Q_nil _ _ _ _ _ | exact Kd.S_nil _ _ _ _ _, by repeat (first | (with_reducible first | exact HB.out | apply below_alloc | apply pw_below_drewN | apply below_drew1) | exact HB.out)⟩
                   ·rw [if_neg c27] at H
                    have c27b0 : decide (t188 < t189) = false := decide_eq_false c27
                    clear c27
                    by_cases c54 : (wrap64 (x13_5 * (wrap64 (36 - t189)))) > 2147483647
                    ·rw [if_pos c54] at H
                     have c54b0 : decide (2147483647 < (wrap64 (x13_5 * (wrap64 (36 - t189))))) = true := decide_eq_true c54
                     clear c54
                     simp only [Option.some.injEq, Prod.mk.injEq] at H
                     obtain ⟨rfl, rfl, rfl⟩ := H
                     have p22 : 0 ≤ (x5_5 : Int) := of_decide_eq_true (by first | (with_reducible assumption) | assumption)
                     have q22 : x5_5 < (a0.size : Int) := of_decide_eq_true (by first | (with_reducible assumption) | assumption)
                     have hx22 := bt_at a0 x5_5
                     replace p22 := eq_true p22
                     replace q22 := eq_true q22
                     go_wp2_with (first | ((with_reducible refine gate_callee (f := 19) rfl ?_); refine goesL_ (some 65) rfl rfl Tryd.func19 (by kernel_rfl) rfl #[.int .u8 (bt a0 x5_5)] rfl (by (try simp only [List.map_toArray, List.map_cons, List.map_nil]); first | done | rfl | (simp only [List.length_drop, List.length_take]; rfl)) ?_; (with_reducible refine (posternref14_Digit.calls k5 (bt a0 x5_5) t188 _ A23.out).mono ?_); rintro e w' ⟨rfl, ⟨nd, rfl⟩⟩; refine ⟨_, rfl, ?_⟩) | ((with_reducible refine gate_callee (f := 34) rfl ?_); refine goesL_ (some 79) rfl rfl Tryd.func34 (by kernel_rfl) rfl #[.int .i64 x14_5, .int .i64 x11_4] rfl (by (try simp only [List.map_toArray, List.map_cons, List.map_nil]); first | done | rfl | (simp only [List.length_drop, List.length_take]; rfl)) ?_; (with_reducible refine (posternref14_threshold.calls x14_5 x11_4 t189 _ A26.out).mono ?_); rintro e w' ⟨rfl, ⟨nd, rfl⟩⟩; refine ⟨_, rfl, ?_⟩))
                     go_ret3
                     exact ⟨_, by first | rfl | (simp [errW_none, errW_some] <;> rfl) | (simp [*, errW_none, errW_some] <;> rfl), by first | exact Kd.R_nil _ _ _ _ _ | exact Kd.N_nil _ _ _ _ _ | exact Kd.V_nil _ _ _ _ _ | exact Kd.Q_nil _ _ _ _ _ | exact Kd.S_nil _ _ _ _ _, by repeat (first | (with_reducible first | exact HB.out | apply below_alloc | apply pw_below_drewN | apply below_drew1) | exact HB.out)⟩
                    ·rw [if_neg c54] at H
                     have c54b0 : decide (2147483647 < (wrap64 (x13_5 * (wrap64 (36 - t189))))) = false := decide_eq_false c54
                     clear c54
                     have H' := Aside0.mk H
                     clear H
                     have p22 : 0 ≤ (x5_5 : Int) := of_decide_eq_true (by first | (with_reducible assumption) | assumption)
                     have q22 : x5_5 < (a0.size : Int) := of_decide_eq_true (by first | (with_reducible assumption) | assumption)
                     have hx22 := bt_at a0 x5_5
                     replace p22 := eq_true p22
                     replace q22 := eq_true q22
                     go_wp2_with (first | ((with_reducible refine gate_callee (f := 19) rfl ?_); refine goesL_ (some 65) rfl rfl Tryd.func19 (by kernel_rfl) rfl #[.int .u8 (bt a0 x5_5)] rfl (by (try simp only [List.map_toArray, List.map_cons, List.map_nil]); first | done | rfl | (simp only [List.length_drop, List.length_take]; rfl)) ?_; (with_reducible refine (posternref14_Digit.calls k5 (bt a0 x5_5) t188 _ A23.out).mono ?_); rintro e w' ⟨rfl, ⟨nd, rfl⟩⟩; refine ⟨_, rfl, ?_⟩) | ((with_reducible refine gate_callee (f := 34) rfl ?_); refine goesL_ (some 79) rfl rfl Tryd.func34 (by kernel_rfl) rfl #[.int .i64 x14_5, .int .i64 x11_4] rfl (by (try simp only [List.map_toArray, List.map_cons, List.map_nil]); first | done | rfl | (simp only [List.length_drop, List.length_take]; rfl)) ?_; (with_reducible refine (posternref14_threshold.calls x14_5 x11_4 t189 _ A26.out).mono ?_); rintro e w' ⟨rfl, ⟨nd, rfl⟩⟩; refine ⟨_, rfl, ?_⟩))
                     go_roundg k5
                     case measure => have := HK1.out; have := HK2.out; have := HJ15.out; have := HK4.out; have := HK5.out; omega
                     case rel => exact ⟨(wrap64 (x5_5 + 1)), (wrap64 (x10_5 + (wrap64 (t188 * x13_5)))), (wrap64 (x13_5 * (wrap64 (36 - t189)))), (wrap64 (x14_5 + 36)), (by first | rfl | (simp; done) | (simp [*]; done)), (by first | rfl | (simp; done) | (simp [*]; done)), (by first | rfl | (simp; done) | (simp [*]; done)), (by first | rfl | (simp; done) | (simp [*]; done)), H', ⟨by have := HK1.out; have := HK2.out; have := HJ15.out; have := HK4.out; have := HK5.out; omega⟩, ⟨by (with_reducible repeat (first | apply Kd.R_alloc | apply Kd.R_drewN | apply Kd.R_drew)); exact HO_7.out⟩, ⟨by repeat (first | (with_reducible first | exact HB.out | apply below_alloc | apply pw_below_drewN | apply below_drew1) | exact HB.out)⟩⟩
                ·rw [if_neg c21] at H
                 exact absurd H (by simp)
               ·rw [if_neg c20] at H
                exact absurd H (by simp)
           ·rw [if_neg c18] at H
            have c18b0 : decide (x5_4 < (a0.size : Int)) = false := decide_eq_false c18
            clear c18
            simp only [Option.some.injEq, Prod.mk.injEq] at H
            obtain ⟨rfl, rfl, rfl⟩ := H
            go_wp2
            go_ret3
            exact ⟨_, by first | rfl | (simp [errW_none, errW_some] <;> rfl) | (simp [*, errW_none, errW_some] <;> rfl), by (with_reducible repeat (first | apply Kd.R_alloc | apply Kd.R_drewN | apply Kd.R_drew)); exact HO_7.out, by repeat (first | (with_reducible first | exact HB.out | apply below_alloc | apply pw_below_drewN | apply below_drew1) | exact HB.out)⟩

end Go.Proofs.YtmjlkifmbhaiiaaDoorQ.Pt
end
