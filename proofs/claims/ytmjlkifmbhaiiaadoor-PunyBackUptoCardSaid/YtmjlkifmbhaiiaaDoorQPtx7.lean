/- What these functions of the program compute, and that they compute it: printed by wip/tools/orac.py over the kit's print.py; merged. -/
import Derived.Test.YtmjlkifmbhaiiaaDoorQPtx0
import Derived.Test.YtmjlkifmbhaiiaaDoorQPtx4
import Derived.Test.YtmjlkifmbhaiiaaDoorQPtx5
import Derived.Test.YtmjlkifmbhaiiaaDoorQPtx6
section
namespace Go.Proofs.YtmjlkifmbhaiiaaDoorQ.Pt
open Go.RowKit Go.Proofs.YtmjlkifmbhaiiaaDoorW.PrintWords Go.Proofs.YtmjlkifmbhaiiaaDoorW.PrintLast Go.Proofs.YtmjlkifmbhaiiaaDoorW.PrintMore
attribute [local go_sem] Go.Proofs.YtmjlkifmbhaiiaaDoor.field0_boot
attribute [local go_sem] max2_int min2_int max_two min_two max_three min_three max_four min_four   -- for this text's walks alone
set_option linter.unusedVariables false
set_option linter.unusedSimpArgs false

/-! ### posternref14_Encode: function 13 -/
mutual
def posternref14_Encode.l0 : Nat → List Int → List Int → List Int → Int → Int → Option (ByteArray × Int × Int)
 | 0, _, _, _, _, _ => none
 | k + 1, x0, x5, x25, x26, x27 => if x27 < x26 then (if 0 ≤ x27 then (if x27 < (x25.length : Int) then ((posternref14_scalar.f (rd x25 x27)).bind fun t202 => (if t202 = true then (if (rd x25 x27) < 128 then (if x5.length < 140737488355328 then (posternref14_Encode.l0 k x0 (x5 ++ [(rd x25 x27) % 256]) x25 x26 (wrap64 (x27 + 1))) else (none)) else (posternref14_Encode.l0 k x0 x5 x25 x26 (wrap64 (x27 + 1)))) else (some ((⟨#[]⟩ : ByteArray), x27, 20)))) else (none)) else (none)) else (if (x5.length : Int) > 0 then (if x5.length < 140737488355328 then (posternref14_Encode.j1 k x0 (x5 ++ [45]) (x5.length : Int)) else (none)) else (posternref14_Encode.j1 k x0 x5 (x5.length : Int)))
def posternref14_Encode.j1 : Nat → List Int → List Int → Int → Option (ByteArray × Int × Int)
 | 0, _, _, _ => none
 | k + 1, x0, x5, x8 => posternref14_Encode.l1 k x0 x5 x8 128 0 72 x8
def posternref14_Encode.l1 : Nat → List Int → List Int → Int → Int → Int → Int → Int → Option (ByteArray × Int × Int)
 | 0, _, _, _, _, _, _, _ => none
 | k + 1, x0, x5, x8, x9, x10, x11, x12 => if x12 < (x0.length : Int) then (posternref14_Encode.l2 k x0 x5 x8 x9 x10 x11 x12 1114112 x0 (x0.length : Int) 0) else ((posternref14_Decode.f k (strOfNums x5)).bind fun bt209 => (if bt209.2.2 = 0 then (some (strOfNums x5, 0, 0)) else (some ((⟨#[]⟩ : ByteArray), 0, 142))))
def posternref14_Encode.l2 : Nat → List Int → List Int → Int → Int → Int → Int → Int → Int → List Int → Int → Int → Option (ByteArray × Int × Int)
 | 0, _, _, _, _, _, _, _, _, _, _, _ => none
 | k + 1, x0, x5, x8, x9, x10, x11, x12, x13, x56, x57, x58 => if x58 < x57 then (if 0 ≤ x58 then (if x58 < (x56.length : Int) then (if (wrap64 (rd x56 x58)) ≥ x9 then (if (wrap64 (rd x56 x58)) < x13 then (posternref14_Encode.l2 k x0 x5 x8 x9 x10 x11 x12 (wrap64 (rd x56 x58)) x56 x57 (wrap64 (x58 + 1))) else (posternref14_Encode.l2 k x0 x5 x8 x9 x10 x11 x12 x13 x56 x57 (wrap64 (x58 + 1)))) else (posternref14_Encode.l2 k x0 x5 x8 x9 x10 x11 x12 x13 x56 x57 (wrap64 (x58 + 1)))) else (none)) else (none)) else (if (wrap64 (x10 + (wrap64 ((wrap64 (x13 - x9)) * (wrap64 (x12 + 1)))))) > 2147483647 then (some ((⟨#[]⟩ : ByteArray), 0, 142)) else (posternref14_Encode.l3 k x0 x5 x8 x13 (wrap64 (x10 + (wrap64 ((wrap64 (x13 - x9)) * (wrap64 (x12 + 1)))))) x11 x12 x0 (x0.length : Int) 0))
def posternref14_Encode.l3 : Nat → List Int → List Int → Int → Int → Int → Int → Int → List Int → Int → Int → Option (ByteArray × Int × Int)
 | 0, _, _, _, _, _, _, _, _, _, _ => none
 | k + 1, x0, x5, x8, x9, x10, x11, x12, x86, x87, x88 => if x88 < x87 then (if 0 ≤ x88 then (if x88 < (x86.length : Int) then (if (wrap64 (rd x86 x88)) < x9 then (if (wrap64 (x10 + 1)) > 2147483647 then (some ((⟨#[]⟩ : ByteArray), 0, 142)) else (posternref14_Encode.j5 k x0 x5 x8 x9 (wrap64 (x10 + 1)) x11 x12 (rd x86 x88) x86 x87 x88)) else (posternref14_Encode.j5 k x0 x5 x8 x9 x10 x11 x12 (rd x86 x88) x86 x87 x88)) else (none)) else (none)) else (posternref14_Encode.l1 k x0 x5 x8 (wrap64 (x9 + 1)) (wrap64 (x10 + 1)) x11 x12)
def posternref14_Encode.j5 : Nat → List Int → List Int → Int → Int → Int → Int → Int → Int → List Int → Int → Int → Option (ByteArray × Int × Int)
 | 0, _, _, _, _, _, _, _, _, _, _, _ => none
 | k + 1, x0, x5, x8, x9, x10, x11, x12, x17, x86, x87, x88 => if (wrap64 (x17)) = x9 then (posternref14_Encode.l4 k x0 x5 x8 x9 x10 x11 x12 x10 36 x86 x87 x88) else (posternref14_Encode.l3 k x0 x5 x8 x9 x10 x11 x12 x86 x87 (wrap64 (x88 + 1)))
def posternref14_Encode.l4 : Nat → List Int → List Int → Int → Int → Int → Int → Int → Int → Int → List Int → Int → Int → Option (ByteArray × Int × Int)
 | 0, _, _, _, _, _, _, _, _, _, _, _, _ => none
 | k + 1, x0, x5, x8, x9, x10, x11, x12, x18, x19, x86, x87, x88 => (posternref14_threshold.f x19 x11).bind fun t216 => (if x18 < t216 then ((posternref14_Letter.f x18).bind fun t217 => (if x5.length < 140737488355328 then ((posternref14_Adapt.f k x10 (wrap64 (x12 + 1)) (x12 == x8)).bind fun t221 => (posternref14_Encode.l3 k x0 (x5 ++ [t217]) x8 x9 0 t221 (wrap64 (x12 + 1)) x86 x87 (wrap64 (x88 + 1)))) else (none))) else (if (wrap64 (36 - t216)) = 0 then (none) else ((posternref14_Letter.f (wrap64 (t216 + (Int.tmod (wrap64 (x18 - t216)) (wrap64 (36 - t216)))))).bind fun t222 => (if x5.length < 140737488355328 then (posternref14_Encode.l4 k x0 (x5 ++ [t222]) x8 x9 x10 x11 x12 (wrap64 (Int.tdiv (wrap64 (x18 - t216)) (wrap64 (36 - t216)))) (wrap64 (x19 + 36)) x86 x87 x88) else (none)))))
end
def posternref14_Encode.f (k : Nat) (l0 : List Int) : Option (ByteArray × Int × Int) := posternref14_Encode.l0 k l0 (([] : List Int)) l0 (l0.length : Int) 0
theorem posternref14_Encode.mono_l : ∀ k, (∀ y0 y1 y2 y3 y4, LeO (posternref14_Encode.l0 k y0 y1 y2 y3 y4) (posternref14_Encode.l0 (k + 1) y0 y1 y2 y3 y4)) ∧ (∀ y0 y1 y2, LeO (posternref14_Encode.j1 k y0 y1 y2) (posternref14_Encode.j1 (k + 1) y0 y1 y2)) ∧ (∀ y0 y1 y2 y3 y4 y5 y6, LeO (posternref14_Encode.l1 k y0 y1 y2 y3 y4 y5 y6) (posternref14_Encode.l1 (k + 1) y0 y1 y2 y3 y4 y5 y6)) ∧ (∀ y0 y1 y2 y3 y4 y5 y6 y7 y8 y9 y10, LeO (posternref14_Encode.l2 k y0 y1 y2 y3 y4 y5 y6 y7 y8 y9 y10) (posternref14_Encode.l2 (k + 1) y0 y1 y2 y3 y4 y5 y6 y7 y8 y9 y10)) ∧ (∀ y0 y1 y2 y3 y4 y5 y6 y7 y8 y9, LeO (posternref14_Encode.l3 k y0 y1 y2 y3 y4 y5 y6 y7 y8 y9) (posternref14_Encode.l3 (k + 1) y0 y1 y2 y3 y4 y5 y6 y7 y8 y9)) ∧ (∀ y0 y1 y2 y3 y4 y5 y6 y7 y8 y9 y10, LeO (posternref14_Encode.j5 k y0 y1 y2 y3 y4 y5 y6 y7 y8 y9 y10) (posternref14_Encode.j5 (k + 1) y0 y1 y2 y3 y4 y5 y6 y7 y8 y9 y10)) ∧ (∀ y0 y1 y2 y3 y4 y5 y6 y7 y8 y9 y10 y11, LeO (posternref14_Encode.l4 k y0 y1 y2 y3 y4 y5 y6 y7 y8 y9 y10 y11) (posternref14_Encode.l4 (k + 1) y0 y1 y2 y3 y4 y5 y6 y7 y8 y9 y10 y11))
 | 0 => ⟨fun _ _ _ _ _ r h => by simp [posternref14_Encode.l0] at h, fun _ _ _ r h => by simp [posternref14_Encode.j1] at h, fun _ _ _ _ _ _ _ r h => by simp [posternref14_Encode.l1] at h, fun _ _ _ _ _ _ _ _ _ _ _ r h => by simp [posternref14_Encode.l2] at h, fun _ _ _ _ _ _ _ _ _ _ r h => by simp [posternref14_Encode.l3] at h, fun _ _ _ _ _ _ _ _ _ _ _ r h => by simp [posternref14_Encode.j5] at h, fun _ _ _ _ _ _ _ _ _ _ _ _ r h => by simp [posternref14_Encode.l4] at h⟩
 | k + 1 => by
  obtain ⟨ih0, ih1, ih2, ih3, ih4, ih5, ih6⟩ := posternref14_Encode.mono_l k
  refine ⟨?_, ?_, ?_, ?_, ?_, ?_, ?_⟩
  ·intro y0 y1 y2 y3 y4
   unfold posternref14_Encode.l0
   repeat' first
   | (with_reducible exact ih0 _ _ _ _ _)
   | (with_reducible exact ih1 _ _ _)
   | (with_reducible exact ih2 _ _ _ _ _ _ _)
   | (with_reducible exact ih3 _ _ _ _ _ _ _ _ _ _ _)
   | (with_reducible exact ih4 _ _ _ _ _ _ _ _ _ _)
   | (with_reducible exact ih5 _ _ _ _ _ _ _ _ _ _ _)
   | (with_reducible exact ih6 _ _ _ _ _ _ _ _ _ _ _ _)
   | (with_reducible exact posternref14_Adapt.mono _ _ _ _)
   | (with_reducible exact posternref14_Decode.mono _ _)
   | (with_reducible exact LeO.refl _)
   | (with_reducible exact LeO.none _)
   | (with_reducible refine LeO.ite ?_ ?_)
   | (with_reducible refine LeO.bind ?_ (fun _ => ?_))
   | exact ih0 _ _ _ _ _
   | exact ih1 _ _ _
   | exact ih2 _ _ _ _ _ _ _
   | exact ih3 _ _ _ _ _ _ _ _ _ _ _
   | exact ih4 _ _ _ _ _ _ _ _ _ _
   | exact ih5 _ _ _ _ _ _ _ _ _ _ _
   | exact ih6 _ _ _ _ _ _ _ _ _ _ _ _
   | exact posternref14_Adapt.mono _ _ _ _
   | exact posternref14_Decode.mono _ _
   | exact LeO.none _
   | refine LeO.ite ?_ ?_
   | refine LeO.bind ?_ (fun _ => ?_)
  ·intro y0 y1 y2
   unfold posternref14_Encode.j1
   repeat' first
   | (with_reducible exact ih0 _ _ _ _ _)
   | (with_reducible exact ih1 _ _ _)
   | (with_reducible exact ih2 _ _ _ _ _ _ _)
   | (with_reducible exact ih3 _ _ _ _ _ _ _ _ _ _ _)
   | (with_reducible exact ih4 _ _ _ _ _ _ _ _ _ _)
   | (with_reducible exact ih5 _ _ _ _ _ _ _ _ _ _ _)
   | (with_reducible exact ih6 _ _ _ _ _ _ _ _ _ _ _ _)
   | (with_reducible exact posternref14_Adapt.mono _ _ _ _)
   | (with_reducible exact posternref14_Decode.mono _ _)
   | (with_reducible exact LeO.refl _)
   | (with_reducible exact LeO.none _)
   | (with_reducible refine LeO.ite ?_ ?_)
   | (with_reducible refine LeO.bind ?_ (fun _ => ?_))
   | exact ih0 _ _ _ _ _
   | exact ih1 _ _ _
   | exact ih2 _ _ _ _ _ _ _
   | exact ih3 _ _ _ _ _ _ _ _ _ _ _
   | exact ih4 _ _ _ _ _ _ _ _ _ _
   | exact ih5 _ _ _ _ _ _ _ _ _ _ _
   | exact ih6 _ _ _ _ _ _ _ _ _ _ _ _
   | exact posternref14_Adapt.mono _ _ _ _
   | exact posternref14_Decode.mono _ _
   | exact LeO.none _
   | refine LeO.ite ?_ ?_
   | refine LeO.bind ?_ (fun _ => ?_)
  ·intro y0 y1 y2 y3 y4 y5 y6
   unfold posternref14_Encode.l1
   repeat' first
   | (with_reducible exact ih0 _ _ _ _ _)
   | (with_reducible exact ih1 _ _ _)
   | (with_reducible exact ih2 _ _ _ _ _ _ _)
   | (with_reducible exact ih3 _ _ _ _ _ _ _ _ _ _ _)
   | (with_reducible exact ih4 _ _ _ _ _ _ _ _ _ _)
   | (with_reducible exact ih5 _ _ _ _ _ _ _ _ _ _ _)
   | (with_reducible exact ih6 _ _ _ _ _ _ _ _ _ _ _ _)
   | (with_reducible exact posternref14_Adapt.mono _ _ _ _)
   | (with_reducible exact posternref14_Decode.mono _ _)
   | (with_reducible exact LeO.refl _)
   | (with_reducible exact LeO.none _)
   | (with_reducible refine LeO.ite ?_ ?_)
   | (with_reducible refine LeO.bind ?_ (fun _ => ?_))
   | exact ih0 _ _ _ _ _
   | exact ih1 _ _ _
   | exact ih2 _ _ _ _ _ _ _
   | exact ih3 _ _ _ _ _ _ _ _ _ _ _
   | exact ih4 _ _ _ _ _ _ _ _ _ _
   | exact ih5 _ _ _ _ _ _ _ _ _ _ _
   | exact ih6 _ _ _ _ _ _ _ _ _ _ _ _
   | exact posternref14_Adapt.mono _ _ _ _
   | exact posternref14_Decode.mono _ _
   | exact LeO.none _
   | refine LeO.ite ?_ ?_
   | refine LeO.bind ?_ (fun _ => ?_)
  ·intro y0 y1 y2 y3 y4 y5 y6 y7 y8 y9 y10
   unfold posternref14_Encode.l2
   repeat' first
   | (with_reducible exact ih0 _ _ _ _ _)
   | (with_reducible exact ih1 _ _ _)
   | (with_reducible exact ih2 _ _ _ _ _ _ _)
   | (with_reducible exact ih3 _ _ _ _ _ _ _ _ _ _ _)
   | (with_reducible exact ih4 _ _ _ _ _ _ _ _ _ _)
   | (with_reducible exact ih5 _ _ _ _ _ _ _ _ _ _ _)
   | (with_reducible exact ih6 _ _ _ _ _ _ _ _ _ _ _ _)
   | (with_reducible exact posternref14_Adapt.mono _ _ _ _)
   | (with_reducible exact posternref14_Decode.mono _ _)
   | (with_reducible exact LeO.refl _)
   | (with_reducible exact LeO.none _)
   | (with_reducible refine LeO.ite ?_ ?_)
   | (with_reducible refine LeO.bind ?_ (fun _ => ?_))
   | exact ih0 _ _ _ _ _
   | exact ih1 _ _ _
   | exact ih2 _ _ _ _ _ _ _
   | exact ih3 _ _ _ _ _ _ _ _ _ _ _
   | exact ih4 _ _ _ _ _ _ _ _ _ _
   | exact ih5 _ _ _ _ _ _ _ _ _ _ _
   | exact ih6 _ _ _ _ _ _ _ _ _ _ _ _
   | exact posternref14_Adapt.mono _ _ _ _
   | exact posternref14_Decode.mono _ _
   | exact LeO.none _
   | refine LeO.ite ?_ ?_
   | refine LeO.bind ?_ (fun _ => ?_)
  ·intro y0 y1 y2 y3 y4 y5 y6 y7 y8 y9
   unfold posternref14_Encode.l3
   repeat' first
   | (with_reducible exact ih0 _ _ _ _ _)
   | (with_reducible exact ih1 _ _ _)
   | (with_reducible exact ih2 _ _ _ _ _ _ _)
   | (with_reducible exact ih3 _ _ _ _ _ _ _ _ _ _ _)
   | (with_reducible exact ih4 _ _ _ _ _ _ _ _ _ _)
   | (with_reducible exact ih5 _ _ _ _ _ _ _ _ _ _ _)
   | (with_reducible exact ih6 _ _ _ _ _ _ _ _ _ _ _ _)
   | (with_reducible exact posternref14_Adapt.mono _ _ _ _)
   | (with_reducible exact posternref14_Decode.mono _ _)
   | (with_reducible exact LeO.refl _)
   | (with_reducible exact LeO.none _)
   | (with_reducible refine LeO.ite ?_ ?_)
   | (with_reducible refine LeO.bind ?_ (fun _ => ?_))
   | exact ih0 _ _ _ _ _
   | exact ih1 _ _ _
   | exact ih2 _ _ _ _ _ _ _
   | exact ih3 _ _ _ _ _ _ _ _ _ _ _
   | exact ih4 _ _ _ _ _ _ _ _ _ _
   | exact ih5 _ _ _ _ _ _ _ _ _ _ _
   | exact ih6 _ _ _ _ _ _ _ _ _ _ _ _
   | exact posternref14_Adapt.mono _ _ _ _
   | exact posternref14_Decode.mono _ _
   | exact LeO.none _
   | refine LeO.ite ?_ ?_
   | refine LeO.bind ?_ (fun _ => ?_)
  ·intro y0 y1 y2 y3 y4 y5 y6 y7 y8 y9 y10
   unfold posternref14_Encode.j5
   repeat' first
   | (with_reducible exact ih0 _ _ _ _ _)
   | (with_reducible exact ih1 _ _ _)
   | (with_reducible exact ih2 _ _ _ _ _ _ _)
   | (with_reducible exact ih3 _ _ _ _ _ _ _ _ _ _ _)
   | (with_reducible exact ih4 _ _ _ _ _ _ _ _ _ _)
   | (with_reducible exact ih5 _ _ _ _ _ _ _ _ _ _ _)
   | (with_reducible exact ih6 _ _ _ _ _ _ _ _ _ _ _ _)
   | (with_reducible exact posternref14_Adapt.mono _ _ _ _)
   | (with_reducible exact posternref14_Decode.mono _ _)
   | (with_reducible exact LeO.refl _)
   | (with_reducible exact LeO.none _)
   | (with_reducible refine LeO.ite ?_ ?_)
   | (with_reducible refine LeO.bind ?_ (fun _ => ?_))
   | exact ih0 _ _ _ _ _
   | exact ih1 _ _ _
   | exact ih2 _ _ _ _ _ _ _
   | exact ih3 _ _ _ _ _ _ _ _ _ _ _
   | exact ih4 _ _ _ _ _ _ _ _ _ _
   | exact ih5 _ _ _ _ _ _ _ _ _ _ _
   | exact ih6 _ _ _ _ _ _ _ _ _ _ _ _
   | exact posternref14_Adapt.mono _ _ _ _
   | exact posternref14_Decode.mono _ _
   | exact LeO.none _
   | refine LeO.ite ?_ ?_
   | refine LeO.bind ?_ (fun _ => ?_)
  ·intro y0 y1 y2 y3 y4 y5 y6 y7 y8 y9 y10 y11
   unfold posternref14_Encode.l4
   repeat' first
   | (with_reducible exact ih0 _ _ _ _ _)
   | (with_reducible exact ih1 _ _ _)
   | (with_reducible exact ih2 _ _ _ _ _ _ _)
   | (with_reducible exact ih3 _ _ _ _ _ _ _ _ _ _ _)
   | (with_reducible exact ih4 _ _ _ _ _ _ _ _ _ _)
   | (with_reducible exact ih5 _ _ _ _ _ _ _ _ _ _ _)
   | (with_reducible exact ih6 _ _ _ _ _ _ _ _ _ _ _ _)
   | (with_reducible exact posternref14_Adapt.mono _ _ _ _)
   | (with_reducible exact posternref14_Decode.mono _ _)
   | (with_reducible exact LeO.refl _)
   | (with_reducible exact LeO.none _)
   | (with_reducible refine LeO.ite ?_ ?_)
   | (with_reducible refine LeO.bind ?_ (fun _ => ?_))
   | exact ih0 _ _ _ _ _
   | exact ih1 _ _ _
   | exact ih2 _ _ _ _ _ _ _
   | exact ih3 _ _ _ _ _ _ _ _ _ _ _
   | exact ih4 _ _ _ _ _ _ _ _ _ _
   | exact ih5 _ _ _ _ _ _ _ _ _ _ _
   | exact ih6 _ _ _ _ _ _ _ _ _ _ _ _
   | exact posternref14_Adapt.mono _ _ _ _
   | exact posternref14_Decode.mono _ _
   | exact LeO.none _
   | refine LeO.ite ?_ ?_
   | refine LeO.bind ?_ (fun _ => ?_)
theorem posternref14_Encode.mono : ∀ a0 k, LeO (posternref14_Encode.f k a0) (posternref14_Encode.f (k + 1) a0) := by
 intro a0 k
 obtain ⟨ih0, ih1, ih2, ih3, ih4, ih5, ih6⟩ := posternref14_Encode.mono_l k
 unfold posternref14_Encode.f
 repeat' first
   | (with_reducible exact ih0 _ _ _ _ _)
   | (with_reducible exact ih1 _ _ _)
   | (with_reducible exact ih2 _ _ _ _ _ _ _)
   | (with_reducible exact ih3 _ _ _ _ _ _ _ _ _ _ _)
   | (with_reducible exact ih4 _ _ _ _ _ _ _ _ _ _)
   | (with_reducible exact ih5 _ _ _ _ _ _ _ _ _ _ _)
   | (with_reducible exact ih6 _ _ _ _ _ _ _ _ _ _ _ _)
   | (with_reducible exact posternref14_Adapt.mono _ _ _ _)
   | (with_reducible exact posternref14_Decode.mono _ _)
   | (with_reducible exact LeO.refl _)
   | (with_reducible exact LeO.none _)
   | (with_reducible refine LeO.ite ?_ ?_)
   | (with_reducible refine LeO.bind ?_ (fun _ => ?_))
   | exact ih0 _ _ _ _ _
   | exact ih1 _ _ _
   | exact ih2 _ _ _ _ _ _ _
   | exact ih3 _ _ _ _ _ _ _ _ _ _ _
   | exact ih4 _ _ _ _ _ _ _ _ _ _
   | exact ih5 _ _ _ _ _ _ _ _ _ _ _
   | exact ih6 _ _ _ _ _ _ _ _ _ _ _ _
   | exact posternref14_Adapt.mono _ _ _ _
   | exact posternref14_Decode.mono _ _
   | exact LeO.none _
   | refine LeO.ite ?_ ?_
   | refine LeO.bind ?_ (fun _ => ?_)
set_option maxHeartbeats 8000000 in
set_option maxRecDepth 100000 in
theorem posternref14_Encode.calls (k : Nat) (A0 : Option Addr) (c0 : Nat) (l0 : List Int) (r1 : ByteArray) (r2 : Int) (r3 : Int) (w : World) (hr0 : Kd.C (Kd.int .i32) w A0 l0.length l0) (hc0 : l0.length ≤ c0) (h : posternref14_Encode.f k l0 = some (r1, r2, r3)) :
  Calls Tryd.prog 13 #[.slice A0 l0.length c0] w fun e w' => e = .returned (.tuple #[.string r1, .int .i64 r2, .int .i64 r3]) ∧ Below w.heap.size w w' := by
 have HR0 := Aside0.mk hr0
 have HC0 := Aside0.mk hc0
 clear hr0 hc0
 have HB := Aside0.mk (Below.refl w.heap.size w)
 have H : (posternref14_Encode.l0 k l0 (([] : List Int)) l0 (l0.length : Int) 0) = some (r1, r2, r3) := h
 clear h
 obtain ⟨y198, hy198⟩ : ∃ y_ : List Int, y_ = (([] : List Int)) := ⟨_, rfl⟩
 replace H : (posternref14_Encode.l0 k l0 y198 l0 (l0.length : Int) 0) = some (r1, r2, r3) := by first | (rw [hy198]; with_reducible exact H) | (have H2_ := (Option.bind_some _ _).symm.trans H; rw [hy198]; with_reducible exact H2_) | (have H2_ := (Option.bind_some _ _).symm.trans H; with_reducible exact H2_) | with_reducible exact H | (rw [hy198]; exact H) | exact H
 have Ny198 := Aside0.mk hy198
 clear hy198
 have H' := Aside0.mk H
 clear H
 go_enter Tryd.func13, Tryd.ntmps13
 go_wp2_with (first | ((with_reducible refine gate_dst (N := 24) rfl ?_); refine Kd.R_lit (Kd.int .u8) _ 5 ?hg (N := 24) ?hd (xs := ([] : List Int)) (inner := []) (ok := fun _ => True) (okp := fun _ => True) ?hr ?hp (fun _ hk => hk) trivial (Below.refl _ _) (Nat.le_refl _) (by simp) ?_; (case hd => rfl); (case hg => rfl); (case hr => first | (go_simp; done) | (go_simp; rfl)); (case hp => exact (Reps.none _ _)); intro v199 w2 ho3 hb hg_ hnew_; clear hg_ hnew_; (first | rw [← Ny198.out] at ho3 | (simp only [Int.reduceToNat] at ho3; rw [← Ny198.out] at ho3)); have n0_ := Aside0.mk (Kd.R_lower ho3 (below_size (by repeat (first | (with_reducible first | exact HB.out | apply below_alloc | apply pw_below_drewN | apply below_drew1) | exact HB.out)))); have n1_ := Aside0.mk (below_step (by repeat (first | (with_reducible first | exact HB.out | apply below_alloc | apply pw_below_drewN | apply below_drew1) | exact HB.out)) hb); clear HB; have HO200 := n0_; have HB := n1_; clear n0_ n1_; clear hb ho3))
 go_loopg [5, 27] k (fun kq v5 v27 w' => ∃ (x5_1 : List Int) (x27_1 : Int), v27 = .int .i64 x27_1 ∧ Aside0 (posternref14_Encode.l0 kq l0 x5_1 l0 (l0.length : Int) x27_1 = some (r1, r2, r3)) ∧ Aside0 (kq ≤ k) ∧ Aside0 (Kd.R (Kd.int .u8) 5 w' w.heap.size (fun _ => True) v5 x5_1) ∧ Aside0 (Below w.heap.size w w'))
 case atStart => exact ⟨(y198), (0), (by first | rfl | (simp; done) | (simp [*]; done)), H', ⟨Nat.le_refl _⟩, ⟨by (with_reducible repeat (first | apply Kd.R_alloc | apply Kd.R_drewN | apply Kd.R_drew)); exact HO200.out⟩, ⟨by repeat (first | (with_reducible first | exact HB.out | apply below_alloc | apply pw_below_drewN | apply below_drew1) | exact HB.out)⟩⟩
 case round =>
  clear H'
  try clear c1
  try clear p2
  obtain ⟨x5_1, x27_1, rfl, HA, HK1, HO_5, HB⟩ := hrel
  cases gk with
  | zero => exact absurd HA.out (by simp [posternref14_Encode.l0])
  | succ k1 =>
   have H := HA.out
   clear HA
   simp only [posternref14_Encode.l0] at H
   by_cases c4 : x27_1 < (l0.length : Int)
   ·rw [if_pos c4] at H
    have c4b0 : decide (x27_1 < (l0.length : Int)) = true := decide_eq_true c4
    clear c4
    by_cases c5 : 0 ≤ x27_1
    ·rw [if_pos c5] at H
     have c5b0 : decide (0 ≤ x27_1) = true := decide_eq_true c5
     clear c5
     by_cases c6 : x27_1 < (l0.length : Int)
     ·rw [if_pos c6] at H
      have c6b0 : decide (x27_1 < (l0.length : Int)) = true := decide_eq_true c6
      clear c6
      replace H := Option.bind_eq_some_iff.mp H
      obtain ⟨t202, A70, H⟩ := H
      replace H : (if t202 = true then (if (rd l0 x27_1) < 128 then (if x5_1.length < 140737488355328 then (posternref14_Encode.l0 k1 l0 (x5_1 ++ [(rd l0 x27_1) % 256]) l0 (l0.length : Int) (wrap64 (x27_1 + 1))) else (none)) else (posternref14_Encode.l0 k1 l0 x5_1 l0 (l0.length : Int) (wrap64 (x27_1 + 1)))) else (some ((⟨#[]⟩ : ByteArray), x27_1, 20))) = some (r1, r2, r3) := H
      have A7 := Aside0.mk A70
      clear A70
      by_cases c8 : t202 = true
      ·subst c8
       have H1 : (if (rd l0 x27_1) < 128 then (if x5_1.length < 140737488355328 then (posternref14_Encode.l0 k1 l0 (x5_1 ++ [(rd l0 x27_1) % 256]) l0 (l0.length : Int) (wrap64 (x27_1 + 1))) else (none)) else (posternref14_Encode.l0 k1 l0 x5_1 l0 (l0.length : Int) (wrap64 (x27_1 + 1)))) = some (r1, r2, r3) := by rw [if_pos rfl] at H; exact H
       clear H
       have H := H1
       clear H1
       by_cases c9 : (rd l0 x27_1) < 128
       ·rw [if_pos c9] at H
        have c9b0 : decide ((rd l0 x27_1) < 128) = true := decide_eq_true c9
        clear c9
        by_cases c10 : x5_1.length < 140737488355328
        ·rw [if_pos c10] at H
         have LMc10 := Aside0.mk c10
         clear c10
         obtain ⟨y203, hy203⟩ : ∃ y_ : List Int, y_ = (x5_1 ++ [(rd l0 x27_1) % 256]) := ⟨_, rfl⟩
         replace H : (posternref14_Encode.l0 k1 l0 y203 l0 (l0.length : Int) (wrap64 (x27_1 + 1))) = some (r1, r2, r3) := by first | (rw [hy203]; with_reducible exact H) | (have H2_ := (Option.bind_some _ _).symm.trans H; rw [hy203]; with_reducible exact H2_) | (have H2_ := (Option.bind_some _ _).symm.trans H; with_reducible exact H2_) | with_reducible exact H | (rw [hy203]; exact H) | exact H
         have Ny203 := Aside0.mk hy203
         clear hy203
         have H' := Aside0.mk H
         clear H
         have p201 : 0 ≤ (x27_1 : Int) := of_decide_eq_true (by first | (with_reducible assumption) | assumption)
         have q201 : x27_1 < (l0.length : Int) := of_decide_eq_true (by first | (with_reducible assumption) | assumption)
         obtain ⟨ad201, e201, hx201_0⟩ := Kd.at_int HR0.out x27_1 p201 q201
         cases e201
         replace hx201_0 := (HB.out.cell (World.block_lt_of_cell? w _ hx201_0)).trans hx201_0
         replace p201 := eq_true p201
         replace q201 := eq_true q201
         go_wp2_with (first | ((with_reducible refine gate_callee (f := 33) rfl ?_); refine goesL_ (some 33) rfl rfl Tryd.func33 (by kernel_rfl) rfl #[.int .i32 (rd l0 x27_1)] rfl (by (try simp only [List.map_toArray, List.map_cons, List.map_nil]); first | done | rfl | (simp only [List.length_drop, List.length_take]; rfl)) ?_; (with_reducible refine (posternref14_scalar.calls (rd l0 x27_1) true _ A7.out).mono ?_); rintro e w' ⟨rfl, ⟨nd, rfl⟩⟩; refine ⟨_, rfl, ?_⟩) | ((with_reducible refine gate_builtin (b := .append) (xs := #[.tmp 38, .tmp 41]) rfl ?_); at_builtin; refine Kd.R_append (Kd.int .u8) (w0 := w) w.heap.size rfl (.tmp 38) (.tmp 41) 35 5 (.int .u8 0) 1 rfl Tryd.underlying35 info5 rfl (by decide) (by omega) u5 x5_1 ((rd l0 x27_1) % 256) [.int .u8 ((rd l0 x27_1) % 256)] (fun _ => True) (fun _ => False) rfl rfl ?aP (fun _ hk => hk.elim) ?aF ?aO ?aB ?aS ?aL ?_; (case aP => exact rfl); (case aB => exact (by repeat (first | (with_reducible first | exact HB.out | apply below_alloc | apply pw_below_drewN | apply below_drew1) | exact HB.out))); (case aF => exact (fun _ _ => trivial)); (case aO => exact (by (with_reducible repeat (first | apply Kd.R_alloc | apply Kd.R_drewN | apply Kd.R_drew)); exact HO_5.out)); (case aS => exact (below_size (by repeat (first | (with_reducible first | exact HB.out | apply below_alloc | apply pw_below_drewN | apply below_drew1) | exact HB.out)))); (case aL => have := LMc10.out; omega); intro v204 w11 ho hb hg hat; rw [← Ny203.out] at ho; have n0_ := Aside0.mk (hb); have n1_ := Aside0.mk (ho); clear HB; clear HO_5; have HB := n0_; have HO205 := n1_; clear n0_ n1_; clear ho hb hg hat))
         go_roundg k1
         case measure => have := HK1.out; omega
         case rel => exact ⟨(y203), (wrap64 (x27_1 + 1)), (by first | rfl | (simp; done) | (simp [*]; done)), H', ⟨by have := HK1.out; omega⟩, ⟨by (with_reducible repeat (first | apply Kd.R_alloc | apply Kd.R_drewN | apply Kd.R_drew)); exact HO205.out⟩, ⟨by repeat (first | (with_reducible first | exact HB.out | apply below_alloc | apply pw_below_drewN | apply below_drew1) | exact HB.out)⟩⟩
        ·rw [if_neg c10] at H
         exact absurd H (by simp)
       ·rw [if_neg c9] at H
        have c9b0 : decide ((rd l0 x27_1) < 128) = false := decide_eq_false c9
        clear c9
        have H' := Aside0.mk H
        clear H
        have p201 : 0 ≤ (x27_1 : Int) := of_decide_eq_true (by first | (with_reducible assumption) | assumption)
        have q201 : x27_1 < (l0.length : Int) := of_decide_eq_true (by first | (with_reducible assumption) | assumption)
        obtain ⟨ad201, e201, hx201_0⟩ := Kd.at_int HR0.out x27_1 p201 q201
        cases e201
        replace hx201_0 := (HB.out.cell (World.block_lt_of_cell? w _ hx201_0)).trans hx201_0
        replace p201 := eq_true p201
        replace q201 := eq_true q201
        go_wp2_with (first | ((with_reducible refine gate_callee (f := 33) rfl ?_); refine goesL_ (some 33) rfl rfl Tryd.func33 (by kernel_rfl) rfl #[.int .i32 (rd l0 x27_1)] rfl (by (try simp only [List.map_toArray, List.map_cons, List.map_nil]); first | done | rfl | (simp only [List.length_drop, List.length_take]; rfl)) ?_; (with_reducible refine (posternref14_scalar.calls (rd l0 x27_1) true _ A7.out).mono ?_); rintro e w' ⟨rfl, ⟨nd, rfl⟩⟩; refine ⟨_, rfl, ?_⟩))
        go_roundg k1
        case measure => have := HK1.out; omega
        case rel => exact ⟨(x5_1), (wrap64 (x27_1 + 1)), (by first | rfl | (simp; done) | (simp [*]; done)), H', ⟨by have := HK1.out; omega⟩, ⟨by (with_reducible repeat (first | apply Kd.R_alloc | apply Kd.R_drewN | apply Kd.R_drew)); exact HO_5.out⟩, ⟨by repeat (first | (with_reducible first | exact HB.out | apply below_alloc | apply pw_below_drewN | apply below_drew1) | exact HB.out)⟩⟩
      ·replace c8 := Bool.eq_false_iff.mpr c8
       subst c8
       have H1 : (some ((⟨#[]⟩ : ByteArray), x27_1, 20)) = some (r1, r2, r3) := by rw [if_neg (show ¬ (false = true) by decide)] at H; exact H
       clear H
       have H := H1
       clear H1
       simp only [Option.some.injEq, Prod.mk.injEq] at H
       obtain ⟨rfl, rfl, rfl⟩ := H
       have p201 : 0 ≤ (x27_1 : Int) := of_decide_eq_true (by first | (with_reducible assumption) | assumption)
       have q201 : x27_1 < (l0.length : Int) := of_decide_eq_true (by first | (with_reducible assumption) | assumption)
       obtain ⟨ad201, e201, hx201_0⟩ := Kd.at_int HR0.out x27_1 p201 q201
       cases e201
       replace hx201_0 := (HB.out.cell (World.block_lt_of_cell? w _ hx201_0)).trans hx201_0
       replace p201 := eq_true p201
       replace q201 := eq_true q201
       go_wp2_with (first | ((with_reducible refine gate_callee (f := 33) rfl ?_); refine goesL_ (some 33) rfl rfl Tryd.func33 (by kernel_rfl) rfl #[.int .i32 (rd l0 x27_1)] rfl (by (try simp only [List.map_toArray, List.map_cons, List.map_nil]); first | done | rfl | (simp only [List.length_drop, List.length_take]; rfl)) ?_; (with_reducible refine (posternref14_scalar.calls (rd l0 x27_1) false _ A7.out).mono ?_); rintro e w' ⟨rfl, ⟨nd, rfl⟩⟩; refine ⟨_, rfl, ?_⟩))
       go_ret3
       exact ⟨by first | rfl | (simp [errW_none, errW_some] <;> rfl) | (simp [*, errW_none, errW_some] <;> rfl), by repeat (first | (with_reducible first | exact HB.out | apply below_alloc | apply pw_below_drewN | apply below_drew1) | exact HB.out)⟩
     ·rw [if_neg c6] at H
      exact absurd H (by simp)
    ·rw [if_neg c5] at H
     exact absurd H (by simp)
   ·rw [if_neg c4] at H
    have c4b0 : decide (x27_1 < (l0.length : Int)) = false := decide_eq_false c4
    clear c4
    have HC12 := Aside0.mk H
    clear H
    obtain ⟨Ao13, co13, eo13⟩ := Kd.R_slice HO_5.out
    subst eo13
    go_upto_if 47 with (fail)
    go_cut [5] (fun v5 wc => ∃ (kq : Nat) (x5_11 : List Int), Aside0 (posternref14_Encode.j1 kq l0 x5_11 (x5_1.length : Int) = some (r1, r2, r3)) ∧ Aside0 (kq ≤ k1) ∧ Aside0 (Kd.R (Kd.int .u8) 5 wc w.heap.size (fun _ => True) v5 x5_11) ∧ Aside0 (Below w.heap.size w wc))
    case first =>
     have H := HC12.out
     clear HC12
     by_cases c14 : (x5_1.length : Int) > 0
     ·rw [if_pos c14] at H
      have c14b0 : decide (0 < (x5_1.length : Int)) = true := decide_eq_true c14
      have c14b1 : decide (0 < x5_1.length) = true := decide_eq_true (by omega)
      clear c14
      (first | rw [c14b0] | rw [c14b1] | (simp only [i64_w, i32_w]; rw [c14b0]) | skip)
      by_cases c15 : x5_1.length < 140737488355328
      ·rw [if_pos c15] at H
       have LMc15 := Aside0.mk c15
       clear c15
       obtain ⟨y206, hy206⟩ : ∃ y_ : List Int, y_ = (x5_1 ++ [45]) := ⟨_, rfl⟩
       replace H : (posternref14_Encode.j1 k1 l0 y206 (x5_1.length : Int)) = some (r1, r2, r3) := by first | (rw [hy206]; with_reducible exact H) | (have H2_ := (Option.bind_some _ _).symm.trans H; rw [hy206]; with_reducible exact H2_) | (have H2_ := (Option.bind_some _ _).symm.trans H; with_reducible exact H2_) | with_reducible exact H | (rw [hy206]; exact H) | exact H
       have Ny206 := Aside0.mk hy206
       clear hy206
       have H' := Aside0.mk H
       clear H
       go_wp2_with (first | ((with_reducible refine gate_builtin (b := .append) (xs := #[.tmp 48, .tmp 49]) rfl ?_); at_builtin; refine Kd.R_append (Kd.int .u8) (w0 := w) w.heap.size rfl (.tmp 48) (.tmp 49) 35 5 (.int .u8 0) 1 rfl Tryd.underlying35 info5 rfl (by decide) (by omega) (.slice Ao13 x5_1.length co13) x5_1 45 [.int .u8 45] (fun _ => True) (fun _ => False) rfl rfl ?aP (fun _ hk => hk.elim) ?aF ?aO ?aB ?aS ?aL ?_; (case aP => exact rfl); (case aB => exact (by repeat (first | (with_reducible first | exact HB.out | apply below_alloc | apply pw_below_drewN | apply below_drew1) | exact HB.out))); (case aF => exact (fun _ _ => trivial)); (case aO => exact (by (with_reducible repeat (first | apply Kd.R_alloc | apply Kd.R_drewN | apply Kd.R_drew)); exact HO_5.out)); (case aS => exact (below_size (by repeat (first | (with_reducible first | exact HB.out | apply below_alloc | apply pw_below_drewN | apply below_drew1) | exact HB.out)))); (case aL => have := LMc15.out; omega); intro v207 w16 ho hb hg hat; rw [← Ny206.out] at ho; have n0_ := Aside0.mk (hb); have n1_ := Aside0.mk (ho); clear HB; clear HO_5; have HB := n0_; have HO208 := n1_; clear n0_ n1_; clear ho hb hg hat))
       go_meet
       case rel => exact ⟨_, (y206), H', ⟨by have := HK1.out; first | omega | exact Nat.le_refl _⟩, ⟨by (with_reducible repeat (first | apply Kd.R_alloc | apply Kd.R_drewN | apply Kd.R_drew)); exact HO208.out⟩, ⟨by repeat (first | (with_reducible first | exact HB.out | apply below_alloc | apply pw_below_drewN | apply below_drew1) | exact HB.out)⟩⟩
      ·rw [if_neg c15] at H
       exact absurd H (by simp)
     ·rw [if_neg c14] at H
      have c14b0 : decide (0 < (x5_1.length : Int)) = false := decide_eq_false c14
      have c14b1 : decide (0 < x5_1.length) = false := decide_eq_false (by omega)
      clear c14
      (first | rw [c14b0] | rw [c14b1] | (simp only [i64_w, i32_w]; rw [c14b0]) | skip)
      have H' := Aside0.mk H
      clear H
      go_wp2
      go_meet
      case rel => exact ⟨_, (x5_1), H', ⟨by have := HK1.out; first | omega | exact Nat.le_refl _⟩, ⟨by (with_reducible repeat (first | apply Kd.R_alloc | apply Kd.R_drewN | apply Kd.R_drew)); exact HO_5.out⟩, ⟨by repeat (first | (with_reducible first | exact HB.out | apply below_alloc | apply pw_below_drewN | apply below_drew1) | exact HB.out)⟩⟩
    case rest =>
     clear HC12
     try clear c1
     try clear p2
     try clear q2
     try clear hx2
     try clear c3
     try clear c4
     try clear c4b0
     try clear c5
     try clear c5b0
     try clear c6
     try clear c6b0
     try clear p6
     try clear c8
     try clear c9
     try clear c9b0
     try clear c10
     try clear c13
     try clear c14
     try clear c14b0
     try clear c14b1
     try clear c15
     try clear hx201_0
     try clear p2
     try clear p201
     try clear q201
     obtain ⟨kq, x5_11, HA, HJ11, HO_5, HB⟩ := hcut
     cases kq with
     | zero => exact absurd HA.out (by simp [posternref14_Encode.j1])
     | succ kj11 =>
      have H := HA.out
      clear HA
      simp only [posternref14_Encode.j1] at H
      have H' := Aside0.mk H
      clear H
      go_wp2
      go_loopg [5, 9, 10, 11, 12] kj11 (fun kq v5 v9 v10 v11 v12 w' => ∃ (x5_3 : List Int) (x9_3 : Int) (x10_3 : Int) (x11_3 : Int) (x12_3 : Int), v9 = .int .i64 x9_3 ∧ v10 = .int .i64 x10_3 ∧ v11 = .int .i64 x11_3 ∧ v12 = .int .i64 x12_3 ∧ Aside0 (posternref14_Encode.l1 kq l0 x5_3 (x5_1.length : Int) x9_3 x10_3 x11_3 x12_3 = some (r1, r2, r3)) ∧ Aside0 (kq ≤ kj11) ∧ Aside0 (Kd.R (Kd.int .u8) 5 w' w.heap.size (fun _ => True) v5 x5_3) ∧ Aside0 (Below w.heap.size w w'))
      case atStart => exact ⟨(x5_11), (128), (0), (72), ((x5_1.length : Int)), (by first | rfl | (simp; done) | (simp [*]; done)), (by first | rfl | (simp; done) | (simp [*]; done)), (by first | rfl | (simp; done) | (simp [*]; done)), (by first | rfl | (simp; done) | (simp [*]; done)), H', ⟨Nat.le_refl _⟩, ⟨by (with_reducible repeat (first | apply Kd.R_alloc | apply Kd.R_drewN | apply Kd.R_drew)); exact HO_5.out⟩, ⟨by repeat (first | (with_reducible first | exact HB.out | apply below_alloc | apply pw_below_drewN | apply below_drew1) | exact HB.out)⟩⟩
      case round =>
       clear H'
       try clear c1
       try clear p2
       try clear q2
       try clear hx2
       try clear c3
       try clear c4
       try clear c4b0
       try clear c5
       try clear c5b0
       try clear c6
       try clear c6b0
       try clear p6
       try clear c8
       try clear c9
       try clear c9b0
       try clear c10
       try clear c13
       try clear c14
       try clear c14b0
       try clear c14b1
       try clear c15
       try clear hx201_0
       try clear p2
       try clear p201
       try clear p6
       try clear q2
       try clear q201
       obtain ⟨x5_3, x9_3, x10_3, x11_3, x12_3, rfl, rfl, rfl, rfl, HA, HK3, HO_5, HB⟩ := hrel
       cases gk with
       | zero => exact absurd HA.out (by simp [posternref14_Encode.l1])
       | succ k3 =>
        have H := HA.out
        clear HA
        simp only [posternref14_Encode.l1] at H
        by_cases c17 : x12_3 < (l0.length : Int)
        ·rw [if_pos c17] at H
         have c17b0 : decide (x12_3 < (l0.length : Int)) = true := decide_eq_true c17
         clear c17
         have H' := Aside0.mk H
         clear H
         go_wp2
         go_loopg [13, 58] k3 (fun kq v13 v58 w' => ∃ (x13_4 : Int) (x58_4 : Int), v13 = .int .i64 x13_4 ∧ v58 = .int .i64 x58_4 ∧ Aside0 (posternref14_Encode.l2 kq l0 x5_3 (x5_1.length : Int) x9_3 x10_3 x11_3 x12_3 x13_4 l0 (l0.length : Int) x58_4 = some (r1, r2, r3)) ∧ Aside0 (kq ≤ k3) ∧ Aside0 (Kd.R (Kd.int .u8) 5 w' w.heap.size (fun _ => True) u5 x5_3) ∧ Aside0 (Below w.heap.size w w'))
         case atStart => exact ⟨(1114112), (0), (by first | rfl | (simp; done) | (simp [*]; done)), (by first | rfl | (simp; done) | (simp [*]; done)), H', ⟨Nat.le_refl _⟩, ⟨by (with_reducible repeat (first | apply Kd.R_alloc | apply Kd.R_drewN | apply Kd.R_drew)); exact HO_5.out⟩, ⟨by repeat (first | (with_reducible first | exact HB.out | apply below_alloc | apply pw_below_drewN | apply below_drew1) | exact HB.out)⟩⟩
         case round =>
          clear H'
          try clear c1
          try clear p2
          try clear q2
          try clear hx2
          try clear c3
          try clear c4
          try clear c4b0
          try clear c5
          try clear c5b0
          try clear c6
          try clear c6b0
          try clear p6
          try clear c8
          try clear c9
          try clear c9b0
          try clear c10
          try clear c13
          try clear c14
          try clear c14b0
          try clear c14b1
          try clear c15
          try clear c17
          try clear c17b0
          try clear hx201_0
          try clear p2
          try clear p201
          try clear p6
          try clear q2
          try clear q201
          obtain ⟨x13_4, x58_4, rfl, rfl, HA, HK4, HO_5, HB⟩ := hrel
          cases gk with
          | zero => exact absurd HA.out (by simp [posternref14_Encode.l2])
          | succ k4 =>
           have H := HA.out
           clear HA
           simp only [posternref14_Encode.l2] at H
           by_cases c18 : x58_4 < (l0.length : Int)
           ·rw [if_pos c18] at H
            have c18b0 : decide (x58_4 < (l0.length : Int)) = true := decide_eq_true c18
            clear c18
            by_cases c19 : 0 ≤ x58_4
            ·rw [if_pos c19] at H
             have c19b0 : decide (0 ≤ x58_4) = true := decide_eq_true c19
             clear c19
             by_cases c20 : x58_4 < (l0.length : Int)
             ·rw [if_pos c20] at H
              have c20b0 : decide (x58_4 < (l0.length : Int)) = true := decide_eq_true c20
              clear c20
              by_cases c21 : (wrap64 (rd l0 x58_4)) ≥ x9_3
              ·rw [if_pos c21] at H
               have c21b0 : decide (x9_3 ≤ (wrap64 (rd l0 x58_4))) = true := decide_eq_true c21
               clear c21
               by_cases c22 : (wrap64 (rd l0 x58_4)) < x13_4
               ·rw [if_pos c22] at H
                have c22b0 : decide ((wrap64 (rd l0 x58_4)) < x13_4) = true := decide_eq_true c22
                clear c22
                have H' := Aside0.mk H
                clear H
                have p214 : 0 ≤ (x58_4 : Int) := of_decide_eq_true (by first | (with_reducible assumption) | assumption)
                have q214 : x58_4 < (l0.length : Int) := of_decide_eq_true (by first | (with_reducible assumption) | assumption)
                obtain ⟨ad214, e214, hx214_0⟩ := Kd.at_int HR0.out x58_4 p214 q214
                cases e214
                replace hx214_0 := (HB.out.cell (World.block_lt_of_cell? w _ hx214_0)).trans hx214_0
                replace p214 := eq_true p214
                replace q214 := eq_true q214
                go_wp2
                go_roundg k4
                case measure => have := HK1.out; have := HJ11.out; have := HK3.out; have := HK4.out; omega
                case rel => exact ⟨(wrap64 (rd l0 x58_4)), (wrap64 (x58_4 + 1)), (by first | rfl | (simp; done) | (simp [*]; done)), (by first | rfl | (simp; done) | (simp [*]; done)), H', ⟨by have := HK1.out; have := HJ11.out; have := HK3.out; have := HK4.out; omega⟩, ⟨by (with_reducible repeat (first | apply Kd.R_alloc | apply Kd.R_drewN | apply Kd.R_drew)); exact HO_5.out⟩, ⟨by repeat (first | (with_reducible first | exact HB.out | apply below_alloc | apply pw_below_drewN | apply below_drew1) | exact HB.out)⟩⟩
               ·rw [if_neg c22] at H
                have c22b0 : decide ((wrap64 (rd l0 x58_4)) < x13_4) = false := decide_eq_false c22
                clear c22
                have H' := Aside0.mk H
                clear H
                have p214 : 0 ≤ (x58_4 : Int) := of_decide_eq_true (by first | (with_reducible assumption) | assumption)
                have q214 : x58_4 < (l0.length : Int) := of_decide_eq_true (by first | (with_reducible assumption) | assumption)
                obtain ⟨ad214, e214, hx214_0⟩ := Kd.at_int HR0.out x58_4 p214 q214
                cases e214
                replace hx214_0 := (HB.out.cell (World.block_lt_of_cell? w _ hx214_0)).trans hx214_0
                replace p214 := eq_true p214
                replace q214 := eq_true q214
                go_wp2
                go_roundg k4
                case measure => have := HK1.out; have := HJ11.out; have := HK3.out; have := HK4.out; omega
                case rel => exact ⟨(x13_4), (wrap64 (x58_4 + 1)), (by first | rfl | (simp; done) | (simp [*]; done)), (by first | rfl | (simp; done) | (simp [*]; done)), H', ⟨by have := HK1.out; have := HJ11.out; have := HK3.out; have := HK4.out; omega⟩, ⟨by (with_reducible repeat (first | apply Kd.R_alloc | apply Kd.R_drewN | apply Kd.R_drew)); exact HO_5.out⟩, ⟨by repeat (first | (with_reducible first | exact HB.out | apply below_alloc | apply pw_below_drewN | apply below_drew1) | exact HB.out)⟩⟩
              ·rw [if_neg c21] at H
               have c21b0 : decide (x9_3 ≤ (wrap64 (rd l0 x58_4))) = false := decide_eq_false c21
               clear c21
               have H' := Aside0.mk H
               clear H
               have p214 : 0 ≤ (x58_4 : Int) := of_decide_eq_true (by first | (with_reducible assumption) | assumption)
               have q214 : x58_4 < (l0.length : Int) := of_decide_eq_true (by first | (with_reducible assumption) | assumption)
               obtain ⟨ad214, e214, hx214_0⟩ := Kd.at_int HR0.out x58_4 p214 q214
               cases e214
               replace hx214_0 := (HB.out.cell (World.block_lt_of_cell? w _ hx214_0)).trans hx214_0
               replace p214 := eq_true p214
               replace q214 := eq_true q214
               go_wp2
               go_roundg k4
               case measure => have := HK1.out; have := HJ11.out; have := HK3.out; have := HK4.out; omega
               case rel => exact ⟨(x13_4), (wrap64 (x58_4 + 1)), (by first | rfl | (simp; done) | (simp [*]; done)), (by first | rfl | (simp; done) | (simp [*]; done)), H', ⟨by have := HK1.out; have := HJ11.out; have := HK3.out; have := HK4.out; omega⟩, ⟨by (with_reducible repeat (first | apply Kd.R_alloc | apply Kd.R_drewN | apply Kd.R_drew)); exact HO_5.out⟩, ⟨by repeat (first | (with_reducible first | exact HB.out | apply below_alloc | apply pw_below_drewN | apply below_drew1) | exact HB.out)⟩⟩
             ·rw [if_neg c20] at H
              exact absurd H (by simp)
            ·rw [if_neg c19] at H
             exact absurd H (by simp)
           ·rw [if_neg c18] at H
            have c18b0 : decide (x58_4 < (l0.length : Int)) = false := decide_eq_false c18
            clear c18
            by_cases c23 : (wrap64 (x10_3 + (wrap64 ((wrap64 (x13_4 - x9_3)) * (wrap64 (x12_3 + 1)))))) > 2147483647
            ·rw [if_pos c23] at H
             have c23b0 : decide (2147483647 < (wrap64 (x10_3 + (wrap64 ((wrap64 (x13_4 - x9_3)) * (wrap64 (x12_3 + 1))))))) = true := decide_eq_true c23
             clear c23
             simp only [Option.some.injEq, Prod.mk.injEq] at H
             obtain ⟨rfl, rfl, rfl⟩ := H
             go_wp2
             go_ret3
             exact ⟨by first | rfl | (simp [errW_none, errW_some] <;> rfl) | (simp [*, errW_none, errW_some] <;> rfl), by repeat (first | (with_reducible first | exact HB.out | apply below_alloc | apply pw_below_drewN | apply below_drew1) | exact HB.out)⟩
            ·rw [if_neg c23] at H
             have c23b0 : decide (2147483647 < (wrap64 (x10_3 + (wrap64 ((wrap64 (x13_4 - x9_3)) * (wrap64 (x12_3 + 1))))))) = false := decide_eq_false c23
             clear c23
             have H' := Aside0.mk H
             clear H
             go_wp2
             go_loopg [5, 10, 11, 12, 88] k4 (fun kq v5 v10 v11 v12 v88 w' => ∃ (x5_5 : List Int) (x10_5 : Int) (x11_5 : Int) (x12_5 : Int) (x88_5 : Int), v10 = .int .i64 x10_5 ∧ v11 = .int .i64 x11_5 ∧ v12 = .int .i64 x12_5 ∧ v88 = .int .i64 x88_5 ∧ Aside0 (posternref14_Encode.l3 kq l0 x5_5 (x5_1.length : Int) x13_4 x10_5 x11_5 x12_5 l0 (l0.length : Int) x88_5 = some (r1, r2, r3)) ∧ Aside0 (kq ≤ k4) ∧ Aside0 (Kd.R (Kd.int .u8) 5 w' w.heap.size (fun _ => True) v5 x5_5) ∧ Aside0 (Below w.heap.size w w'))
             case atStart => exact ⟨(x5_3), (wrap64 (x10_3 + (wrap64 ((wrap64 (x13_4 - x9_3)) * (wrap64 (x12_3 + 1)))))), (x11_3), (x12_3), (0), (by first | rfl | (simp; done) | (simp [*]; done)), (by first | rfl | (simp; done) | (simp [*]; done)), (by first | rfl | (simp; done) | (simp [*]; done)), (by first | rfl | (simp; done) | (simp [*]; done)), H', ⟨Nat.le_refl _⟩, ⟨by (with_reducible repeat (first | apply Kd.R_alloc | apply Kd.R_drewN | apply Kd.R_drew)); exact HO_5.out⟩, ⟨by repeat (first | (with_reducible first | exact HB.out | apply below_alloc | apply pw_below_drewN | apply below_drew1) | exact HB.out)⟩⟩
             case round =>
              clear H'
              try clear c1
              try clear c2
              try clear p2
              try clear q2
              try clear hx2
              try clear c3
              try clear c4
              try clear c4b0
              try clear c5
              try clear c5b0
              try clear c6
              try clear c6b0
              try clear p6
              try clear c8
              try clear c9
              try clear c9b0
              try clear c10
              try clear c13
              try clear c14
              try clear c14b0
              try clear c14b1
              try clear c15
              try clear c17
              try clear c17b0
              try clear c18
              try clear c18b0
              try clear c19
              try clear c19b0
              try clear c20
              try clear c20b0
              try clear p20
              try clear q20
              try clear hx20
              try clear c21
              try clear c21b0
              try clear p21
              try clear q21
              try clear hx21
              try clear c22
              try clear c22b0
              try clear c23
              try clear c23b0
              try clear hx201_0
              try clear hx214_0
              try clear p2
              try clear p201
              try clear p214
              try clear p6
              try clear q2
              try clear q201
              try clear q214
              obtain ⟨x5_5, x10_5, x11_5, x12_5, x88_5, rfl, rfl, rfl, rfl, HA, HK5, HO_5, HB⟩ := hrel
              cases gk with
              | zero => exact absurd HA.out (by simp [posternref14_Encode.l3])
              | succ k5 =>
               have H := HA.out
               clear HA
               simp only [posternref14_Encode.l3] at H
               by_cases c24 : x88_5 < (l0.length : Int)
               ·rw [if_pos c24] at H
                have c24b0 : decide (x88_5 < (l0.length : Int)) = true := decide_eq_true c24
                clear c24
                by_cases c25 : 0 ≤ x88_5
                ·rw [if_pos c25] at H
                 have c25b0 : decide (0 ≤ x88_5) = true := decide_eq_true c25
                 clear c25
                 by_cases c26 : x88_5 < (l0.length : Int)
                 ·rw [if_pos c26] at H
                  have c26b0 : decide (x88_5 < (l0.length : Int)) = true := decide_eq_true c26
                  clear c26
                  have HC27 := Aside0.mk H
                  clear H
                  have p215 : 0 ≤ (x88_5 : Int) := of_decide_eq_true (by first | (with_reducible assumption) | assumption)
                  have q215 : x88_5 < (l0.length : Int) := of_decide_eq_true (by first | (with_reducible assumption) | assumption)
                  obtain ⟨ad215, e215, hx215_0⟩ := Kd.at_int HR0.out x88_5 p215 q215
                  cases e215
                  replace hx215_0 := (HB.out.cell (World.block_lt_of_cell? w _ hx215_0)).trans hx215_0
                  replace p215 := eq_true p215
                  replace q215 := eq_true q215
                  go_upto_if 95 with (fail)
                  go_cut [10] (fun v10 wc => ∃ (kq : Nat) (x10_26 : Int), v10 = .int .i64 x10_26 ∧ Aside0 (posternref14_Encode.j5 kq l0 x5_5 (x5_1.length : Int) x13_4 x10_26 x11_5 x12_5 (rd l0 x88_5) l0 (l0.length : Int) x88_5 = some (r1, r2, r3)) ∧ Aside0 (kq ≤ k5) ∧ Aside0 (Kd.R (Kd.int .u8) 5 wc w.heap.size (fun _ => True) u5 x5_5) ∧ Aside0 (Below w.heap.size w wc))
                  case first =>
                   have H := HC27.out
                   clear HC27
                   by_cases c28 : (wrap64 (rd l0 x88_5)) < x13_4
                   ·rw [if_pos c28] at H
                    have c28b0 : decide ((wrap64 (rd l0 x88_5)) < x13_4) = true := decide_eq_true c28
                    clear c28
                    (first | rw [c28b0] | rw [c28b1] | (simp only [i64_w, i32_w]; rw [c28b0]) | skip)
                    by_cases c29 : (wrap64 (x10_5 + 1)) > 2147483647
                    ·rw [if_pos c29] at H
                     have c29b0 : decide (2147483647 < (wrap64 (x10_5 + 1))) = true := decide_eq_true c29
                     clear c29
                     simp only [Option.some.injEq, Prod.mk.injEq] at H
                     obtain ⟨rfl, rfl, rfl⟩ := H
                     go_wp2
                     go_ret3
                     exact ⟨by first | rfl | (simp [errW_none, errW_some] <;> rfl) | (simp [*, errW_none, errW_some] <;> rfl), by repeat (first | (with_reducible first | exact HB.out | apply below_alloc | apply pw_below_drewN | apply below_drew1) | exact HB.out)⟩
                    ·rw [if_neg c29] at H
                     have c29b0 : decide (2147483647 < (wrap64 (x10_5 + 1))) = false := decide_eq_false c29
                     clear c29
                     have H' := Aside0.mk H
                     clear H
                     go_wp2
                     go_meet
                     case rel => exact ⟨_, (wrap64 (x10_5 + 1)), (by first | rfl | (simp; done) | (simp [*]; done)), H', ⟨by have := HK1.out; have := HJ11.out; have := HK3.out; have := HK4.out; have := HK5.out; first | omega | exact Nat.le_refl _⟩, ⟨by (with_reducible repeat (first | apply Kd.R_alloc | apply Kd.R_drewN | apply Kd.R_drew)); exact HO_5.out⟩, ⟨by repeat (first | (with_reducible first | exact HB.out | apply below_alloc | apply pw_below_drewN | apply below_drew1) | exact HB.out)⟩⟩
                   ·rw [if_neg c28] at H
                    have c28b0 : decide ((wrap64 (rd l0 x88_5)) < x13_4) = false := decide_eq_false c28
                    clear c28
                    (first | rw [c28b0] | rw [c28b1] | (simp only [i64_w, i32_w]; rw [c28b0]) | skip)
                    have H' := Aside0.mk H
                    clear H
                    go_wp2
                    go_meet
                    case rel => exact ⟨_, (x10_5), (by first | rfl | (simp; done) | (simp [*]; done)), H', ⟨by have := HK1.out; have := HJ11.out; have := HK3.out; have := HK4.out; have := HK5.out; first | omega | exact Nat.le_refl _⟩, ⟨by (with_reducible repeat (first | apply Kd.R_alloc | apply Kd.R_drewN | apply Kd.R_drew)); exact HO_5.out⟩, ⟨by repeat (first | (with_reducible first | exact HB.out | apply below_alloc | apply pw_below_drewN | apply below_drew1) | exact HB.out)⟩⟩
                  case rest =>
                   clear HC27
                   try clear c1
                   try clear c2
                   try clear p2
                   try clear q2
                   try clear hx2
                   try clear c3
                   try clear c4
                   try clear c4b0
                   try clear c5
                   try clear c5b0
                   try clear c6
                   try clear c6b0
                   try clear p6
                   try clear c8
                   try clear c9
                   try clear c9b0
                   try clear c10
                   try clear c13
                   try clear c14
                   try clear c14b0
                   try clear c14b1
                   try clear c15
                   try clear c17
                   try clear c17b0
                   try clear c18
                   try clear c18b0
                   try clear c19
                   try clear c19b0
                   try clear c20
                   try clear c20b0
                   try clear p20
                   try clear q20
                   try clear hx20
                   try clear c21
                   try clear c21b0
                   try clear p21
                   try clear q21
                   try clear hx21
                   try clear c22
                   try clear c22b0
                   try clear c23
                   try clear c23b0
                   try clear c24
                   try clear c24b0
                   try clear c25
                   try clear c25b0
                   try clear c26
                   try clear c26b0
                   try clear c28
                   try clear c28b0
                   try clear c29
                   try clear c29b0
                   try clear hx201_0
                   try clear hx214_0
                   try clear hx215_0
                   try clear p2
                   try clear p20
                   try clear p201
                   try clear p21
                   try clear p214
                   try clear p215
                   try clear p6
                   try clear q2
                   try clear q20
                   try clear q201
                   try clear q21
                   try clear q214
                   try clear q215
                   obtain ⟨kq, x10_26, rfl, HA, HJ26, HO_5, HB⟩ := hcut
                   cases kq with
                   | zero => exact absurd HA.out (by simp [posternref14_Encode.j5])
                   | succ kj26 =>
                    have H := HA.out
                    clear HA
                    simp only [posternref14_Encode.j5] at H
                    by_cases c30 : (wrap64 ((rd l0 x88_5))) = x13_4
                    ·rw [if_pos c30] at H
                     have c30b0 : ((wrap64 ((rd l0 x88_5))) == x13_4) = true := beq_iff_eq.mpr c30
                     have c30b1 : ((wrap64 ((rd l0 x88_5))) != x13_4) = false := bne_eq_false_iff_eq.mpr c30
                     clear c30
                     have H' := Aside0.mk H
                     clear H
                     go_wp2
                     go_loopg [5, 18, 19] kj26 (fun kq v5 v18 v19 w' => ∃ (x5_7 : List Int) (x18_7 : Int) (x19_7 : Int), v18 = .int .i64 x18_7 ∧ v19 = .int .i64 x19_7 ∧ Aside0 (posternref14_Encode.l4 kq l0 x5_7 (x5_1.length : Int) x13_4 x10_26 x11_5 x12_5 x18_7 x19_7 l0 (l0.length : Int) x88_5 = some (r1, r2, r3)) ∧ Aside0 (kq ≤ kj26) ∧ Aside0 (Kd.R (Kd.int .u8) 5 w' w.heap.size (fun _ => True) v5 x5_7) ∧ Aside0 (Below w.heap.size w w'))
                     case atStart => exact ⟨(x5_5), (x10_26), (36), (by first | rfl | (simp; done) | (simp [*]; done)), (by first | rfl | (simp; done) | (simp [*]; done)), H', ⟨Nat.le_refl _⟩, ⟨by (with_reducible repeat (first | apply Kd.R_alloc | apply Kd.R_drewN | apply Kd.R_drew)); exact HO_5.out⟩, ⟨by repeat (first | (with_reducible first | exact HB.out | apply below_alloc | apply pw_below_drewN | apply below_drew1) | exact HB.out)⟩⟩
                     case round =>
                      clear H'
                      try clear c1
                      try clear c2
                      try clear p2
                      try clear q2
                      try clear hx2
                      try clear c3
                      try clear c4
                      try clear c4b0
                      try clear c5
                      try clear c5b0
                      try clear c6
                      try clear c6b0
                      try clear p6
                      try clear c8
                      try clear c9
                      try clear c9b0
                      try clear c10
                      try clear c13
                      try clear c14
                      try clear c14b0
                      try clear c14b1
                      try clear c15
                      try clear c17
                      try clear c17b0
                      try clear c18
                      try clear c18b0
                      try clear c19
                      try clear c19b0
                      try clear c20
                      try clear c20b0
                      try clear p20
                      try clear q20
                      try clear hx20
                      try clear c21
                      try clear c21b0
                      try clear p21
                      try clear q21
                      try clear hx21
                      try clear c22
                      try clear c22b0
                      try clear c23
                      try clear c23b0
                      try clear c24
                      try clear c24b0
                      try clear c25
                      try clear c25b0
                      try clear c26
                      try clear c26b0
                      try clear c28
                      try clear c28b0
                      try clear c29
                      try clear c29b0
                      try clear c30
                      try clear c30b0
                      try clear c30b1
                      try clear hx201_0
                      try clear hx214_0
                      try clear hx215_0
                      try clear p2
                      try clear p20
                      try clear p201
                      try clear p21
                      try clear p214
                      try clear p215
                      try clear p6
                      try clear q2
                      try clear q20
                      try clear q201
                      try clear q21
                      try clear q214
                      try clear q215
                      obtain ⟨x5_7, x18_7, x19_7, rfl, rfl, HA, HK7, HO_5, HB⟩ := hrel
                      cases gk with
                      | zero => exact absurd HA.out (by simp [posternref14_Encode.l4])
                      | succ k7 =>
                       have H := HA.out
                       clear HA
                       simp only [posternref14_Encode.l4] at H
                       replace H := Option.bind_eq_some_iff.mp H
                       obtain ⟨t216, A310, H⟩ := H
                       replace H : (if x18_7 < t216 then ((posternref14_Letter.f x18_7).bind fun t217 => (if x5_7.length < 140737488355328 then ((posternref14_Adapt.f k7 x10_26 (wrap64 (x12_5 + 1)) (x12_5 == (x5_1.length : Int))).bind fun t221 => (posternref14_Encode.l3 k7 l0 (x5_7 ++ [t217]) (x5_1.length : Int) x13_4 0 t221 (wrap64 (x12_5 + 1)) l0 (l0.length : Int) (wrap64 (x88_5 + 1)))) else (none))) else (if (wrap64 (36 - t216)) = 0 then (none) else ((posternref14_Letter.f (wrap64 (t216 + (Int.tmod (wrap64 (x18_7 - t216)) (wrap64 (36 - t216)))))).bind fun t222 => (if x5_7.length < 140737488355328 then (posternref14_Encode.l4 k7 l0 (x5_7 ++ [t222]) (x5_1.length : Int) x13_4 x10_26 x11_5 x12_5 (wrap64 (Int.tdiv (wrap64 (x18_7 - t216)) (wrap64 (36 - t216)))) (wrap64 (x19_7 + 36)) l0 (l0.length : Int) x88_5) else (none))))) = some (r1, r2, r3) := H
                       have A31 := Aside0.mk A310
                       clear A310
                       by_cases c32 : x18_7 < t216
                       ·rw [if_pos c32] at H
                        have c32b0 : decide (x18_7 < t216) = true := decide_eq_true c32
                        clear c32
                        replace H := Option.bind_eq_some_iff.mp H
                        obtain ⟨t217, A330, H⟩ := H
                        replace H : (if x5_7.length < 140737488355328 then ((posternref14_Adapt.f k7 x10_26 (wrap64 (x12_5 + 1)) (x12_5 == (x5_1.length : Int))).bind fun t221 => (posternref14_Encode.l3 k7 l0 (x5_7 ++ [t217]) (x5_1.length : Int) x13_4 0 t221 (wrap64 (x12_5 + 1)) l0 (l0.length : Int) (wrap64 (x88_5 + 1)))) else (none)) = some (r1, r2, r3) := H
                        have A33 := Aside0.mk A330
                        clear A330
                        by_cases c34 : x5_7.length < 140737488355328
                        ·rw [if_pos c34] at H
                         have LMc34 := Aside0.mk c34
                         clear c34
                         obtain ⟨y218, hy218⟩ : ∃ y_ : List Int, y_ = (x5_7 ++ [t217]) := ⟨_, rfl⟩
                         replace H : ((posternref14_Adapt.f k7 x10_26 (wrap64 (x12_5 + 1)) (x12_5 == (x5_1.length : Int))).bind fun t221 => (posternref14_Encode.l3 k7 l0 y218 (x5_1.length : Int) x13_4 0 t221 (wrap64 (x12_5 + 1)) l0 (l0.length : Int) (wrap64 (x88_5 + 1)))) = some (r1, r2, r3) := by first | (rw [hy218]; with_reducible exact H) | (have H2_ := (Option.bind_some _ _).symm.trans H; rw [hy218]; with_reducible exact H2_) | (have H2_ := (Option.bind_some _ _).symm.trans H; with_reducible exact H2_) | with_reducible exact H | (rw [hy218]; exact H) | exact H
                         have Ny218 := Aside0.mk hy218
                         clear hy218
                         replace H := Option.bind_eq_some_iff.mp H
                         obtain ⟨t221, A350, H⟩ := H
                         replace H : (posternref14_Encode.l3 k7 l0 y218 (x5_1.length : Int) x13_4 0 t221 (wrap64 (x12_5 + 1)) l0 (l0.length : Int) (wrap64 (x88_5 + 1))) = some (r1, r2, r3) := H
                         have A35 := Aside0.mk A350
                         clear A350
                         have H' := Aside0.mk H
                         clear H
                         go_wp2_with (first | ((with_reducible refine gate_callee (f := 34) rfl ?_); refine goesL_ (some 107) rfl rfl Tryd.func34 (by kernel_rfl) rfl #[.int .i64 x19_7, .int .i64 x11_5] rfl (by (try simp only [List.map_toArray, List.map_cons, List.map_nil]); first | done | rfl | (simp only [List.length_drop, List.length_take]; rfl)) ?_; (with_reducible refine (posternref14_threshold.calls x19_7 x11_5 t216 _ A31.out).mono ?_); rintro e w' ⟨rfl, ⟨nd, rfl⟩⟩; refine ⟨_, rfl, ?_⟩) | ((with_reducible refine gate_callee (f := 21) rfl ?_); refine goesL_ (some 133) rfl rfl Tryd.func21 (by kernel_rfl) rfl #[.int .i64 x18_7] rfl (by (try simp only [List.map_toArray, List.map_cons, List.map_nil]); first | done | rfl | (simp only [List.length_drop, List.length_take]; rfl)) ?_; (with_reducible refine (posternref14_Letter.calls x18_7 t217 _ A33.out).mono ?_); rintro e w' ⟨rfl, ⟨nd, rfl⟩⟩; refine ⟨_, rfl, ?_⟩) | ((with_reducible refine gate_builtin (b := .append) (xs := #[.tmp 131, .tmp 134]) rfl ?_); at_builtin; refine Kd.R_append (Kd.int .u8) (w0 := w) w.heap.size rfl (.tmp 131) (.tmp 134) 35 5 (.int .u8 0) 1 rfl Tryd.underlying35 info5 rfl (by decide) (by omega) u5 x5_7 t217 [.int .u8 t217] (fun _ => True) (fun _ => False) rfl rfl ?aP (fun _ hk => hk.elim) ?aF ?aO ?aB ?aS ?aL ?_; (case aP => exact rfl); (case aB => exact (by repeat (first | (with_reducible first | exact HB.out | apply below_alloc | apply pw_below_drewN | apply below_drew1) | exact HB.out))); (case aF => exact (fun _ _ => trivial)); (case aO => exact (by (with_reducible repeat (first | apply Kd.R_alloc | apply Kd.R_drewN | apply Kd.R_drew)); exact HO_5.out)); (case aS => exact (below_size (by repeat (first | (with_reducible first | exact HB.out | apply below_alloc | apply pw_below_drewN | apply below_drew1) | exact HB.out)))); (case aL => have := LMc34.out; omega); intro v219 w36 ho hb hg hat; rw [← Ny218.out] at ho; have n0_ := Aside0.mk (hb); have n1_ := Aside0.mk (ho); clear HB; clear HO_5; have HB := n0_; have HO220 := n1_; clear n0_ n1_; clear ho hb hg hat) | ((with_reducible refine gate_callee (f := 23) rfl ?_); refine goesL_ (some 142) rfl rfl Tryd.func23 (by kernel_rfl) rfl #[.int .i64 x10_26, .int .i64 (wrap64 (x12_5 + 1)), .bool (x12_5 == (x5_1.length : Int))] rfl (by (try simp only [List.map_toArray, List.map_cons, List.map_nil]); first | done | rfl | (simp only [List.length_drop, List.length_take]; rfl)) ?_; (with_reducible refine (posternref14_Adapt.calls k7 x10_26 (wrap64 (x12_5 + 1)) (x12_5 == (x5_1.length : Int)) t221 _ A35.out).mono ?_); rintro e w' ⟨rfl, ⟨nd, rfl⟩⟩; refine ⟨_, rfl, ?_⟩))
                         go_roundg k7
                         case measure => have := HK1.out; have := HJ11.out; have := HK3.out; have := HK4.out; have := HK5.out; have := HJ26.out; have := HK7.out; omega
                         case rel => exact ⟨(y218), (0), (t221), (wrap64 (x12_5 + 1)), (wrap64 (x88_5 + 1)), (by first | rfl | (simp; done) | (simp [*]; done)), (by first | rfl | (simp; done) | (simp [*]; done)), (by first | rfl | (simp; done) | (simp [*]; done)), (by first | rfl | (simp; done) | (simp [*]; done)), H', ⟨by have := HK1.out; have := HJ11.out; have := HK3.out; have := HK4.out; have := HK5.out; have := HJ26.out; have := HK7.out; omega⟩, ⟨by (with_reducible repeat (first | apply Kd.R_alloc | apply Kd.R_drewN | apply Kd.R_drew)); exact HO220.out⟩, ⟨by repeat (first | (with_reducible first | exact HB.out | apply below_alloc | apply pw_below_drewN | apply below_drew1) | exact HB.out)⟩⟩
                        ·rw [if_neg c34] at H
                         exact absurd H (by simp)
                       ·rw [if_neg c32] at H
                        have c32b0 : decide (x18_7 < t216) = false := decide_eq_false c32
                        clear c32
                        by_cases c37 : (wrap64 (36 - t216)) = 0
                        ·rw [if_pos c37] at H
                         exact absurd H (by simp)
                        ·rw [if_neg c37] at H
                         have c37b0 : ((wrap64 (36 - t216)) == 0) = false := beq_eq_false_iff_ne.mpr c37
                         have c37b1 : ((wrap64 (36 - t216)) != 0) = true := bne_iff_ne.mpr c37
                         replace H := Option.bind_eq_some_iff.mp H
                         obtain ⟨t222, A380, H⟩ := H
                         replace H : (if x5_7.length < 140737488355328 then (posternref14_Encode.l4 k7 l0 (x5_7 ++ [t222]) (x5_1.length : Int) x13_4 x10_26 x11_5 x12_5 (wrap64 (Int.tdiv (wrap64 (x18_7 - t216)) (wrap64 (36 - t216)))) (wrap64 (x19_7 + 36)) l0 (l0.length : Int) x88_5) else (none)) = some (r1, r2, r3) := H
                         have A38 := Aside0.mk A380
                         clear A380
                         by_cases c39 : x5_7.length < 140737488355328
                         ·rw [if_pos c39] at H
                          have LMc39 := Aside0.mk c39
                          clear c39
                          obtain ⟨y223, hy223⟩ : ∃ y_ : List Int, y_ = (x5_7 ++ [t222]) := ⟨_, rfl⟩
                          replace H : (posternref14_Encode.l4 k7 l0 y223 (x5_1.length : Int) x13_4 x10_26 x11_5 x12_5 (wrap64 (Int.tdiv (wrap64 (x18_7 - t216)) (wrap64 (36 - t216)))) (wrap64 (x19_7 + 36)) l0 (l0.length : Int) x88_5) = some (r1, r2, r3) := by first | (rw [hy223]; with_reducible exact H) | (have H2_ := (Option.bind_some _ _).symm.trans H; rw [hy223]; with_reducible exact H2_) | (have H2_ := (Option.bind_some _ _).symm.trans H; with_reducible exact H2_) | with_reducible exact H | (rw [hy223]; exact H) | exact H
                          have Ny223 := Aside0.mk hy223
                          clear hy223
                          have H' := Aside0.mk H
                          clear H
                          go_wp2_with (first | ((with_reducible refine gate_callee (f := 34) rfl ?_); refine goesL_ (some 107) rfl rfl Tryd.func34 (by kernel_rfl) rfl #[.int .i64 x19_7, .int .i64 x11_5] rfl (by (try simp only [List.map_toArray, List.map_cons, List.map_nil]); first | done | rfl | (simp only [List.length_drop, List.length_take]; rfl)) ?_; (with_reducible refine (posternref14_threshold.calls x19_7 x11_5 t216 _ A31.out).mono ?_); rintro e w' ⟨rfl, ⟨nd, rfl⟩⟩; refine ⟨_, rfl, ?_⟩) | ((with_reducible refine gate_callee (f := 21) rfl ?_); refine goesL_ (some 120) rfl rfl Tryd.func21 (by kernel_rfl) rfl #[.int .i64 (wrap64 (t216 + (Int.tmod (wrap64 (x18_7 - t216)) (wrap64 (36 - t216)))))] rfl (by (try simp only [List.map_toArray, List.map_cons, List.map_nil]); first | done | rfl | (simp only [List.length_drop, List.length_take]; rfl)) ?_; (with_reducible refine (posternref14_Letter.calls (wrap64 (t216 + (Int.tmod (wrap64 (x18_7 - t216)) (wrap64 (36 - t216))))) t222 _ A38.out).mono ?_); rintro e w' ⟨rfl, ⟨nd, rfl⟩⟩; refine ⟨_, rfl, ?_⟩) | ((with_reducible refine gate_builtin (b := .append) (xs := #[.tmp 111, .tmp 121]) rfl ?_); at_builtin; refine Kd.R_append (Kd.int .u8) (w0 := w) w.heap.size rfl (.tmp 111) (.tmp 121) 35 5 (.int .u8 0) 1 rfl Tryd.underlying35 info5 rfl (by decide) (by omega) u5 x5_7 t222 [.int .u8 t222] (fun _ => True) (fun _ => False) rfl rfl ?aP (fun _ hk => hk.elim) ?aF ?aO ?aB ?aS ?aL ?_; (case aP => exact rfl); (case aB => exact (by repeat (first | (with_reducible first | exact HB.out | apply below_alloc | apply pw_below_drewN | apply below_drew1) | exact HB.out))); (case aF => exact (fun _ _ => trivial)); (case aO => exact (by (with_reducible repeat (first | apply Kd.R_alloc | apply Kd.R_drewN | apply Kd.R_drew)); exact HO_5.out)); (case aS => exact (below_size (by repeat (first | (with_reducible first | exact HB.out | apply below_alloc | apply pw_below_drewN | apply below_drew1) | exact HB.out)))); (case aL => have := LMc39.out; omega); intro v224 w40 ho hb hg hat; rw [← Ny223.out] at ho; have n0_ := Aside0.mk (hb); have n1_ := Aside0.mk (ho); clear HB; clear HO_5; have HB := n0_; have HO225 := n1_; clear n0_ n1_; clear ho hb hg hat))
                          go_roundg k7
                          case measure => have := HK1.out; have := HJ11.out; have := HK3.out; have := HK4.out; have := HK5.out; have := HJ26.out; have := HK7.out; omega
                          case rel => exact ⟨(y223), (wrap64 (Int.tdiv (wrap64 (x18_7 - t216)) (wrap64 (36 - t216)))), (wrap64 (x19_7 + 36)), (by first | rfl | (simp; done) | (simp [*]; done)), (by first | rfl | (simp; done) | (simp [*]; done)), H', ⟨by have := HK1.out; have := HJ11.out; have := HK3.out; have := HK4.out; have := HK5.out; have := HJ26.out; have := HK7.out; omega⟩, ⟨by (with_reducible repeat (first | apply Kd.R_alloc | apply Kd.R_drewN | apply Kd.R_drew)); exact HO225.out⟩, ⟨by repeat (first | (with_reducible first | exact HB.out | apply below_alloc | apply pw_below_drewN | apply below_drew1) | exact HB.out)⟩⟩
                         ·rw [if_neg c39] at H
                          exact absurd H (by simp)
                    ·rw [if_neg c30] at H
                     have c30b0 : ((wrap64 ((rd l0 x88_5))) == x13_4) = false := beq_eq_false_iff_ne.mpr c30
                     have c30b1 : ((wrap64 ((rd l0 x88_5))) != x13_4) = true := bne_iff_ne.mpr c30
                     have H' := Aside0.mk H
                     clear H
                     go_wp2
                     go_roundg kj26
                     case measure => have := HK1.out; have := HJ11.out; have := HK3.out; have := HK4.out; have := HK5.out; have := HJ26.out; omega
                     case rel => exact ⟨(x5_5), (x10_26), (x11_5), (x12_5), (wrap64 (x88_5 + 1)), (by first | rfl | (simp; done) | (simp [*]; done)), (by first | rfl | (simp; done) | (simp [*]; done)), (by first | rfl | (simp; done) | (simp [*]; done)), (by first | rfl | (simp; done) | (simp [*]; done)), H', ⟨by have := HK1.out; have := HJ11.out; have := HK3.out; have := HK4.out; have := HK5.out; have := HJ26.out; omega⟩, ⟨by (with_reducible repeat (first | apply Kd.R_alloc | apply Kd.R_drewN | apply Kd.R_drew)); exact HO_5.out⟩, ⟨by repeat (first | (with_reducible first | exact HB.out | apply below_alloc | apply pw_below_drewN | apply below_drew1) | exact HB.out)⟩⟩
                 ·rw [if_neg c26] at H
                  exact absurd H (by simp)
                ·rw [if_neg c25] at H
                 exact absurd H (by simp)
               ·rw [if_neg c24] at H
                have c24b0 : decide (x88_5 < (l0.length : Int)) = false := decide_eq_false c24
                clear c24
                have H' := Aside0.mk H
                clear H
                go_wp2
                go_roundg k5
                case measure => have := HK1.out; have := HJ11.out; have := HK3.out; have := HK4.out; have := HK5.out; omega
                case rel => exact ⟨(x5_5), (wrap64 (x13_4 + 1)), (wrap64 (x10_5 + 1)), (x11_5), (x12_5), (by first | rfl | (simp; done) | (simp [*]; done)), (by first | rfl | (simp; done) | (simp [*]; done)), (by first | rfl | (simp; done) | (simp [*]; done)), (by first | rfl | (simp; done) | (simp [*]; done)), H', ⟨by have := HK1.out; have := HJ11.out; have := HK3.out; have := HK4.out; have := HK5.out; omega⟩, ⟨by (with_reducible repeat (first | apply Kd.R_alloc | apply Kd.R_drewN | apply Kd.R_drew)); exact HO_5.out⟩, ⟨by repeat (first | (with_reducible first | exact HB.out | apply below_alloc | apply pw_below_drewN | apply below_drew1) | exact HB.out)⟩⟩
        ·rw [if_neg c17] at H
         have c17b0 : decide (x12_3 < (l0.length : Int)) = false := decide_eq_false c17
         clear c17
         replace H := Option.bind_eq_some_iff.mp H
         obtain ⟨⟨t209, t210, t211⟩, A410, H⟩ := H
         replace H : (if t211 = 0 then (some (strOfNums x5_3, 0, 0)) else (some ((⟨#[]⟩ : ByteArray), 0, 142))) = some (r1, r2, r3) := H
         have A41 := Aside0.mk A410
         clear A410
         by_cases c42 : t211 = 0
         ·rw [if_pos c42] at H
          have c42b0 : (t211 == 0) = true := beq_iff_eq.mpr c42
          have c42b1 : (t211 != 0) = false := bne_eq_false_iff_eq.mpr c42
          clear c42
          simp only [Option.some.injEq, Prod.mk.injEq] at H
          obtain ⟨rfl, rfl, rfl⟩ := H
          have hcv43 := own_string (P := Tryd.prog) Tryd.underlying35 Tryd.underlying5 Tryd.underlying9 (Kd.own_of_R HO_5.out)
          go_wp2_with (first | ((with_reducible refine gate_callee (f := 16) rfl ?_); refine goesL_ (some 153) rfl rfl Tryd.func16 (by kernel_rfl) rfl #[.string (strOfNums x5_3)] rfl (by (try simp only [List.map_toArray, List.map_cons, List.map_nil]); first | done | rfl | (simp only [List.length_drop, List.length_take]; rfl)) ?_; (with_reducible refine (posternref14_Decode.calls k3 (strOfNums x5_3) t209 t210 t211 _ A41.out).mono ?_); rintro e w44 ⟨v212, rfl, ho0, hb⟩; refine ⟨_, rfl, ?_⟩; have n0_ := Aside0.mk (Kd.R_below (by (with_reducible repeat (first | apply Kd.R_alloc | apply Kd.R_drewN | apply Kd.R_drew)); exact HO_5.out) hb); have n1_ := Aside0.mk (Kd.R_lower ho0 (below_size (by repeat (first | (with_reducible first | exact HB.out | apply below_alloc | apply pw_below_drewN | apply below_drew1) | exact HB.out)))); have n2_ := Aside0.mk (below_step (by repeat (first | (with_reducible first | exact HB.out | apply below_alloc | apply pw_below_drewN | apply below_drew1) | exact HB.out)) hb); clear HO_5; clear HB; have HO_5 := n0_; have HO213 := n1_; have HB := n2_; clear n0_ n1_ n2_; (try clear hb); (try clear hb2); (try clear hk); (try clear hi); (try clear ho0); have hcv45 := own_string (P := Tryd.prog) Tryd.underlying35 Tryd.underlying5 Tryd.underlying9 (Kd.own_of_R HO_5.out)))
          go_ret3
          exact ⟨by first | rfl | (simp [errW_none, errW_some] <;> rfl) | (simp [*, errW_none, errW_some] <;> rfl), by repeat (first | (with_reducible first | exact HB.out | apply below_alloc | apply pw_below_drewN | apply below_drew1) | exact HB.out)⟩
         ·rw [if_neg c42] at H
          have c42b0 : (t211 == 0) = false := beq_eq_false_iff_ne.mpr c42
          have c42b1 : (t211 != 0) = true := bne_iff_ne.mpr c42
          simp only [Option.some.injEq, Prod.mk.injEq] at H
          obtain ⟨rfl, rfl, rfl⟩ := H
          have hcv46 := own_string (P := Tryd.prog) Tryd.underlying35 Tryd.underlying5 Tryd.underlying9 (Kd.own_of_R HO_5.out)
          go_wp2_with (first | ((with_reducible refine gate_callee (f := 16) rfl ?_); refine goesL_ (some 153) rfl rfl Tryd.func16 (by kernel_rfl) rfl #[.string (strOfNums x5_3)] rfl (by (try simp only [List.map_toArray, List.map_cons, List.map_nil]); first | done | rfl | (simp only [List.length_drop, List.length_take]; rfl)) ?_; (with_reducible refine (posternref14_Decode.calls k3 (strOfNums x5_3) t209 t210 t211 _ A41.out).mono ?_); rintro e w47 ⟨v212, rfl, ho0, hb⟩; refine ⟨_, rfl, ?_⟩; have n0_ := Aside0.mk (Kd.R_below (by (with_reducible repeat (first | apply Kd.R_alloc | apply Kd.R_drewN | apply Kd.R_drew)); exact HO_5.out) hb); have n1_ := Aside0.mk (Kd.R_lower ho0 (below_size (by repeat (first | (with_reducible first | exact HB.out | apply below_alloc | apply pw_below_drewN | apply below_drew1) | exact HB.out)))); have n2_ := Aside0.mk (below_step (by repeat (first | (with_reducible first | exact HB.out | apply below_alloc | apply pw_below_drewN | apply below_drew1) | exact HB.out)) hb); clear HO_5; clear HB; have HO_5 := n0_; have HO213 := n1_; have HB := n2_; clear n0_ n1_ n2_; (try clear hb); (try clear hb2); (try clear hk); (try clear hi); (try clear ho0)))
          go_ret3
          exact ⟨by first | rfl | (simp [errW_none, errW_some] <;> rfl) | (simp [*, errW_none, errW_some] <;> rfl), by repeat (first | (with_reducible first | exact HB.out | apply below_alloc | apply pw_below_drewN | apply below_drew1) | exact HB.out)⟩

end Go.Proofs.YtmjlkifmbhaiiaaDoorQ.Pt
end
