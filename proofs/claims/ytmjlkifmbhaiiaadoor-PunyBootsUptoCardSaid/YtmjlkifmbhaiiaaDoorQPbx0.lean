/- What these functions of the program compute, and that they compute it: printed by wip/tools/orac.py over the kit's print.py; merged. -/
import Derived.Test.YtmjlkifmbhaiiaaDoorProg
import Derived.Below
import Derived.Deep.Draws
import Derived.Deep.AppendLies
import Derived.Maps.AppendAt
import Derived.OwnWalk
import Derived.Laws.BytesArg
import Derived.Laws.MakeOwn
import Derived.Laws.OwnMore
import Derived.Deep.OwnRows
import Derived.Tactics
import Derived.Lib.ConvBytes
import Derived.Laws.Slices
import Derived.WalkKit
import Derived.KernelRfl
import Derived.RowKit3
import Derived.Deep.LoopGhost
import Derived.Deep.QuietTactic
import Derived.BigQuiet
import Derived.WideLaws
import Derived.Deep.DeepCutAuto
import Derived.Deep.CutBlock
import Derived.Deep.RegionHeld3
import Derived.Laws.Rows
import Derived.Lib.AppendStr
import Derived.ArgAppend
import Derived.Laws.IdiomCopy
import Derived.OrdersHeld
import Derived.Laws.BitsLemmas
import Derived.RowKit
import Derived.Test.YtmjlkifmbhaiiaaDoorPunF
import Derived.Test.YtmjlkifmbhaiiaaDoorWWords
import Derived.Test.YtmjlkifmbhaiiaaDoorWLast
import Derived.Test.YtmjlkifmbhaiiaaDoorWTab
import Derived.Test.YtmjlkifmbhaiiaaDoorWQPut
import Derived.Test.YtmjlkifmbhaiiaaDoorWApart
import Derived.Test.YtmjlkifmbhaiiaaDoorWFoot
import Derived.Test.YtmjlkifmbhaiiaaDoorWKept
import Derived.Test.YtmjlkifmbhaiiaaDoorWShare
import Derived.Test.YtmjlkifmbhaiiaaDoorWN
import Derived.Laws.StructEq
import Derived.Test.YtmjlkifmbhaiiaaDoorWRepsOne
import Derived.Test.YtmjlkifmbhaiiaaDoorWInv
import Derived.Test.YtmjlkifmbhaiiaaDoorWGuard
import Derived.Test.YtmjlkifmbhaiiaaDoorWMore
import Derived.SizedLaws
import Derived.ChangeSlices
section
namespace Go.Proofs.YtmjlkifmbhaiiaaDoorQ.Pb
open Go.RowKit Go.Proofs.YtmjlkifmbhaiiaaDoorW.PrintWords Go.Proofs.YtmjlkifmbhaiiaaDoorW.PrintLast Go.Proofs.YtmjlkifmbhaiiaaDoorW.PrintMore
attribute [local go_sem] Go.Proofs.YtmjlkifmbhaiiaaDoor.Ye
attribute [local go_sem] max2_int min2_int max_two min_two max_three min_three max_four min_four   -- for this text's walks alone
set_option linter.unusedVariables false
set_option linter.unusedSimpArgs false
def errW : Option Int→Value
 | none => .nilIface
 | some c => .iface 0 (.int .i64 c)
theorem Zp : errW none=.nilIface:=rfl
theorem Zq (c : Int) : errW (some c)=.iface 0 (.int .i64 c):=rfl
-- the values' own types
end Go.Proofs.YtmjlkifmbhaiiaaDoorQ.Pb
end
section
namespace Go.Proofs.YtmjlkifmbhaiiaaDoorQ.Pb
open Go.RowKit Go.Proofs.YtmjlkifmbhaiiaaDoorW.PrintWords Go.Proofs.YtmjlkifmbhaiiaaDoorW.PrintLast Go.Proofs.YtmjlkifmbhaiiaaDoorW.PrintMore
attribute [local go_sem] Go.Proofs.YtmjlkifmbhaiiaaDoor.Ye
attribute [local go_sem] max2_int min2_int max_two min_two max_three min_three max_four min_four   -- for this text's walks alone
set_option linter.unusedVariables false
set_option linter.unusedSimpArgs false
/-! ### Yi: function 45 -/
def Yi.f (a0_0 : Int) (a0_1 : Int) (a0_2 : Int) (a0_3 : Int) (a0_4 : Int) (a0_5 : Int) (a0_6 : Int) (a0_7 : Int) (a1 : Int) : Option (Bool):=if (wrap64 (a1)) < a0_6 then (some (decide (a1 < 128))) else (some false)
set_option maxHeartbeats 8000000 in
set_option maxRecDepth 100000 in
theorem Yi.calls (a0_0 : Int) (a0_1 : Int) (a0_2 : Int) (a0_3 : Int) (a0_4 : Int) (a0_5 : Int) (a0_6 : Int) (a0_7 : Int) (a1 : Int) (r : Bool) (w : World) (h : Yi.f a0_0 a0_1 a0_2 a0_3 a0_4 a0_5 a0_6 a0_7 a1=some r) :
  Calls Tryd.prog 45 #[.agg #[.int .i64 a0_0,.int .i64 a0_1,.int .i64 a0_2,.int .i64 a0_3,.int .i64 a0_4,.int .i64 a0_5,.int .i64 a0_6,.int .u8 a0_7],.int .i32 a1] w fun e w' => e=.returned (.bool r)∧Below w.heap.size w w':=by
 have hu59:=Tryd.underlying59
 have HB:=Zf.mk (Below.refl w.heap.size w)
 have H : (if (wrap64 (a1)) < a0_6 then (some (decide (a1 < 128))) else (some false))=some r:=h
 clear h
 by_cases c3 : (wrap64 (a1)) < a0_6
 ·rw [if_pos c3] at H
  have c3b0 : decide ((wrap64 (a1)) < a0_6)=true:=decide_eq_true c3
  clear c3
  obtain rfl:=Option.some.inj H
  go_enter Tryd.func45,Tryd.ntmps45
  go_wp2_with (first|((with_reducible refine Yh (N:=2) rfl ?_);refine Ym ?hg (N:=2) ?hd (cs:=#[.int .i64 a0_0,.int .i64 a0_1,.int .i64 a0_2,.int .i64 a0_3,.int .i64 a0_4,.int .i64 a0_5,.int .i64 a0_6,.int .u8 a0_7]) (t:=59) ?hr ?_;(case hd => rfl);(case hg => rfl);(case hr => first|(go_simp;done)|(go_simp;rfl));intro gb101 hg w4 hbox hb;have n0_:=Zf.mk (Zm (by repeat (first|(with_reducible first|exact HB.out|apply Ze|apply Zc|apply Zd)|exact HB.out)) hb);have n1_:=Zf.mk (hbox);have n2_:=Zf.mk ((by rw [hg];exact (Zo (by repeat (first|(with_reducible first|exact HB.out|apply Ze|apply Zc|apply Zd)|exact HB.out))) : w.heap.size≤gb101));have n3_:=Zf.mk ((by rw [hg];exact (Zo (by repeat (first|(with_reducible first|exact HB.out|apply Ze|apply Zc|apply Zd)|exact HB.out))) : w.heap.size≤gb101));clear HB;have HB:=n0_;have BK101:=n1_;have GW101:=n2_;have GE101:=n3_;clear n0_ n1_ n2_ n3_;clear hb hbox hg;have hcz5_0 : w4.cell? ⟨gb101,0,none⟩=some (.int .i64 a0_0):=(Zb BK101.out 0).trans rfl;have hcz5_1 : w4.cell? ⟨gb101,1,none⟩=some (.int .i64 a0_1):=(Zb BK101.out 1).trans rfl;have hcz5_2 : w4.cell? ⟨gb101,2,none⟩=some (.int .i64 a0_2):=(Zb BK101.out 2).trans rfl;have hcz5_3 : w4.cell? ⟨gb101,3,none⟩=some (.int .i64 a0_3):=(Zb BK101.out 3).trans rfl;have hcz5_4 : w4.cell? ⟨gb101,4,none⟩=some (.int .i64 a0_4):=(Zb BK101.out 4).trans rfl;have hcz5_5 : w4.cell? ⟨gb101,5,none⟩=some (.int .i64 a0_5):=(Zb BK101.out 5).trans rfl;have hcz5_6 : w4.cell? ⟨gb101,6,none⟩=some (.int .i64 a0_6):=(Zb BK101.out 6).trans rfl;have hcz5_7 : w4.cell? ⟨gb101,7,none⟩=some (.int .u8 a0_7):=(Zb BK101.out 7).trans rfl;have hfz5_0:=Za BK101.out 0;have hfz5_1:=Za BK101.out 1;have hfz5_2:=Za BK101.out 2;have hfz5_3:=Za BK101.out 3;have hfz5_4:=Za BK101.out 4;have hfz5_5:=Za BK101.out 5;have hfz5_6:=Za BK101.out 6;have hfz5_7:=Za BK101.out 7))
  go_ret
  exact ⟨by first|rfl|(simp [Zp,Zq] <;> rfl)|(simp [*,Zp,Zq] <;> rfl),by repeat (first|(with_reducible first|exact HB.out|apply Ze|apply Zc|apply Zd|refine Zg ?_ GE101.out)|exact HB.out)⟩
 ·rw [if_neg c3] at H
  have c3b0 : decide ((wrap64 (a1)) < a0_6)=false:=decide_eq_false c3
  clear c3
  obtain rfl:=Option.some.inj H
  go_enter Tryd.func45,Tryd.ntmps45
  go_wp2_with (first|((with_reducible refine Yh (N:=2) rfl ?_);refine Ym ?hg (N:=2) ?hd (cs:=#[.int .i64 a0_0,.int .i64 a0_1,.int .i64 a0_2,.int .i64 a0_3,.int .i64 a0_4,.int .i64 a0_5,.int .i64 a0_6,.int .u8 a0_7]) (t:=59) ?hr ?_;(case hd => rfl);(case hg => rfl);(case hr => first|(go_simp;done)|(go_simp;rfl));intro gb101 hg w6 hbox hb;have n0_:=Zf.mk (Zm (by repeat (first|(with_reducible first|exact HB.out|apply Ze|apply Zc|apply Zd)|exact HB.out)) hb);have n1_:=Zf.mk (hbox);have n2_:=Zf.mk ((by rw [hg];exact (Zo (by repeat (first|(with_reducible first|exact HB.out|apply Ze|apply Zc|apply Zd)|exact HB.out))) : w.heap.size≤gb101));have n3_:=Zf.mk ((by rw [hg];exact (Zo (by repeat (first|(with_reducible first|exact HB.out|apply Ze|apply Zc|apply Zd)|exact HB.out))) : w.heap.size≤gb101));clear HB;have HB:=n0_;have BK101:=n1_;have GW101:=n2_;have GE101:=n3_;clear n0_ n1_ n2_ n3_;clear hb hbox hg;have hcz7_0 : w6.cell? ⟨gb101,0,none⟩=some (.int .i64 a0_0):=(Zb BK101.out 0).trans rfl;have hcz7_1 : w6.cell? ⟨gb101,1,none⟩=some (.int .i64 a0_1):=(Zb BK101.out 1).trans rfl;have hcz7_2 : w6.cell? ⟨gb101,2,none⟩=some (.int .i64 a0_2):=(Zb BK101.out 2).trans rfl;have hcz7_3 : w6.cell? ⟨gb101,3,none⟩=some (.int .i64 a0_3):=(Zb BK101.out 3).trans rfl;have hcz7_4 : w6.cell? ⟨gb101,4,none⟩=some (.int .i64 a0_4):=(Zb BK101.out 4).trans rfl;have hcz7_5 : w6.cell? ⟨gb101,5,none⟩=some (.int .i64 a0_5):=(Zb BK101.out 5).trans rfl;have hcz7_6 : w6.cell? ⟨gb101,6,none⟩=some (.int .i64 a0_6):=(Zb BK101.out 6).trans rfl;have hcz7_7 : w6.cell? ⟨gb101,7,none⟩=some (.int .u8 a0_7):=(Zb BK101.out 7).trans rfl;have hfz7_0:=Za BK101.out 0;have hfz7_1:=Za BK101.out 1;have hfz7_2:=Za BK101.out 2;have hfz7_3:=Za BK101.out 3;have hfz7_4:=Za BK101.out 4;have hfz7_5:=Za BK101.out 5;have hfz7_6:=Za BK101.out 6;have hfz7_7:=Za BK101.out 7))
  go_ret
  exact ⟨by first|rfl|(simp [Zp,Zq] <;> rfl)|(simp [*,Zp,Zq] <;> rfl),by repeat (first|(with_reducible first|exact HB.out|apply Ze|apply Zc|apply Zd|refine Zg ?_ GE101.out)|exact HB.out)⟩
end Go.Proofs.YtmjlkifmbhaiiaaDoorQ.Pb
end
section
namespace Go.Proofs.YtmjlkifmbhaiiaaDoorQ.Pb
open Go.RowKit Go.Proofs.YtmjlkifmbhaiiaaDoorW.PrintWords Go.Proofs.YtmjlkifmbhaiiaaDoorW.PrintLast Go.Proofs.YtmjlkifmbhaiiaaDoorW.PrintMore
attribute [local go_sem] Go.Proofs.YtmjlkifmbhaiiaaDoor.Ye
attribute [local go_sem] max2_int min2_int max_two min_two max_three min_three max_four min_four   -- for this text's walks alone
set_option linter.unusedVariables false
set_option linter.unusedSimpArgs false
/-! ### puny_Digit: function 18 -/
mutual
def puny_Digit.j0 : Nat→Int→Bool→Option (Int)
 | 0,_,_ => none
 | k + 1,x0,x3 => if x3=true then (some ((x0 - 97) % 256)) else (if x0 ≥ 65 then (puny_Digit.j1 k x0 (decide (x0≤90))) else (puny_Digit.j1 k x0 false))
def puny_Digit.j1 : Nat→Int→Bool→Option (Int)
 | 0,_,_ => none
 | k + 1,x0,x13 => if x13=true then (some ((x0 - 65) % 256)) else (if x0 ≥ 48 then (if x0≤57 then (some (((x0 - 48) % 256) + 26)) else (some (-1))) else (some (-1)))
end
def puny_Digit.f (k : Nat) (a0 : Int) : Option (Int):=if a0 ≥ 97 then (puny_Digit.j0 k a0 (decide (a0≤122))) else (puny_Digit.j0 k a0 false)
set_option maxHeartbeats 8000000 in
set_option maxRecDepth 100000 in
theorem puny_Digit.calls (k : Nat) (a0 : Int) (r : Int) (w : World) (h : puny_Digit.f k a0=some r) :
  Calls Tryd.prog 18 #[.int .u8 a0] w fun e w' => e=.returned (.int .i64 r)∧Yb w w':=by
 have H : (if a0 ≥ 97 then (puny_Digit.j0 k a0 (decide (a0≤122))) else (puny_Digit.j0 k a0 false))=some r:=h
 clear h
 have HC2:=Zf.mk H
 clear H
 go_enter Tryd.func18,Tryd.ntmps18
 go_upto_region 1 with (fail)
 go_cut [3] (fun v3 wc => ∃ (kq : Nat) (x3_1 : Bool),v3=.bool x3_1∧Zf (puny_Digit.j0 kq a0 x3_1=some r)∧Zf (kq≤k)∧Yb w wc)
 case first =>
  have H:=HC2.out
  clear HC2
  by_cases c3 : a0 ≥ 97
  ·rw [if_pos c3] at H
   have c3b0 : decide (97≤a0)=true:=decide_eq_true c3
   clear c3
   (first|rw [c3b0]|rw [c3b1]|(simp only [i64_w,i32_w];rw [c3b0])|skip)
   have H':=Zf.mk H
   clear H
   go_wp2
   go_meet
   case rel => exact ⟨_,(decide (a0≤122)),(by first|rfl|(simp;done)|(simp [*];done)),H',⟨by first|omega|exact Nat.le_refl _⟩,by repeat (first|exact Yb.refl _|apply Yb.step)⟩
  ·rw [if_neg c3] at H
   have c3b0 : decide (97≤a0)=false:=decide_eq_false c3
   clear c3
   (first|rw [c3b0]|rw [c3b1]|(simp only [i64_w,i32_w];rw [c3b0])|skip)
   have H':=Zf.mk H
   clear H
   go_wp2
   go_meet
   case rel => exact ⟨_,(false),(by first|rfl|(simp;done)|(simp [*];done)),H',⟨by first|omega|exact Nat.le_refl _⟩,by repeat (first|exact Yb.refl _|apply Yb.step)⟩
 case rest =>
  clear HC2
  try clear c1
  try clear p2
  try clear c3
  try clear c3b0
  obtain ⟨kq,x3_1,rfl,HA,HJ1,⟨mc1,rfl⟩⟩:=hcut
  cases kq with
  | zero => exact absurd HA.out (by simp [puny_Digit.j0])
  | succ kj1 =>
   have H:=HA.out
   clear HA
   simp only [puny_Digit.j0] at H
   by_cases c4 : x3_1=true
   ·subst c4
    have H1 : (some ((a0 - 97) % 256))=some r:=by rw [if_pos rfl] at H;exact H
    clear H
    have H:=H1
    clear H1
    obtain rfl:=Option.some.inj H
    go_wp2
    go_ret
    exact ⟨by first|rfl|(simp;done)|(simp [*];done),by repeat (first|exact Yb.refl _|apply Yb.step)⟩
   ·replace c4:=Bool.eq_false_iff.mpr c4
    subst c4
    have H1 : (if a0 ≥ 65 then (puny_Digit.j1 kj1 a0 (decide (a0≤90))) else (puny_Digit.j1 kj1 a0 false))=some r:=by rw [if_neg (show ¬ (false=true) by decide)] at H;exact H
    clear H
    have H:=H1
    clear H1
    have HC5:=Zf.mk H
    clear H
    go_upto_region 3 with (fail)
    go_cut [13] (fun v13 wc => ∃ (kq : Nat) (x13_4 : Bool),v13=.bool x13_4∧Zf (puny_Digit.j1 kq a0 x13_4=some r)∧Zf (kq≤kj1)∧Yb w wc)
    case first =>
     have H:=HC5.out
     clear HC5
     by_cases c6 : a0 ≥ 65
     ·rw [if_pos c6] at H
      have c6b0 : decide (65≤a0)=true:=decide_eq_true c6
      clear c6
      (first|rw [c6b0]|rw [c6b1]|(simp only [i64_w,i32_w];rw [c6b0])|skip)
      have H':=Zf.mk H
      clear H
      go_wp2
      go_meet
      case rel => exact ⟨_,(decide (a0≤90)),(by first|rfl|(simp;done)|(simp [*];done)),H',⟨by have:=HJ1.out;first|omega|exact Nat.le_refl _⟩,by repeat (first|exact Yb.refl _|apply Yb.step)⟩
     ·rw [if_neg c6] at H
      have c6b0 : decide (65≤a0)=false:=decide_eq_false c6
      clear c6
      (first|rw [c6b0]|rw [c6b1]|(simp only [i64_w,i32_w];rw [c6b0])|skip)
      have H':=Zf.mk H
      clear H
      go_wp2
      go_meet
      case rel => exact ⟨_,(false),(by first|rfl|(simp;done)|(simp [*];done)),H',⟨by have:=HJ1.out;first|omega|exact Nat.le_refl _⟩,by repeat (first|exact Yb.refl _|apply Yb.step)⟩
    case rest =>
     clear HC5
     try clear c1
     try clear p2
     try clear c3
     try clear c3b0
     try clear c4
     try clear c6
     try clear c6b0
     try clear p2
     obtain ⟨kq,x13_4,rfl,HA,HJ4,⟨mc4,rfl⟩⟩:=hcut
     cases kq with
     | zero => exact absurd HA.out (by simp [puny_Digit.j1])
     | succ kj4 =>
      have H:=HA.out
      clear HA
      simp only [puny_Digit.j1] at H
      by_cases c7 : x13_4=true
      ·subst c7
       have H1 : (some ((a0 - 65) % 256))=some r:=by rw [if_pos rfl] at H;exact H
       clear H
       have H:=H1
       clear H1
       obtain rfl:=Option.some.inj H
       go_wp2
       go_ret
       exact ⟨by first|rfl|(simp;done)|(simp [*];done),by repeat (first|exact Yb.refl _|apply Yb.step)⟩
      ·replace c7:=Bool.eq_false_iff.mpr c7
       subst c7
       have H1 : (if a0 ≥ 48 then (if a0≤57 then (some (((a0 - 48) % 256) + 26)) else (some (-1))) else (some (-1)))=some r:=by rw [if_neg (show ¬ (false=true) by decide)] at H;exact H
       clear H
       have H:=H1
       clear H1
       by_cases c8 : a0 ≥ 48
       ·rw [if_pos c8] at H
        have c8b0 : decide (48≤a0)=true:=decide_eq_true c8
        clear c8
        by_cases c9 : a0≤57
        ·rw [if_pos c9] at H
         have c9b0 : decide (a0≤57)=true:=decide_eq_true c9
         clear c9
         obtain rfl:=Option.some.inj H
         go_wp2
         go_ret
         exact ⟨by first|rfl|(simp;done)|(simp [*];done),by repeat (first|exact Yb.refl _|apply Yb.step)⟩
        ·rw [if_neg c9] at H
         have c9b0 : decide (a0≤57)=false:=decide_eq_false c9
         clear c9
         obtain rfl:=Option.some.inj H
         go_wp2
         go_ret
         exact ⟨by first|rfl|(simp;done)|(simp [*];done),by repeat (first|exact Yb.refl _|apply Yb.step)⟩
       ·rw [if_neg c8] at H
        have c8b0 : decide (48≤a0)=false:=decide_eq_false c8
        clear c8
        obtain rfl:=Option.some.inj H
        go_wp2
        go_ret
        exact ⟨by first|rfl|(simp;done)|(simp [*];done),by repeat (first|exact Yb.refl _|apply Yb.step)⟩
end Go.Proofs.YtmjlkifmbhaiiaaDoorQ.Pb
end
section
namespace Go.Proofs.YtmjlkifmbhaiiaaDoorQ.Pb
open Go.RowKit Go.Proofs.YtmjlkifmbhaiiaaDoorW.PrintWords Go.Proofs.YtmjlkifmbhaiiaaDoorW.PrintLast Go.Proofs.YtmjlkifmbhaiiaaDoorW.PrintMore
attribute [local go_sem] Go.Proofs.YtmjlkifmbhaiiaaDoor.Ye
attribute [local go_sem] max2_int min2_int max_two min_two max_three min_three max_four min_four   -- for this text's walks alone
set_option linter.unusedVariables false
set_option linter.unusedSimpArgs false
/-! ### puny_boot_digit: function 39 -/
def puny_boot_digit.f (k : Nat) (a0_0 : Int) (a0_1 : Int) (a0_2 : Int) (a0_3 : Int) (a0_4 : Int) (a0_5 : Int) (a0_6 : Int) (a0_7 : Int) (a1 : Int) : Option (Int):=(puny_Digit.f k a1).bind fun t103 => (if t103 < a0_0 then (some t103) else (some (-1)))
set_option maxHeartbeats 8000000 in
set_option maxRecDepth 100000 in
theorem puny_boot_digit.calls (k : Nat) (a0_0 : Int) (a0_1 : Int) (a0_2 : Int) (a0_3 : Int) (a0_4 : Int) (a0_5 : Int) (a0_6 : Int) (a0_7 : Int) (a1 : Int) (r : Int) (w : World) (h : puny_boot_digit.f k a0_0 a0_1 a0_2 a0_3 a0_4 a0_5 a0_6 a0_7 a1=some r) :
  Calls Tryd.prog 39 #[.agg #[.int .i64 a0_0,.int .i64 a0_1,.int .i64 a0_2,.int .i64 a0_3,.int .i64 a0_4,.int .i64 a0_5,.int .i64 a0_6,.int .u8 a0_7],.int .u8 a1] w fun e w' => e=.returned (.int .i64 r)∧Below w.heap.size w w':=by
 have hu59:=Tryd.underlying59
 have HB:=Zf.mk (Below.refl w.heap.size w)
 have H : ((puny_Digit.f k a1).bind fun t103 => (if t103 < a0_0 then (some t103) else (some (-1))))=some r:=h
 clear h
 replace H:=Option.bind_eq_some_iff.mp H
 obtain ⟨t103,A30,H⟩:=H
 replace H : (if t103 < a0_0 then (some t103) else (some (-1)))=some r:=H
 have A3:=Zf.mk A30
 clear A30
 by_cases c4 : t103 < a0_0
 ·rw [if_pos c4] at H
  have c4b0 : decide (t103 < a0_0)=true:=decide_eq_true c4
  clear c4
  obtain rfl:=Option.some.inj H
  go_enter Tryd.func39,Tryd.ntmps39
  go_wp2_with (first|((with_reducible refine Yh (N:=2) rfl ?_);refine Ym ?hg (N:=2) ?hd (cs:=#[.int .i64 a0_0,.int .i64 a0_1,.int .i64 a0_2,.int .i64 a0_3,.int .i64 a0_4,.int .i64 a0_5,.int .i64 a0_6,.int .u8 a0_7]) (t:=59) ?hr ?_;(case hd => rfl);(case hg => rfl);(case hr => first|(go_simp;done)|(go_simp;rfl));intro gb102 hg w5 hbox hb;have n0_:=Zf.mk (Zm (by repeat (first|(with_reducible first|exact HB.out|apply Ze|apply Zc|apply Zd)|exact HB.out)) hb);have n1_:=Zf.mk (hbox);have n2_:=Zf.mk ((by rw [hg];exact (Zo (by repeat (first|(with_reducible first|exact HB.out|apply Ze|apply Zc|apply Zd)|exact HB.out))) : w.heap.size≤gb102));have n3_:=Zf.mk ((by rw [hg];exact (Zo (by repeat (first|(with_reducible first|exact HB.out|apply Ze|apply Zc|apply Zd)|exact HB.out))) : w.heap.size≤gb102));clear HB;have HB:=n0_;have BK102:=n1_;have GW102:=n2_;have GE102:=n3_;clear n0_ n1_ n2_ n3_;clear hb hbox hg)|((with_reducible refine Z0 (f:=18) rfl ?_);refine goesL_ (some 7) rfl rfl Tryd.func18 (by kernel_rfl) rfl #[.int .u8 a1] rfl (by (try simp only [List.map_toArray,List.map_cons,List.map_nil]);first|done|rfl|(simp only [List.length_drop,List.length_take];rfl)) ?_;(with_reducible refine (puny_Digit.calls k a1 t103 _ A3.out).mono ?_);rintro e w' ⟨rfl,⟨nd,rfl⟩⟩;refine ⟨_,rfl,?_⟩;have hcz6_0 : w5.cell? ⟨gb102,0,none⟩=some (.int .i64 a0_0):=(Zb BK102.out 0).trans rfl;have hcz6_1 : w5.cell? ⟨gb102,1,none⟩=some (.int .i64 a0_1):=(Zb BK102.out 1).trans rfl;have hcz6_2 : w5.cell? ⟨gb102,2,none⟩=some (.int .i64 a0_2):=(Zb BK102.out 2).trans rfl;have hcz6_3 : w5.cell? ⟨gb102,3,none⟩=some (.int .i64 a0_3):=(Zb BK102.out 3).trans rfl;have hcz6_4 : w5.cell? ⟨gb102,4,none⟩=some (.int .i64 a0_4):=(Zb BK102.out 4).trans rfl;have hcz6_5 : w5.cell? ⟨gb102,5,none⟩=some (.int .i64 a0_5):=(Zb BK102.out 5).trans rfl;have hcz6_6 : w5.cell? ⟨gb102,6,none⟩=some (.int .i64 a0_6):=(Zb BK102.out 6).trans rfl;have hcz6_7 : w5.cell? ⟨gb102,7,none⟩=some (.int .u8 a0_7):=(Zb BK102.out 7).trans rfl;have hfz6_0:=Za BK102.out 0;have hfz6_1:=Za BK102.out 1;have hfz6_2:=Za BK102.out 2;have hfz6_3:=Za BK102.out 3;have hfz6_4:=Za BK102.out 4;have hfz6_5:=Za BK102.out 5;have hfz6_6:=Za BK102.out 6;have hfz6_7:=Za BK102.out 7))
  go_ret
  exact ⟨by first|rfl|(simp [Zp,Zq] <;> rfl)|(simp [*,Zp,Zq] <;> rfl),by repeat (first|(with_reducible first|exact HB.out|apply Ze|apply Zc|apply Zd|refine Zg ?_ GE102.out)|exact HB.out)⟩
 ·rw [if_neg c4] at H
  have c4b0 : decide (t103 < a0_0)=false:=decide_eq_false c4
  clear c4
  obtain rfl:=Option.some.inj H
  go_enter Tryd.func39,Tryd.ntmps39
  go_wp2_with (first|((with_reducible refine Yh (N:=2) rfl ?_);refine Ym ?hg (N:=2) ?hd (cs:=#[.int .i64 a0_0,.int .i64 a0_1,.int .i64 a0_2,.int .i64 a0_3,.int .i64 a0_4,.int .i64 a0_5,.int .i64 a0_6,.int .u8 a0_7]) (t:=59) ?hr ?_;(case hd => rfl);(case hg => rfl);(case hr => first|(go_simp;done)|(go_simp;rfl));intro gb102 hg w7 hbox hb;have n0_:=Zf.mk (Zm (by repeat (first|(with_reducible first|exact HB.out|apply Ze|apply Zc|apply Zd)|exact HB.out)) hb);have n1_:=Zf.mk (hbox);have n2_:=Zf.mk ((by rw [hg];exact (Zo (by repeat (first|(with_reducible first|exact HB.out|apply Ze|apply Zc|apply Zd)|exact HB.out))) : w.heap.size≤gb102));have n3_:=Zf.mk ((by rw [hg];exact (Zo (by repeat (first|(with_reducible first|exact HB.out|apply Ze|apply Zc|apply Zd)|exact HB.out))) : w.heap.size≤gb102));clear HB;have HB:=n0_;have BK102:=n1_;have GW102:=n2_;have GE102:=n3_;clear n0_ n1_ n2_ n3_;clear hb hbox hg)|((with_reducible refine Z0 (f:=18) rfl ?_);refine goesL_ (some 7) rfl rfl Tryd.func18 (by kernel_rfl) rfl #[.int .u8 a1] rfl (by (try simp only [List.map_toArray,List.map_cons,List.map_nil]);first|done|rfl|(simp only [List.length_drop,List.length_take];rfl)) ?_;(with_reducible refine (puny_Digit.calls k a1 t103 _ A3.out).mono ?_);rintro e w' ⟨rfl,⟨nd,rfl⟩⟩;refine ⟨_,rfl,?_⟩;have hcz8_0 : w7.cell? ⟨gb102,0,none⟩=some (.int .i64 a0_0):=(Zb BK102.out 0).trans rfl;have hcz8_1 : w7.cell? ⟨gb102,1,none⟩=some (.int .i64 a0_1):=(Zb BK102.out 1).trans rfl;have hcz8_2 : w7.cell? ⟨gb102,2,none⟩=some (.int .i64 a0_2):=(Zb BK102.out 2).trans rfl;have hcz8_3 : w7.cell? ⟨gb102,3,none⟩=some (.int .i64 a0_3):=(Zb BK102.out 3).trans rfl;have hcz8_4 : w7.cell? ⟨gb102,4,none⟩=some (.int .i64 a0_4):=(Zb BK102.out 4).trans rfl;have hcz8_5 : w7.cell? ⟨gb102,5,none⟩=some (.int .i64 a0_5):=(Zb BK102.out 5).trans rfl;have hcz8_6 : w7.cell? ⟨gb102,6,none⟩=some (.int .i64 a0_6):=(Zb BK102.out 6).trans rfl;have hcz8_7 : w7.cell? ⟨gb102,7,none⟩=some (.int .u8 a0_7):=(Zb BK102.out 7).trans rfl;have hfz8_0:=Za BK102.out 0;have hfz8_1:=Za BK102.out 1;have hfz8_2:=Za BK102.out 2;have hfz8_3:=Za BK102.out 3;have hfz8_4:=Za BK102.out 4;have hfz8_5:=Za BK102.out 5;have hfz8_6:=Za BK102.out 6;have hfz8_7:=Za BK102.out 7))
  go_ret
  exact ⟨by first|rfl|(simp [Zp,Zq] <;> rfl)|(simp [*,Zp,Zq] <;> rfl),by repeat (first|(with_reducible first|exact HB.out|apply Ze|apply Zc|apply Zd|refine Zg ?_ GE102.out)|exact HB.out)⟩
end Go.Proofs.YtmjlkifmbhaiiaaDoorQ.Pb
end
section
namespace Go.Proofs.YtmjlkifmbhaiiaaDoorQ.Pb
open Go.RowKit Go.Proofs.YtmjlkifmbhaiiaaDoorW.PrintWords Go.Proofs.YtmjlkifmbhaiiaaDoorW.PrintLast Go.Proofs.YtmjlkifmbhaiiaaDoorW.PrintMore
attribute [local go_sem] Go.Proofs.YtmjlkifmbhaiiaaDoor.Ye
attribute [local go_sem] max2_int min2_int max_two min_two max_three min_three max_four min_four   -- for this text's walks alone
set_option linter.unusedVariables false
set_option linter.unusedSimpArgs false
/-! ### Zt: function 37 -/
mutual
def Zt.j0 : Nat→Int→Int→Int→Int→Int→Int→Int→Int→Int→Int→Option (Int)
 | 0,_,_,_,_,_,_,_,_,_,_ => none
 | k + 1,x1,x2,x105000,x105001,x105002,x105003,x105004,x105005,x105006,x105007 => if x2=0 then (none) else (Zt.l0 k (wrap64 (x1 + (wrap64 (Int.tdiv x1 x2)))) (wrap64 (x105000 - x105001)) 0 x105000 x105001 x105002 x105003 x105004 x105005 x105006 x105007)
def Zt.l0 : Nat→Int→Int→Int→Int→Int→Int→Int→Int→Int→Int→Int→Option (Int)
 | 0,_,_,_,_,_,_,_,_,_,_,_ => none
 | k + 1,x1,x9,x10,x105000,x105001,x105002,x105003,x105004,x105005,x105006,x105007 => if x1 > (wrap64 (Int.tdiv (wrap64 (x9 * x105002)) 2)) then (if x9=0 then (none) else (Zt.l0 k (wrap64 (Int.tdiv x1 x9)) x9 (wrap64 (x10 + x105000)) x105000 x105001 x105002 x105003 x105004 x105005 x105006 x105007)) else (if (wrap64 (x1 + x105003))=0 then (none) else (some (wrap64 (x10 + (wrap64 (Int.tdiv (wrap64 ((wrap64 (x9 + 1)) * x1)) (wrap64 (x1 + x105003))))))))
end
def Zt.f (k : Nat) (a0_0 : Int) (a0_1 : Int) (a0_2 : Int) (a0_3 : Int) (a0_4 : Int) (a0_5 : Int) (a0_6 : Int) (a0_7 : Int) (a1 : Int) (a2 : Int) (a3 : Bool) : Option (Int):=if a3=true then (if a0_4=0 then (none) else (Zt.j0 k (wrap64 (Int.tdiv a1 a0_4)) a2 a0_0 a0_1 a0_2 a0_3 a0_4 a0_5 a0_6 a0_7)) else (Zt.j0 k (wrap64 (Int.tdiv a1 2)) a2 a0_0 a0_1 a0_2 a0_3 a0_4 a0_5 a0_6 a0_7)
set_option maxHeartbeats 8000000 in
set_option maxRecDepth 100000 in
theorem Zt.calls (k : Nat) (a0_0 : Int) (a0_1 : Int) (a0_2 : Int) (a0_3 : Int) (a0_4 : Int) (a0_5 : Int) (a0_6 : Int) (a0_7 : Int) (a1 : Int) (a2 : Int) (a3 : Bool) (r : Int) (w : World) (h : Zt.f k a0_0 a0_1 a0_2 a0_3 a0_4 a0_5 a0_6 a0_7 a1 a2 a3=some r) :
  Calls Tryd.prog 37 #[.agg #[.int .i64 a0_0,.int .i64 a0_1,.int .i64 a0_2,.int .i64 a0_3,.int .i64 a0_4,.int .i64 a0_5,.int .i64 a0_6,.int .u8 a0_7],.int .i64 a1,.int .i64 a2,.bool a3] w fun e w' => e=.returned (.int .i64 r)∧Below w.heap.size w w':=by
 have hu59:=Tryd.underlying59
 have HB:=Zf.mk (Below.refl w.heap.size w)
 have H : (if a3=true then (if a0_4=0 then (none) else (Zt.j0 k (wrap64 (Int.tdiv a1 a0_4)) a2 a0_0 a0_1 a0_2 a0_3 a0_4 a0_5 a0_6 a0_7)) else (Zt.j0 k (wrap64 (Int.tdiv a1 2)) a2 a0_0 a0_1 a0_2 a0_3 a0_4 a0_5 a0_6 a0_7))=some r:=h
 clear h
 have HC5:=Zf.mk H
 clear H
 go_enter Tryd.func37,Tryd.ntmps37
 go_upto_if 11 with (first|((with_reducible refine Yh (N:=4) rfl ?_);refine Ym ?hg (N:=4) ?hd (cs:=#[.int .i64 a0_0,.int .i64 a0_1,.int .i64 a0_2,.int .i64 a0_3,.int .i64 a0_4,.int .i64 a0_5,.int .i64 a0_6,.int .u8 a0_7]) (t:=59) ?hr ?_;(case hd => rfl);(case hg => rfl);(case hr => first|(go_simp;done)|(go_simp;rfl));intro gb104 hg w6 hbox hb;have n0_:=Zf.mk (Zm (by repeat (first|(with_reducible first|exact HB.out|apply Ze|apply Zc|apply Zd)|exact HB.out)) hb);have n1_:=Zf.mk (hbox);have n2_:=Zf.mk ((by rw [hg];exact (Zo (by repeat (first|(with_reducible first|exact HB.out|apply Ze|apply Zc|apply Zd)|exact HB.out))) : w.heap.size≤gb104));have n3_:=Zf.mk ((by rw [hg];exact (Zo (by repeat (first|(with_reducible first|exact HB.out|apply Ze|apply Zc|apply Zd)|exact HB.out))) : w.heap.size≤gb104));clear HB;have HB:=n0_;have BK104:=n1_;have GW104:=n2_;have GE104:=n3_;clear n0_ n1_ n2_ n3_;clear hb hbox hg))
 (try simp only [Act.put,List.setIfInBounds_toArray,List.set_cons_zero,List.set_cons_succ])
 go_cut [1] (fun v1 wc => ∃ (kq : Nat) (x1_4 : Int),v1=.int .i64 x1_4∧Zf (Zt.j0 kq x1_4 a2 a0_0 a0_1 a0_2 a0_3 a0_4 a0_5 a0_6 a0_7=some r)∧Zf (kq≤k)∧Zf (wc.heap[gb104]?=some (.cells #[.int .i64 a0_0,.int .i64 a0_1,.int .i64 a0_2,.int .i64 a0_3,.int .i64 a0_4,.int .i64 a0_5,.int .i64 a0_6,.int .u8 a0_7] 59 (0,0)))∧Zf (Below w.heap.size w wc))
 case first =>
  have H:=HC5.out
  clear HC5
  by_cases c7 : a3=true
  ·subst c7
   have H1 : (if a0_4=0 then (none) else (Zt.j0 k (wrap64 (Int.tdiv a1 a0_4)) a2 a0_0 a0_1 a0_2 a0_3 a0_4 a0_5 a0_6 a0_7))=some r:=by rw [if_pos rfl] at H;exact H
   clear H
   have H:=H1
   clear H1
   by_cases c8 : a0_4=0
   ·rw [if_pos c8] at H
    exact absurd H (by simp)
   ·rw [if_neg c8] at H
    have c8b0 : (a0_4 == 0)=false:=beq_eq_false_iff_ne.mpr c8
    have c8b1 : (a0_4 != 0)=true:=bne_iff_ne.mpr c8
    (first|rw [c8b0]|rw [c8b1]|(simp only [i64_w,i32_w];rw [c8b0])|skip)
    have H':=Zf.mk H
    clear H
    have hcz9_0 : w6.cell? ⟨gb104,0,none⟩=some (.int .i64 a0_0):=(Zb BK104.out 0).trans rfl
    have hcz9_1 : w6.cell? ⟨gb104,1,none⟩=some (.int .i64 a0_1):=(Zb BK104.out 1).trans rfl
    have hcz9_2 : w6.cell? ⟨gb104,2,none⟩=some (.int .i64 a0_2):=(Zb BK104.out 2).trans rfl
    have hcz9_3 : w6.cell? ⟨gb104,3,none⟩=some (.int .i64 a0_3):=(Zb BK104.out 3).trans rfl
    have hcz9_4 : w6.cell? ⟨gb104,4,none⟩=some (.int .i64 a0_4):=(Zb BK104.out 4).trans rfl
    have hcz9_5 : w6.cell? ⟨gb104,5,none⟩=some (.int .i64 a0_5):=(Zb BK104.out 5).trans rfl
    have hcz9_6 : w6.cell? ⟨gb104,6,none⟩=some (.int .i64 a0_6):=(Zb BK104.out 6).trans rfl
    have hcz9_7 : w6.cell? ⟨gb104,7,none⟩=some (.int .u8 a0_7):=(Zb BK104.out 7).trans rfl
    have hfz9_0:=Za BK104.out 0
    have hfz9_1:=Za BK104.out 1
    have hfz9_2:=Za BK104.out 2
    have hfz9_3:=Za BK104.out 3
    have hfz9_4:=Za BK104.out 4
    have hfz9_5:=Za BK104.out 5
    have hfz9_6:=Za BK104.out 6
    have hfz9_7:=Za BK104.out 7
    go_wp2
    go_meet
    case rel => exact ⟨_,(wrap64 (Int.tdiv a1 a0_4)),(by first|rfl|(simp;done)|(simp [*];done)),H',⟨by first|omega|exact Nat.le_refl _⟩,⟨by (with_reducible repeat (first|refine Zk ?_ _|refine Zn ?_|refine Zl ?_ _));exact BK104.out⟩,⟨by repeat (first|(with_reducible first|exact HB.out|apply Ze|apply Zc|apply Zd|refine Zg ?_ GE104.out)|exact HB.out)⟩⟩
  ·replace c7:=Bool.eq_false_iff.mpr c7
   subst c7
   have H1 : (Zt.j0 k (wrap64 (Int.tdiv a1 2)) a2 a0_0 a0_1 a0_2 a0_3 a0_4 a0_5 a0_6 a0_7)=some r:=by rw [if_neg (show ¬ (false=true) by decide)] at H;exact H
   clear H
   have H:=H1
   clear H1
   have H':=Zf.mk H
   clear H
   go_wp2
   go_meet
   case rel => exact ⟨_,(wrap64 (Int.tdiv a1 2)),(by first|rfl|(simp;done)|(simp [*];done)),H',⟨by first|omega|exact Nat.le_refl _⟩,⟨by (with_reducible repeat (first|refine Zk ?_ _|refine Zn ?_|refine Zl ?_ _));exact BK104.out⟩,⟨by repeat (first|(with_reducible first|exact HB.out|apply Ze|apply Zc|apply Zd|refine Zg ?_ GE104.out)|exact HB.out)⟩⟩
 case rest =>
  clear HC5
  try clear p2
  try clear c3
  try clear p6
  try clear c7
  try clear c8
  try clear c8b0
  try clear c8b1
  try clear hcz9_0
  try clear hcz9_1
  try clear hcz9_2
  try clear hcz9_3
  try clear hcz9_4
  try clear hcz9_5
  try clear hcz9_6
  try clear hcz9_7
  try clear hfz9_0
  try clear hfz9_1
  try clear hfz9_2
  try clear hfz9_3
  try clear hfz9_4
  try clear hfz9_5
  try clear hfz9_6
  try clear hfz9_7
  obtain ⟨kq,x1_4,rfl,HA,HJ4,BK104,HB⟩:=hcut
  cases kq with
  | zero => exact absurd HA.out (by simp [Zt.j0])
  | succ kj4 =>
   have H:=HA.out
   clear HA
   simp only [Zt.j0] at H
   by_cases c10 : a2=0
   ·rw [if_pos c10] at H
    exact absurd H (by simp)
   ·rw [if_neg c10] at H
    have c10b0 : (a2 == 0)=false:=beq_eq_false_iff_ne.mpr c10
    have c10b1 : (a2 != 0)=true:=bne_iff_ne.mpr c10
    have H':=Zf.mk H
    clear H
    have hcz11_0 : wc.cell? ⟨gb104,0,none⟩=some (.int .i64 a0_0):=(Zb BK104.out 0).trans rfl
    have hcz11_1 : wc.cell? ⟨gb104,1,none⟩=some (.int .i64 a0_1):=(Zb BK104.out 1).trans rfl
    have hcz11_2 : wc.cell? ⟨gb104,2,none⟩=some (.int .i64 a0_2):=(Zb BK104.out 2).trans rfl
    have hcz11_3 : wc.cell? ⟨gb104,3,none⟩=some (.int .i64 a0_3):=(Zb BK104.out 3).trans rfl
    have hcz11_4 : wc.cell? ⟨gb104,4,none⟩=some (.int .i64 a0_4):=(Zb BK104.out 4).trans rfl
    have hcz11_5 : wc.cell? ⟨gb104,5,none⟩=some (.int .i64 a0_5):=(Zb BK104.out 5).trans rfl
    have hcz11_6 : wc.cell? ⟨gb104,6,none⟩=some (.int .i64 a0_6):=(Zb BK104.out 6).trans rfl
    have hcz11_7 : wc.cell? ⟨gb104,7,none⟩=some (.int .u8 a0_7):=(Zb BK104.out 7).trans rfl
    have hfz11_0:=Za BK104.out 0
    have hfz11_1:=Za BK104.out 1
    have hfz11_2:=Za BK104.out 2
    have hfz11_3:=Za BK104.out 3
    have hfz11_4:=Za BK104.out 4
    have hfz11_5:=Za BK104.out 5
    have hfz11_6:=Za BK104.out 6
    have hfz11_7:=Za BK104.out 7
    go_wp2
    go_loopg [1,10] kj4 (fun kq v1 v10 w' => ∃ (x1_2 : Int) (x10_2 : Int),v1=.int .i64 x1_2∧v10=.int .i64 x10_2∧Zf (Zt.l0 kq x1_2 (wrap64 (a0_0 - a0_1)) x10_2 a0_0 a0_1 a0_2 a0_3 a0_4 a0_5 a0_6 a0_7=some r)∧Zf (kq≤kj4)∧Zf (w'.heap[gb104]?=some (.cells #[.int .i64 a0_0,.int .i64 a0_1,.int .i64 a0_2,.int .i64 a0_3,.int .i64 a0_4,.int .i64 a0_5,.int .i64 a0_6,.int .u8 a0_7] 59 (0,0)))∧Zf (Below w.heap.size w w'))
    case atStart => exact ⟨(wrap64 (x1_4 + (wrap64 (Int.tdiv x1_4 a2)))),(0),(by first|rfl|(simp;done)|(simp [*];done)),(by first|rfl|(simp;done)|(simp [*];done)),H',⟨Nat.le_refl _⟩,⟨by (with_reducible repeat (first|refine Zk ?_ _|refine Zn ?_|refine Zl ?_ _));exact BK104.out⟩,⟨by repeat (first|(with_reducible first|exact HB.out|apply Ze|apply Zc|apply Zd|refine Zg ?_ GE104.out)|exact HB.out)⟩⟩
    case round =>
     clear H'
     try clear c1
     try clear p2
     try clear c3
     try clear p6
     try clear c7
     try clear c8
     try clear c8b0
     try clear c8b1
     try clear c10
     try clear c10b0
     try clear c10b1
     try clear hcz11_0
     try clear hcz11_1
     try clear hcz11_2
     try clear hcz11_3
     try clear hcz11_4
     try clear hcz11_5
     try clear hcz11_6
     try clear hcz11_7
     try clear hcz9_0
     try clear hcz9_1
     try clear hcz9_2
     try clear hcz9_3
     try clear hcz9_4
     try clear hcz9_5
     try clear hcz9_6
     try clear hcz9_7
     try clear hfz11_0
     try clear hfz11_1
     try clear hfz11_2
     try clear hfz11_3
     try clear hfz11_4
     try clear hfz11_5
     try clear hfz11_6
     try clear hfz11_7
     try clear hfz9_0
     try clear hfz9_1
     try clear hfz9_2
     try clear hfz9_3
     try clear hfz9_4
     try clear hfz9_5
     try clear hfz9_6
     try clear hfz9_7
     try clear p2
     try clear p6
     obtain ⟨x1_2,x10_2,rfl,rfl,HA,HK2,BK104,HB⟩:=hrel
     cases gk with
     | zero => exact absurd HA.out (by simp [Zt.l0])
     | succ k2 =>
      have H:=HA.out
      clear HA
      simp only [Zt.l0] at H
      by_cases c12 : x1_2 > (wrap64 (Int.tdiv (wrap64 ((wrap64 (a0_0 - a0_1)) * a0_2)) 2))
      ·rw [if_pos c12] at H
       have c12b0 : decide ((wrap64 (Int.tdiv (wrap64 ((wrap64 (a0_0 - a0_1)) * a0_2)) 2)) < x1_2)=true:=decide_eq_true c12
       clear c12
       by_cases c13 : (wrap64 (a0_0 - a0_1))=0
       ·rw [if_pos c13] at H
        exact absurd H (by simp)
       ·rw [if_neg c13] at H
        have c13b0 : ((wrap64 (a0_0 - a0_1)) == 0)=false:=beq_eq_false_iff_ne.mpr c13
        have c13b1 : ((wrap64 (a0_0 - a0_1)) != 0)=true:=bne_iff_ne.mpr c13
        have H':=Zf.mk H
        clear H
        have hcz14_0 : wr.cell? ⟨gb104,0,none⟩=some (.int .i64 a0_0):=(Zb BK104.out 0).trans rfl
        have hcz14_1 : wr.cell? ⟨gb104,1,none⟩=some (.int .i64 a0_1):=(Zb BK104.out 1).trans rfl
        have hcz14_2 : wr.cell? ⟨gb104,2,none⟩=some (.int .i64 a0_2):=(Zb BK104.out 2).trans rfl
        have hcz14_3 : wr.cell? ⟨gb104,3,none⟩=some (.int .i64 a0_3):=(Zb BK104.out 3).trans rfl
        have hcz14_4 : wr.cell? ⟨gb104,4,none⟩=some (.int .i64 a0_4):=(Zb BK104.out 4).trans rfl
        have hcz14_5 : wr.cell? ⟨gb104,5,none⟩=some (.int .i64 a0_5):=(Zb BK104.out 5).trans rfl
        have hcz14_6 : wr.cell? ⟨gb104,6,none⟩=some (.int .i64 a0_6):=(Zb BK104.out 6).trans rfl
        have hcz14_7 : wr.cell? ⟨gb104,7,none⟩=some (.int .u8 a0_7):=(Zb BK104.out 7).trans rfl
        have hfz14_0:=Za BK104.out 0
        have hfz14_1:=Za BK104.out 1
        have hfz14_2:=Za BK104.out 2
        have hfz14_3:=Za BK104.out 3
        have hfz14_4:=Za BK104.out 4
        have hfz14_5:=Za BK104.out 5
        have hfz14_6:=Za BK104.out 6
        have hfz14_7:=Za BK104.out 7
        go_wp2
        go_roundg k2
        case measure => have:=HJ4.out;have:=HK2.out;omega
        case rel => exact ⟨(wrap64 (Int.tdiv x1_2 (wrap64 (a0_0 - a0_1)))),(wrap64 (x10_2 + a0_0)),(by first|rfl|(simp;done)|(simp [*];done)),(by first|rfl|(simp;done)|(simp [*];done)),H',⟨by have:=HJ4.out;have:=HK2.out;omega⟩,⟨by (with_reducible repeat (first|refine Zk ?_ _|refine Zn ?_|refine Zl ?_ _));exact BK104.out⟩,⟨by repeat (first|(with_reducible first|exact HB.out|apply Ze|apply Zc|apply Zd|refine Zg ?_ GE104.out)|exact HB.out)⟩⟩
      ·rw [if_neg c12] at H
       have c12b0 : decide ((wrap64 (Int.tdiv (wrap64 ((wrap64 (a0_0 - a0_1)) * a0_2)) 2)) < x1_2)=false:=decide_eq_false c12
       clear c12
       by_cases c15 : (wrap64 (x1_2 + a0_3))=0
       ·rw [if_pos c15] at H
        exact absurd H (by simp)
       ·rw [if_neg c15] at H
        have c15b0 : ((wrap64 (x1_2 + a0_3)) == 0)=false:=beq_eq_false_iff_ne.mpr c15
        have c15b1 : ((wrap64 (x1_2 + a0_3)) != 0)=true:=bne_iff_ne.mpr c15
        obtain rfl:=Option.some.inj H
        have hcz16_0 : wr.cell? ⟨gb104,0,none⟩=some (.int .i64 a0_0):=(Zb BK104.out 0).trans rfl
        have hcz16_1 : wr.cell? ⟨gb104,1,none⟩=some (.int .i64 a0_1):=(Zb BK104.out 1).trans rfl
        have hcz16_2 : wr.cell? ⟨gb104,2,none⟩=some (.int .i64 a0_2):=(Zb BK104.out 2).trans rfl
        have hcz16_3 : wr.cell? ⟨gb104,3,none⟩=some (.int .i64 a0_3):=(Zb BK104.out 3).trans rfl
        have hcz16_4 : wr.cell? ⟨gb104,4,none⟩=some (.int .i64 a0_4):=(Zb BK104.out 4).trans rfl
        have hcz16_5 : wr.cell? ⟨gb104,5,none⟩=some (.int .i64 a0_5):=(Zb BK104.out 5).trans rfl
        have hcz16_6 : wr.cell? ⟨gb104,6,none⟩=some (.int .i64 a0_6):=(Zb BK104.out 6).trans rfl
        have hcz16_7 : wr.cell? ⟨gb104,7,none⟩=some (.int .u8 a0_7):=(Zb BK104.out 7).trans rfl
        have hfz16_0:=Za BK104.out 0
        have hfz16_1:=Za BK104.out 1
        have hfz16_2:=Za BK104.out 2
        have hfz16_3:=Za BK104.out 3
        have hfz16_4:=Za BK104.out 4
        have hfz16_5:=Za BK104.out 5
        have hfz16_6:=Za BK104.out 6
        have hfz16_7:=Za BK104.out 7
        go_wp2
        go_ret
        exact ⟨by first|rfl|(simp [Zp,Zq] <;> rfl)|(simp [*,Zp,Zq] <;> rfl),by repeat (first|(with_reducible first|exact HB.out|apply Ze|apply Zc|apply Zd|refine Zg ?_ GE104.out)|exact HB.out)⟩
end Go.Proofs.YtmjlkifmbhaiiaaDoorQ.Pb
end
section
namespace Go.Proofs.YtmjlkifmbhaiiaaDoorQ.Pb
open Go.RowKit Go.Proofs.YtmjlkifmbhaiiaaDoorW.PrintWords Go.Proofs.YtmjlkifmbhaiiaaDoorW.PrintLast Go.Proofs.YtmjlkifmbhaiiaaDoorW.PrintMore
attribute [local go_sem] Go.Proofs.YtmjlkifmbhaiiaaDoor.Ye
attribute [local go_sem] max2_int min2_int max_two min_two max_three min_three max_four min_four   -- for this text's walks alone
set_option linter.unusedVariables false
set_option linter.unusedSimpArgs false
/-! ### Yj: function 55 -/
def Yj.f (a0_0 : Int) (a0_1 : Int) (a0_2 : Int) (a0_3 : Int) (a0_4 : Int) (a0_5 : Int) (a0_6 : Int) (a0_7 : Int) (a1 : Int) (a2 : Int) : Option (Int):=some (mn (mx (wrap64 (a1 - a2)) a0_1) a0_2)
set_option maxHeartbeats 8000000 in
set_option maxRecDepth 100000 in
theorem Yj.calls (a0_0 : Int) (a0_1 : Int) (a0_2 : Int) (a0_3 : Int) (a0_4 : Int) (a0_5 : Int) (a0_6 : Int) (a0_7 : Int) (a1 : Int) (a2 : Int) (r : Int) (w : World) (h : Yj.f a0_0 a0_1 a0_2 a0_3 a0_4 a0_5 a0_6 a0_7 a1 a2=some r) :
  Calls Tryd.prog 55 #[.agg #[.int .i64 a0_0,.int .i64 a0_1,.int .i64 a0_2,.int .i64 a0_3,.int .i64 a0_4,.int .i64 a0_5,.int .i64 a0_6,.int .u8 a0_7],.int .i64 a1,.int .i64 a2] w fun e w' => e=.returned (.int .i64 r)∧Below w.heap.size w w':=by
 have hu59:=Tryd.underlying59
 have HB:=Zf.mk (Below.refl w.heap.size w)
 have H : (some (mn (mx (wrap64 (a1 - a2)) a0_1) a0_2))=some r:=h
 clear h
 obtain ⟨ji4,hji4⟩ : ∃ j_ : Int,(mx (wrap64 (a1 - a2)) a0_1)=j_:=⟨_,rfl⟩
 replace H : (some (mn (ji4) a0_2))=some r:=by first|(rw [hji4] at H;exact H)|(simp only [hji4] at H ⊢;exact H)
 have hji4_ : (if (wrap64 (a1 - a2)) < a0_1 then a0_1 else (wrap64 (a1 - a2)))=ji4:=hji4
 obtain ⟨ji5,hji5⟩ : ∃ j_ : Int,(mn (ji4) a0_2)=j_:=⟨_,rfl⟩
 replace H : (some ji5)=some r:=by first|(rw [hji5] at H;exact H)|(simp only [hji5] at H ⊢;exact H)
 have hji5_ : (if a0_2 < (ji4) then a0_2 else (ji4))=ji5:=hji5
 obtain rfl:=Option.some.inj H
 go_enter Tryd.func55,Tryd.ntmps55
 go_wp2_with (first|((with_reducible refine Yh (N:=3) rfl ?_);refine Ym ?hg (N:=3) ?hd (cs:=#[.int .i64 a0_0,.int .i64 a0_1,.int .i64 a0_2,.int .i64 a0_3,.int .i64 a0_4,.int .i64 a0_5,.int .i64 a0_6,.int .u8 a0_7]) (t:=59) ?hr ?_;(case hd => rfl);(case hg => rfl);(case hr => first|(go_simp;done)|(go_simp;rfl));intro gb105 hg w6 hbox hb;have n0_:=Zf.mk (Zm (by repeat (first|(with_reducible first|exact HB.out|apply Ze|apply Zc|apply Zd)|exact HB.out)) hb);have n1_:=Zf.mk (hbox);have n2_:=Zf.mk ((by rw [hg];exact (Zo (by repeat (first|(with_reducible first|exact HB.out|apply Ze|apply Zc|apply Zd)|exact HB.out))) : w.heap.size≤gb105));have n3_:=Zf.mk ((by rw [hg];exact (Zo (by repeat (first|(with_reducible first|exact HB.out|apply Ze|apply Zc|apply Zd)|exact HB.out))) : w.heap.size≤gb105));clear HB;have HB:=n0_;have BK105:=n1_;have GW105:=n2_;have GE105:=n3_;clear n0_ n1_ n2_ n3_;clear hb hbox hg;have hcz7_0 : w6.cell? ⟨gb105,0,none⟩=some (.int .i64 a0_0):=(Zb BK105.out 0).trans rfl;have hcz7_1 : w6.cell? ⟨gb105,1,none⟩=some (.int .i64 a0_1):=(Zb BK105.out 1).trans rfl;have hcz7_2 : w6.cell? ⟨gb105,2,none⟩=some (.int .i64 a0_2):=(Zb BK105.out 2).trans rfl;have hcz7_3 : w6.cell? ⟨gb105,3,none⟩=some (.int .i64 a0_3):=(Zb BK105.out 3).trans rfl;have hcz7_4 : w6.cell? ⟨gb105,4,none⟩=some (.int .i64 a0_4):=(Zb BK105.out 4).trans rfl;have hcz7_5 : w6.cell? ⟨gb105,5,none⟩=some (.int .i64 a0_5):=(Zb BK105.out 5).trans rfl;have hcz7_6 : w6.cell? ⟨gb105,6,none⟩=some (.int .i64 a0_6):=(Zb BK105.out 6).trans rfl;have hcz7_7 : w6.cell? ⟨gb105,7,none⟩=some (.int .u8 a0_7):=(Zb BK105.out 7).trans rfl;have hfz7_0:=Za BK105.out 0;have hfz7_1:=Za BK105.out 1;have hfz7_2:=Za BK105.out 2;have hfz7_3:=Za BK105.out 3;have hfz7_4:=Za BK105.out 4;have hfz7_5:=Za BK105.out 5;have hfz7_6:=Za BK105.out 6;have hfz7_7:=Za BK105.out 7))
 go_ret
 exact ⟨by first|rfl|(simp [Zp,Zq] <;> rfl)|(simp only [← hji4,← hji5];first|rfl|(simp [Zp,Zq] <;> rfl))|(simp [*,Zp,Zq] <;> rfl),by repeat (first|(with_reducible first|exact HB.out|apply Ze|apply Zc|apply Zd|refine Zg ?_ GE105.out)|exact HB.out)⟩
end Go.Proofs.YtmjlkifmbhaiiaaDoorQ.Pb
end
