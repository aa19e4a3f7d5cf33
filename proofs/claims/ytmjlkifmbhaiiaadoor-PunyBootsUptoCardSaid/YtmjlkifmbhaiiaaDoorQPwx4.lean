/- What these functions of the program compute, and that they compute it: printed by wip/tools/orac.py over the kit's print.py; merged. -/
import Derived.Test.YtmjlkifmbhaiiaaDoorQPwx0
section
namespace Go.Proofs.YtmjlkifmbhaiiaaDoorQ.Pw
open Go.RowKit Go.Proofs.YtmjlkifmbhaiiaaDoorW.PrintWords Go.Proofs.YtmjlkifmbhaiiaaDoorW.PrintLast Go.Proofs.YtmjlkifmbhaiiaaDoorW.PrintMore
attribute [local go_sem] Go.Proofs.YtmjlkifmbhaiiaaDoor.Ye
attribute [local go_sem] max2_int min2_int max_two min_two max_three min_three max_four min_four   -- for this text's walks alone
set_option linter.unusedVariables false
set_option linter.unusedSimpArgs false
/-! ### Z5: function 14 -/
def Z5.l0 : Nat→List Int→List Int→Int→Int→Option (Bool)
 | 0,_,_,_,_ => none
 | k + 1,x0,x1,x12,x13 => if x13 < x12 then (if 0≤x13 then (if x13 < (x0.length : Int) then (if x13 < (x1.length : Int) then (if (rd x0 x13)=(rd x1 x13) then (Z5.l0 k x0 x1 x12 (wrap64 (x13 + 1))) else (some false)) else (none)) else (none)) else (none)) else (some true)
def Z5.f (k : Nat) (l0 : List Int) (l1 : List Int) : Option (Bool):=if (l0.length : Int)=(l1.length : Int) then (Z5.l0 k l0 l1 (l0.length : Int) 0) else (some false)
set_option maxHeartbeats 8000000 in
set_option maxRecDepth 100000 in
theorem Z5.calls (k : Nat) (A0 : Option Addr) (c0 : Nat) (l0 : List Int) (A1 : Option Addr) (c1 : Nat) (l1 : List Int) (r : Bool) (w : World) (hr0 : Kd.C (Kd.int .i32) w A0 l0.length l0) (hc0 : l0.length≤c0) (hr1 : Kd.C (Kd.int .i32) w A1 l1.length l1) (hc1 : l1.length≤c1) (h : Z5.f k l0 l1=some r) :
  Calls Tryd.prog 14 #[.slice A0 l0.length c0,.slice A1 l1.length c1] w fun e w' => e=.returned (.bool r)∧Yb w w':=by
 have HR0:=Zf.mk hr0
 have HC0:=Zf.mk hc0
 clear hr0 hc0
 have HR1:=Zf.mk hr1
 have HC1:=Zf.mk hc1
 clear hr1 hc1
 have H : (if (l0.length : Int)=(l1.length : Int) then (Z5.l0 k l0 l1 (l0.length : Int) 0) else (some false))=some r:=h
 clear h
 by_cases c3 : (l0.length : Int)=(l1.length : Int)
 ·rw [if_pos c3] at H
  have c3b0 : ((l0.length : Int) == (l1.length : Int))=true:=beq_iff_eq.mpr c3
  have c3b1 : ((l0.length : Int) != (l1.length : Int))=false:=bne_eq_false_iff_eq.mpr c3
  have c3b2 : (l0.length == l1.length)=true:=by first|simpa using c3|(simp at c3 ⊢;omega)
  clear c3
  have H':=Zf.mk H
  clear H
  go_enter Tryd.func14,Tryd.ntmps14
  go_wp2
  repeat (go_quiet (fail);try go_wp2)
  go_loopg [13] k (fun kq v13 w' => ∃ (x13_1 : Int),v13=.int .i64 x13_1∧Zf (Z5.l0 kq l0 l1 (l0.length : Int) x13_1=some r)∧Zf (kq≤k)∧Yb w w')
  case atStart => exact ⟨(0),(by first|rfl|(simp;done)|(simp [*];done)),H',⟨Nat.le_refl _⟩,by repeat (first|exact Yb.refl _|apply Yb.step)⟩
  case round =>
   clear H'
   try clear c1
   try clear p2
   try clear c3
   try clear c3b0
   try clear c3b1
   try clear c3b2
   obtain ⟨x13_1,rfl,HA,HK1,⟨m1,rfl⟩⟩:=hrel
   cases gk with
   | zero => exact absurd HA.out (by simp [Z5.l0])
   | succ k1 =>
    have H:=HA.out
    clear HA
    simp only [Z5.l0] at H
    by_cases c4 : x13_1 < (l0.length : Int)
    ·rw [if_pos c4] at H
     have c4b0 : decide (x13_1 < (l0.length : Int))=true:=decide_eq_true c4
     clear c4
     by_cases c5 : 0≤x13_1
     ·rw [if_pos c5] at H
      have c5b0 : decide (0≤x13_1)=true:=decide_eq_true c5
      clear c5
      by_cases c6 : x13_1 < (l0.length : Int)
      ·rw [if_pos c6] at H
       have c6b0 : decide (x13_1 < (l0.length : Int))=true:=decide_eq_true c6
       clear c6
       by_cases c7 : x13_1 < (l1.length : Int)
       ·rw [if_pos c7] at H
        have c7b0 : decide (x13_1 < (l1.length : Int))=true:=decide_eq_true c7
        clear c7
        by_cases c8 : (rd l0 x13_1)=(rd l1 x13_1)
        ·rw [if_pos c8] at H
         have c8b0 : ((rd l0 x13_1) == (rd l1 x13_1))=true:=beq_iff_eq.mpr c8
         have c8b1 : ((rd l0 x13_1) != (rd l1 x13_1))=false:=bne_eq_false_iff_eq.mpr c8
         clear c8
         have H':=Zf.mk H
         clear H
         have p182 : 0≤(x13_1 : Int):=of_decide_eq_true (by first|(with_reducible assumption)|assumption)
         have q182 : x13_1 < (l0.length : Int):=of_decide_eq_true (by first|(with_reducible assumption)|assumption)
         obtain ⟨ad182,e182,hx182_0⟩:=Kd.at_int HR0.out x13_1 p182 q182
         cases e182
         replace p182:=eq_true p182
         replace q182:=eq_true q182
         have p183 : 0≤(x13_1 : Int):=of_decide_eq_true (by first|(with_reducible assumption)|assumption)
         have q183 : x13_1 < (l1.length : Int):=of_decide_eq_true (by first|(with_reducible assumption)|assumption)
         obtain ⟨ad183,e183,hx183_0⟩:=Kd.at_int HR1.out x13_1 p183 q183
         cases e183
         replace p183:=eq_true p183
         replace q183:=eq_true q183
         go_wp2
         repeat (go_quiet (fail);try go_wp2)
         go_roundg k1
         case measure => have:=HK1.out;omega
         case rel => exact ⟨(wrap64 (x13_1 + 1)),(by first|rfl|(simp;done)|(simp [*];done)),H',⟨by have:=HK1.out;omega⟩,by repeat (first|exact Yb.refl _|apply Yb.step)⟩
        ·rw [if_neg c8] at H
         have c8b0 : ((rd l0 x13_1) == (rd l1 x13_1))=false:=beq_eq_false_iff_ne.mpr c8
         have c8b1 : ((rd l0 x13_1) != (rd l1 x13_1))=true:=bne_iff_ne.mpr c8
         obtain rfl:=Option.some.inj H
         have p182 : 0≤(x13_1 : Int):=of_decide_eq_true (by first|(with_reducible assumption)|assumption)
         have q182 : x13_1 < (l0.length : Int):=of_decide_eq_true (by first|(with_reducible assumption)|assumption)
         obtain ⟨ad182,e182,hx182_0⟩:=Kd.at_int HR0.out x13_1 p182 q182
         cases e182
         replace p182:=eq_true p182
         replace q182:=eq_true q182
         have p183 : 0≤(x13_1 : Int):=of_decide_eq_true (by first|(with_reducible assumption)|assumption)
         have q183 : x13_1 < (l1.length : Int):=of_decide_eq_true (by first|(with_reducible assumption)|assumption)
         obtain ⟨ad183,e183,hx183_0⟩:=Kd.at_int HR1.out x13_1 p183 q183
         cases e183
         replace p183:=eq_true p183
         replace q183:=eq_true q183
         go_wp2
         repeat (go_quiet (fail);try go_wp2)
         go_ret
         exact ⟨by first|rfl|(simp;done)|(simp [*];done),by repeat (first|exact Yb.refl _|apply Yb.step)⟩
       ·rw [if_neg c7] at H
        exact absurd H (by simp)
      ·rw [if_neg c6] at H
       exact absurd H (by simp)
     ·rw [if_neg c5] at H
      exact absurd H (by simp)
    ·rw [if_neg c4] at H
     have c4b0 : decide (x13_1 < (l0.length : Int))=false:=decide_eq_false c4
     clear c4
     obtain rfl:=Option.some.inj H
     go_wp2
     repeat (go_quiet (fail);try go_wp2)
     go_ret
     exact ⟨by first|rfl|(simp;done)|(simp [*];done),by repeat (first|exact Yb.refl _|apply Yb.step)⟩
 ·rw [if_neg c3] at H
  have c3b0 : ((l0.length : Int) == (l1.length : Int))=false:=beq_eq_false_iff_ne.mpr c3
  have c3b1 : ((l0.length : Int) != (l1.length : Int))=true:=bne_iff_ne.mpr c3
  have c3b2 : (l0.length == l1.length)=false:=by first|simpa using c3|(simp at c3 ⊢;omega)
  obtain rfl:=Option.some.inj H
  go_enter Tryd.func14,Tryd.ntmps14
  go_wp2
  repeat (go_quiet (fail);try go_wp2)
  go_ret
  exact ⟨by first|rfl|(simp;done)|(simp [*];done),by repeat (first|exact Yb.refl _|apply Yb.step)⟩
end Go.Proofs.YtmjlkifmbhaiiaaDoorQ.Pw
end
section
namespace Go.Proofs.YtmjlkifmbhaiiaaDoorQ.Pw
open Go.RowKit Go.Proofs.YtmjlkifmbhaiiaaDoorW.PrintWords Go.Proofs.YtmjlkifmbhaiiaaDoorW.PrintLast Go.Proofs.YtmjlkifmbhaiiaaDoorW.PrintMore
attribute [local go_sem] Go.Proofs.YtmjlkifmbhaiiaaDoor.Ye
attribute [local go_sem] max2_int min2_int max_two min_two max_three min_three max_four min_four   -- for this text's walks alone
set_option linter.unusedVariables false
set_option linter.unusedSimpArgs false
/-! ### Yg: function 24,by a contract of this repo -/
section
open Go.Proofs.YtmjlkifmbhaiiaaDoor
def Yg.f (a0_0 : Int) (a0_1 : Int) (a0_2 : Int) (a0_3 : Int) (a0_4 : Int) (a0_5 : Int) (a0_6 : Int) (a0_7 : Int) : Option Int:=if 0≤a0_7∧a0_7≤255 then some (if okB ⟨a0_0,a0_1,a0_2,a0_3,a0_4,a0_5,a0_6,a0_7⟩=true then 0 else 144) else none
theorem Yg.calls (a0_0 : Int) (a0_1 : Int) (a0_2 : Int) (a0_3 : Int) (a0_4 : Int) (a0_5 : Int) (a0_6 : Int) (a0_7 : Int) (r : Int) (w : World) (h : Yg.f a0_0 a0_1 a0_2 a0_3 a0_4 a0_5 a0_6 a0_7=some r) :
  Calls Tryd.prog 24 #[.agg #[.int .i64 a0_0,.int .i64 a0_1,.int .i64 a0_2,.int .i64 a0_3,.int .i64 a0_4,.int .i64 a0_5,.int .i64 a0_6,.int .u8 a0_7]] w fun e w' => e=.returned (.int .i64 r)∧Below w.heap.size w w':=by
 unfold Yg.f at h
 split at h
 ·rename_i hb
  have hc:=Check_any ⟨a0_0,a0_1,a0_2,a0_3,a0_4,a0_5,a0_6,a0_7⟩ w hb
  rw [Option.some.inj h] at hc
  exact hc
 ·cases h
end
end Go.Proofs.YtmjlkifmbhaiiaaDoorQ.Pw
end
section
namespace Go.Proofs.YtmjlkifmbhaiiaaDoorQ.Pw
open Go.RowKit Go.Proofs.YtmjlkifmbhaiiaaDoorW.PrintWords Go.Proofs.YtmjlkifmbhaiiaaDoorW.PrintLast Go.Proofs.YtmjlkifmbhaiiaaDoorW.PrintMore
attribute [local go_sem] Go.Proofs.YtmjlkifmbhaiiaaDoor.Ye
attribute [local go_sem] max2_int min2_int max_two min_two max_three min_three max_four min_four   -- for this text's walks alone
set_option linter.unusedVariables false
set_option linter.unusedSimpArgs false
/-! ### Z4: function 19 -/
mutual
def Z4.j0 : Nat→Int→Bool→Option (Int)
 | 0,_,_ => none
 | k + 1,x0,x8 => if x8=true then (some ((x0 - 97) % 256)) else (if x0 ≥ 65 then (Z4.j1 k x0 (decide (x0≤90))) else (Z4.j1 k x0 false))
def Z4.j1 : Nat→Int→Bool→Option (Int)
 | 0,_,_ => none
 | k + 1,x0,x17 => if x17=true then (some ((x0 - 65) % 256)) else (if x0 ≥ 48 then (if x0≤57 then (some (((x0 - 48) % 256) + 26)) else (some (-1))) else (some (-1)))
end
def Z4.f (k : Nat) (a0 : Int) : Option (Int):=if a0 ≥ 97 then (Z4.j0 k a0 (decide (a0≤122))) else (Z4.j0 k a0 false)
set_option maxHeartbeats 8000000 in
set_option maxRecDepth 100000 in
theorem Z4.calls (k : Nat) (a0 : Int) (r : Int) (w : World) (h : Z4.f k a0=some r) :
  Calls Tryd.prog 19 #[.int .u8 a0] w fun e w' => e=.returned (.int .i64 r)∧Yb w w':=by
 have H : (if a0 ≥ 97 then (Z4.j0 k a0 (decide (a0≤122))) else (Z4.j0 k a0 false))=some r:=h
 clear h
 have HC2:=Zf.mk H
 clear H
 go_enter Tryd.func19,Tryd.ntmps19
 go_upto_region 1 with (fail)
 go_cut [8] (fun v8 wc => ∃ (kq : Nat) (x8_1 : Bool),v8=.bool x8_1∧Zf (Z4.j0 kq a0 x8_1=some r)∧Zf (kq≤k)∧Yb w wc)
 case first =>
  have H:=HC2.out
  clear HC2
  by_cases c3 : a0 ≥ 97
  ·rw [if_pos c3] at H
   have c3b0 : decide (97≤a0)=true:=decide_eq_true c3
   clear c3
   (first|rw [c3b0]|rw [c3b1]|(simp only [i64_w,i32_w];rw [c3b0])|skip)
   have H':=Zf.mk H
   clear H
   go_wp2
   go_meet
   case rel => exact ⟨_,(decide (a0≤122)),(by first|rfl|(simp;done)|(simp [*];done)),H',⟨by first|omega|exact Nat.le_refl _⟩,by repeat (first|exact Yb.refl _|apply Yb.step)⟩
  ·rw [if_neg c3] at H
   have c3b0 : decide (97≤a0)=false:=decide_eq_false c3
   clear c3
   (first|rw [c3b0]|rw [c3b1]|(simp only [i64_w,i32_w];rw [c3b0])|skip)
   have H':=Zf.mk H
   clear H
   go_wp2
   go_meet
   case rel => exact ⟨_,(false),(by first|rfl|(simp;done)|(simp [*];done)),H',⟨by first|omega|exact Nat.le_refl _⟩,by repeat (first|exact Yb.refl _|apply Yb.step)⟩
 case rest =>
  clear HC2
  try clear c1
  try clear p2
  try clear c3
  try clear c3b0
  obtain ⟨kq,x8_1,rfl,HA,HJ1,⟨mc1,rfl⟩⟩:=hcut
  cases kq with
  | zero => exact absurd HA.out (by simp [Z4.j0])
  | succ kj1 =>
   have H:=HA.out
   clear HA
   simp only [Z4.j0] at H
   by_cases c4 : x8_1=true
   ·subst c4
    have H1 : (some ((a0 - 97) % 256))=some r:=by rw [if_pos rfl] at H;exact H
    clear H
    have H:=H1
    clear H1
    obtain rfl:=Option.some.inj H
    go_wp2
    go_ret
    exact ⟨by first|rfl|(simp;done)|(simp [*];done),by repeat (first|exact Yb.refl _|apply Yb.step)⟩
   ·replace c4:=Bool.eq_false_iff.mpr c4
    subst c4
    have H1 : (if a0 ≥ 65 then (Z4.j1 kj1 a0 (decide (a0≤90))) else (Z4.j1 kj1 a0 false))=some r:=by rw [if_neg (show ¬ (false=true) by decide)] at H;exact H
    clear H
    have H:=H1
    clear H1
    have HC5:=Zf.mk H
    clear H
    go_upto_region 3 with (fail)
    go_cut [17] (fun v17 wc => ∃ (kq : Nat) (x17_4 : Bool),v17=.bool x17_4∧Zf (Z4.j1 kq a0 x17_4=some r)∧Zf (kq≤kj1)∧Yb w wc)
    case first =>
     have H:=HC5.out
     clear HC5
     by_cases c6 : a0 ≥ 65
     ·rw [if_pos c6] at H
      have c6b0 : decide (65≤a0)=true:=decide_eq_true c6
      clear c6
      (first|rw [c6b0]|rw [c6b1]|(simp only [i64_w,i32_w];rw [c6b0])|skip)
      have H':=Zf.mk H
      clear H
      go_wp2
      go_meet
      case rel => exact ⟨_,(decide (a0≤90)),(by first|rfl|(simp;done)|(simp [*];done)),H',⟨by have:=HJ1.out;first|omega|exact Nat.le_refl _⟩,by repeat (first|exact Yb.refl _|apply Yb.step)⟩
     ·rw [if_neg c6] at H
      have c6b0 : decide (65≤a0)=false:=decide_eq_false c6
      clear c6
      (first|rw [c6b0]|rw [c6b1]|(simp only [i64_w,i32_w];rw [c6b0])|skip)
      have H':=Zf.mk H
      clear H
      go_wp2
      go_meet
      case rel => exact ⟨_,(false),(by first|rfl|(simp;done)|(simp [*];done)),H',⟨by have:=HJ1.out;first|omega|exact Nat.le_refl _⟩,by repeat (first|exact Yb.refl _|apply Yb.step)⟩
    case rest =>
     clear HC5
     try clear c1
     try clear p2
     try clear c3
     try clear c3b0
     try clear c4
     try clear c6
     try clear c6b0
     try clear p2
     obtain ⟨kq,x17_4,rfl,HA,HJ4,⟨mc4,rfl⟩⟩:=hcut
     cases kq with
     | zero => exact absurd HA.out (by simp [Z4.j1])
     | succ kj4 =>
      have H:=HA.out
      clear HA
      simp only [Z4.j1] at H
      by_cases c7 : x17_4=true
      ·subst c7
       have H1 : (some ((a0 - 65) % 256))=some r:=by rw [if_pos rfl] at H;exact H
       clear H
       have H:=H1
       clear H1
       obtain rfl:=Option.some.inj H
       go_wp2
       go_ret
       exact ⟨by first|rfl|(simp;done)|(simp [*];done),by repeat (first|exact Yb.refl _|apply Yb.step)⟩
      ·replace c7:=Bool.eq_false_iff.mpr c7
       subst c7
       have H1 : (if a0 ≥ 48 then (if a0≤57 then (some (((a0 - 48) % 256) + 26)) else (some (-1))) else (some (-1)))=some r:=by rw [if_neg (show ¬ (false=true) by decide)] at H;exact H
       clear H
       have H:=H1
       clear H1
       by_cases c8 : a0 ≥ 48
       ·rw [if_pos c8] at H
        have c8b0 : decide (48≤a0)=true:=decide_eq_true c8
        clear c8
        by_cases c9 : a0≤57
        ·rw [if_pos c9] at H
         have c9b0 : decide (a0≤57)=true:=decide_eq_true c9
         clear c9
         obtain rfl:=Option.some.inj H
         go_wp2
         go_ret
         exact ⟨by first|rfl|(simp;done)|(simp [*];done),by repeat (first|exact Yb.refl _|apply Yb.step)⟩
        ·rw [if_neg c9] at H
         have c9b0 : decide (a0≤57)=false:=decide_eq_false c9
         clear c9
         obtain rfl:=Option.some.inj H
         go_wp2
         go_ret
         exact ⟨by first|rfl|(simp;done)|(simp [*];done),by repeat (first|exact Yb.refl _|apply Yb.step)⟩
       ·rw [if_neg c8] at H
        have c8b0 : decide (48≤a0)=false:=decide_eq_false c8
        clear c8
        obtain rfl:=Option.some.inj H
        go_wp2
        go_ret
        exact ⟨by first|rfl|(simp;done)|(simp [*];done),by repeat (first|exact Yb.refl _|apply Yb.step)⟩
end Go.Proofs.YtmjlkifmbhaiiaaDoorQ.Pw
end
section
namespace Go.Proofs.YtmjlkifmbhaiiaaDoorQ.Pw
open Go.RowKit Go.Proofs.YtmjlkifmbhaiiaaDoorW.PrintWords Go.Proofs.YtmjlkifmbhaiiaaDoorW.PrintLast Go.Proofs.YtmjlkifmbhaiiaaDoorW.PrintMore
attribute [local go_sem] Go.Proofs.YtmjlkifmbhaiiaaDoor.Ye
attribute [local go_sem] max2_int min2_int max_two min_two max_three min_three max_four min_four   -- for this text's walks alone
set_option linter.unusedVariables false
set_option linter.unusedSimpArgs false
/-! ### Yd: function 40 -/
def Yd.f (k : Nat) (a0 : Int) (a1 : Int) : Option (Int):=(Z4.f k a0).bind fun t184 => (if t184 ≥ a1 then (some (-1)) else (some t184))
set_option maxHeartbeats 8000000 in
set_option maxRecDepth 100000 in
theorem Yd.calls (k : Nat) (a0 : Int) (a1 : Int) (r : Int) (w : World) (h : Yd.f k a0 a1=some r) :
  Calls Tryd.prog 40 #[.int .u8 a0,.int .i64 a1] w fun e w' => e=.returned (.int .i64 r)∧Yb w w':=by
 have H : ((Z4.f k a0).bind fun t184 => (if t184 ≥ a1 then (some (-1)) else (some t184)))=some r:=h
 clear h
 replace H:=Option.bind_eq_some_iff.mp H
 obtain ⟨t184,A30,H⟩:=H
 replace H : (if t184 ≥ a1 then (some (-1)) else (some t184))=some r:=H
 have A3:=Zf.mk A30
 clear A30
 by_cases c4 : t184 ≥ a1
 ·rw [if_pos c4] at H
  have c4b0 : decide (a1≤t184)=true:=decide_eq_true c4
  clear c4
  obtain rfl:=Option.some.inj H
  go_enter Tryd.func40,Tryd.ntmps40
  go_wp2_with (first|((with_reducible refine Z0 (f:=19) rfl ?_);refine goesL_ (some 7) rfl rfl Tryd.func19 (by kernel_rfl) rfl #[.int .u8 a0] rfl (by (try simp only [List.map_toArray,List.map_cons,List.map_nil]);first|done|rfl|(simp only [List.length_drop,List.length_take];rfl)) ?_;(with_reducible refine (Z4.calls k a0 t184 _ A3.out).mono ?_);rintro e w' ⟨rfl,⟨nd,rfl⟩⟩;refine ⟨_,rfl,?_⟩))
  go_ret
  exact ⟨by first|rfl|(simp;done)|(simp [*];done),by repeat (first|exact Yb.refl _|apply Yb.step)⟩
 ·rw [if_neg c4] at H
  have c4b0 : decide (a1≤t184)=false:=decide_eq_false c4
  clear c4
  obtain rfl:=Option.some.inj H
  go_enter Tryd.func40,Tryd.ntmps40
  go_wp2_with (first|((with_reducible refine Z0 (f:=19) rfl ?_);refine goesL_ (some 7) rfl rfl Tryd.func19 (by kernel_rfl) rfl #[.int .u8 a0] rfl (by (try simp only [List.map_toArray,List.map_cons,List.map_nil]);first|done|rfl|(simp only [List.length_drop,List.length_take];rfl)) ?_;(with_reducible refine (Z4.calls k a0 t184 _ A3.out).mono ?_);rintro e w' ⟨rfl,⟨nd,rfl⟩⟩;refine ⟨_,rfl,?_⟩))
  go_ret
  exact ⟨by first|rfl|(simp;done)|(simp [*];done),by repeat (first|exact Yb.refl _|apply Yb.step)⟩
end Go.Proofs.YtmjlkifmbhaiiaaDoorQ.Pw
end
