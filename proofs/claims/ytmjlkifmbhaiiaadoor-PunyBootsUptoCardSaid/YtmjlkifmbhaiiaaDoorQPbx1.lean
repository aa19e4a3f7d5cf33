/- What these functions of the program compute, and that they compute it: printed by wip/tools/orac.py over the kit's print.py; merged. -/
import Derived.Test.YtmjlkifmbhaiiaaDoorQPbx0
section
namespace Go.Proofs.YtmjlkifmbhaiiaaDoorQ.Pb
open Go.RowKit Go.Proofs.YtmjlkifmbhaiiaaDoorW.PrintWords Go.Proofs.YtmjlkifmbhaiiaaDoorW.PrintLast Go.Proofs.YtmjlkifmbhaiiaaDoorW.PrintMore
attribute [local go_sem] Go.Proofs.YtmjlkifmbhaiiaaDoor.Ye
attribute [local go_sem] max2_int min2_int max_two min_two max_three min_three max_four min_four   -- for this text's walks alone
set_option linter.unusedVariables false
set_option linter.unusedSimpArgs false
/-! ### utf8_ValidRune: function 60 -/
def utf8_ValidRune.j0 : Nat→Int→Bool→Option (Bool)
 | 0,_,_ => none
 | k + 1,x0,x3 => if x3=true then (some true) else (if 57343 < x0 then (if x0≤1114111 then (some true) else (some false)) else (some false))
def utf8_ValidRune.f (k : Nat) (a0 : Int) : Option (Bool):=if 0≤a0 then (utf8_ValidRune.j0 k a0 (decide (a0 < 55296))) else (utf8_ValidRune.j0 k a0 false)
set_option maxHeartbeats 8000000 in
set_option maxRecDepth 100000 in
theorem utf8_ValidRune.calls (k : Nat) (a0 : Int) (r : Bool) (w : World) (h : utf8_ValidRune.f k a0=some r) :
  Calls Tryd.prog 60 #[.int .i32 a0] w fun e w' => e=.returned (.bool r)∧Yb w w':=by
 have H : (if 0≤a0 then (utf8_ValidRune.j0 k a0 (decide (a0 < 55296))) else (utf8_ValidRune.j0 k a0 false))=some r:=h
 clear h
 have HC2:=Zf.mk H
 clear H
 go_enter Tryd.func60,Tryd.ntmps60
 go_upto_region 1 with (fail)
 go_cut [3] (fun v3 wc => ∃ (kq : Nat) (x3_1 : Bool),v3=.bool x3_1∧Zf (utf8_ValidRune.j0 kq a0 x3_1=some r)∧Zf (kq≤k)∧Yb w wc)
 case first =>
  have H:=HC2.out
  clear HC2
  by_cases c3 : 0≤a0
  ·rw [if_pos c3] at H
   have c3b0 : decide (0≤a0)=true:=decide_eq_true c3
   clear c3
   (first|rw [c3b0]|rw [c3b1]|(simp only [i64_w,i32_w];rw [c3b0])|skip)
   have H':=Zf.mk H
   clear H
   go_wp2
   go_meet
   case rel => exact ⟨_,(decide (a0 < 55296)),(by first|rfl|(simp;done)|(simp [*];done)),H',⟨by first|omega|exact Nat.le_refl _⟩,by repeat (first|exact Yb.refl _|apply Yb.step)⟩
  ·rw [if_neg c3] at H
   have c3b0 : decide (0≤a0)=false:=decide_eq_false c3
   clear c3
   (first|rw [c3b0]|rw [c3b1]|(simp only [i64_w,i32_w];rw [c3b0])|skip)
   have H':=Zf.mk H
   clear H
   go_wp2
   go_meet
   case rel => exact ⟨_,(false),(by first|rfl|(simp;done)|(simp [*];done)),H',⟨by first|omega|exact Nat.le_refl _⟩,by repeat (first|exact Yb.refl _|apply Yb.step)⟩
 case rest =>
  clear HC2
  try clear p2
  try clear c3
  try clear c3b0
  obtain ⟨kq,x3_1,rfl,HA,HJ1,⟨mc1,rfl⟩⟩:=hcut
  cases kq with
  | zero => exact absurd HA.out (by simp [utf8_ValidRune.j0])
  | succ kj1 =>
   have H:=HA.out
   clear HA
   simp only [utf8_ValidRune.j0] at H
   by_cases c4 : x3_1=true
   ·subst c4
    have H1 : (some true)=some r:=by rw [if_pos rfl] at H;exact H
    clear H
    have H:=H1
    clear H1
    obtain rfl:=Option.some.inj H
    go_wp2
    go_ret
    exact ⟨by first|rfl|(simp;done)|(simp [*];done),by repeat (first|exact Yb.refl _|apply Yb.step)⟩
   ·replace c4:=Bool.eq_false_iff.mpr c4
    subst c4
    have H1 : (if 57343 < a0 then (if a0≤1114111 then (some true) else (some false)) else (some false))=some r:=by rw [if_neg (show ¬ (false=true) by decide)] at H;exact H
    clear H
    have H:=H1
    clear H1
    by_cases c5 : 57343 < a0
    ·rw [if_pos c5] at H
     have c5b0 : decide (57343 < a0)=true:=decide_eq_true c5
     clear c5
     by_cases c6 : a0≤1114111
     ·rw [if_pos c6] at H
      have c6b0 : decide (a0≤1114111)=true:=decide_eq_true c6
      clear c6
      obtain rfl:=Option.some.inj H
      go_wp2
      go_ret
      exact ⟨by first|rfl|(simp;done)|(simp [*];done),by repeat (first|exact Yb.refl _|apply Yb.step)⟩
     ·rw [if_neg c6] at H
      have c6b0 : decide (a0≤1114111)=false:=decide_eq_false c6
      clear c6
      obtain rfl:=Option.some.inj H
      go_wp2
      go_ret
      exact ⟨by first|rfl|(simp;done)|(simp [*];done),by repeat (first|exact Yb.refl _|apply Yb.step)⟩
    ·rw [if_neg c5] at H
     have c5b0 : decide (57343 < a0)=false:=decide_eq_false c5
     clear c5
     obtain rfl:=Option.some.inj H
     go_wp2
     go_ret
     exact ⟨by first|rfl|(simp;done)|(simp [*];done),by repeat (first|exact Yb.refl _|apply Yb.step)⟩
end Go.Proofs.YtmjlkifmbhaiiaaDoorQ.Pb
end
section
namespace Go.Proofs.YtmjlkifmbhaiiaaDoorQ.Pb
open Go.RowKit Go.Proofs.YtmjlkifmbhaiiaaDoorW.PrintWords Go.Proofs.YtmjlkifmbhaiiaaDoorW.PrintLast Go.Proofs.YtmjlkifmbhaiiaaDoorW.PrintMore
attribute [local go_sem] Go.Proofs.YtmjlkifmbhaiiaaDoor.Ye
attribute [local go_sem] max2_int min2_int max_two min_two max_three min_three max_four min_four   -- for this text's walks alone
set_option linter.unusedVariables false
set_option linter.unusedSimpArgs false
/-! ### scalar_Scalar: function 52 -/
def scalar_Scalar.f (k : Nat) (a0 : Int) : Option (Bool):=(utf8_ValidRune.f k a0).bind fun t106 => (some t106)
set_option maxHeartbeats 8000000 in
set_option maxRecDepth 100000 in
theorem scalar_Scalar.calls (k : Nat) (a0 : Int) (r : Bool) (w : World) (h : scalar_Scalar.f k a0=some r) :
  Calls Tryd.prog 52 #[.int .i32 a0] w fun e w' => e=.returned (.bool r)∧Yb w w':=by
 have H : ((utf8_ValidRune.f k a0).bind fun t106 => (some t106))=some r:=h
 clear h
 replace H:=Option.bind_eq_some_iff.mp H
 obtain ⟨t106,A20,H⟩:=H
 replace H : (some t106)=some r:=H
 have A2:=Zf.mk A20
 clear A20
 obtain rfl:=Option.some.inj H
 go_enter Tryd.func52,Tryd.ntmps52
 go_wp2_with (first|((with_reducible refine Z0 (f:=60) rfl ?_);refine goesL_ (some 4) rfl rfl Tryd.func60 (by kernel_rfl) rfl #[.int .i32 a0] rfl (by (try simp only [List.map_toArray,List.map_cons,List.map_nil]);first|done|rfl|(simp only [List.length_drop,List.length_take];rfl)) ?_;(with_reducible refine (utf8_ValidRune.calls k a0 t106 _ A2.out).mono ?_);rintro e w' ⟨rfl,⟨nd,rfl⟩⟩;refine ⟨_,rfl,?_⟩))
 go_ret
 exact ⟨by first|rfl|(simp;done)|(simp [*];done),by repeat (first|exact Yb.refl _|apply Yb.step)⟩
end Go.Proofs.YtmjlkifmbhaiiaaDoorQ.Pb
end
