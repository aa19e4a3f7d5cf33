/- What these functions of the program compute, and that they compute it: printed by wip/tools/orac.py over the kit's print.py; merged. -/
import Derived.Test.YtfbgmlophkbejaaDoorProg
import Derived.Below
import Derived.Deep.Draws
import Derived.Deep.AppendLies
import Derived.Maps.AppendAt
import Derived.OwnWalk
import Derived.Laws.BytesArg
import Derived.Laws.MakeOwn
import Derived.Laws.OwnMore
import Derived.Deep.OwnRows
import Derived.Tactics
import Derived.Lib.ConvBytes
import Derived.Laws.Slices
import Derived.WalkKit
import Derived.KernelRfl
import Derived.RowKit3
import Derived.Deep.LoopGhost
import Derived.Deep.QuietTactic
import Derived.BigQuiet
import Derived.WideLaws
import Derived.Deep.DeepCutAuto
import Derived.Deep.CutBlock
import Derived.Deep.RegionHeld3
import Derived.Laws.Rows
import Derived.Lib.AppendStr
import Derived.ArgAppend
import Derived.Laws.IdiomCopy
import Derived.OrdersHeld
import Derived.Laws.BitsLemmas
import Derived.RowKit
import Derived.Test.YtfbgmlophkbejaaDoorScX
import Derived.Test.YtfbgmlophkbejaaDoorPctM
import Derived.Test.YtfbgmlophkbejaaDoorShelf
import Derived.Test.YtfbgmlophkbejaaDoorMaxA
import Derived.Test.YtfbgmlophkbejaaDoorWWords
import Derived.Test.YtfbgmlophkbejaaDoorWLast
import Derived.Test.YtfbgmlophkbejaaDoorWTab
import Derived.Test.YtfbgmlophkbejaaDoorWQPut
import Derived.Test.YtfbgmlophkbejaaDoorWApart
import Derived.Test.YtfbgmlophkbejaaDoorWFoot
import Derived.Test.YtfbgmlophkbejaaDoorWKept
import Derived.Test.YtfbgmlophkbejaaDoorWShare
import Derived.Test.YtfbgmlophkbejaaDoorWN
import Derived.Laws.StructEq
import Derived.Test.YtfbgmlophkbejaaDoorWRepsOne
import Derived.Test.YtfbgmlophkbejaaDoorWInv
import Derived.Test.YtfbgmlophkbejaaDoorWInvWords
import Derived.Test.YtfbgmlophkbejaaDoorWMore
import Derived.SizedLaws
import Derived.ChangeSlices
section
namespace Go.Proofs.YtfbgmlophkbejaaDoorQ.Pas
open Go.RowKit Go.Proofs.YtfbgmlophkbejaaDoorW.PrintWords Go.Proofs.YtfbgmlophkbejaaDoorW.PrintLast Go.Proofs.YtfbgmlophkbejaaDoorW.PrintMore
attribute [local go_sem] max2_int min2_int max_two min_two max_three min_three max_four min_four   -- for this text's walks alone
set_option linter.unusedVariables false
set_option linter.unusedSimpArgs false
def errW : Option Int→Value
 | none => .nilIface
 | some c => .iface 0 (.int .i64 c)
theorem errW_none : errW none=.nilIface:=rfl
theorem errW_some (c : Int) : errW (some c)=.iface 0 (.int .i64 c):=rfl
theorem info93 : (Tryd.prog.info? 93).map (fun i => (i.zero,i.size,i.bytes))=some (some (.int .u16 0),1,2):=by kernel_rfl
-- the values' own types
end Go.Proofs.YtfbgmlophkbejaaDoorQ.Pas
end
section
namespace Go.Proofs.YtfbgmlophkbejaaDoorQ.Pas
open Go.RowKit Go.Proofs.YtfbgmlophkbejaaDoorW.PrintWords Go.Proofs.YtfbgmlophkbejaaDoorW.PrintLast Go.Proofs.YtfbgmlophkbejaaDoorW.PrintMore
attribute [local go_sem] max2_int min2_int max_two min_two max_three min_three max_four min_four   -- for this text's walks alone
set_option linter.unusedVariables false
set_option linter.unusedSimpArgs false
/-! ### utf8_ValidRune: function 120 -/
def utf8_ValidRune.j0 : Nat→Int→Bool→Option (Bool)
 | 0,_,_ => none
 | k + 1,x0,x3 => if x3=true then (some true) else (if 57343 < x0 then (if x0≤1114111 then (some true) else (some false)) else (some false))
def utf8_ValidRune.f (k : Nat) (a0 : Int) : Option (Bool):=if 0≤a0 then (utf8_ValidRune.j0 k a0 (decide (a0 < 55296))) else (utf8_ValidRune.j0 k a0 false)
set_option maxHeartbeats 8000000 in
set_option maxRecDepth 100000 in
theorem utf8_ValidRune.calls (k : Nat) (a0 : Int) (r : Bool) (w : World) (h : utf8_ValidRune.f k a0=some r) :
  Calls Tryd.prog 120 #[.int .i32 a0] w fun e w' => e=.returned (.bool r)∧Zp w w':=by
 have H : (if 0≤a0 then (utf8_ValidRune.j0 k a0 (decide (a0 < 55296))) else (utf8_ValidRune.j0 k a0 false))=some r:=h
 clear h
 have HC2:=Zd.mk H
 clear H
 go_enter Tryd.func120,Tryd.ntmps120
 go_upto_region 1 with (fail)
 go_cut [3] (fun v3 wc => ∃ (kq : Nat) (x3_1 : Bool),v3=.bool x3_1∧Zd (utf8_ValidRune.j0 kq a0 x3_1=some r)∧Zd (kq≤k)∧Zp w wc)
 case first =>
  have H:=HC2.out
  clear HC2
  by_cases c3 : 0≤a0
  ·rw [if_pos c3] at H
   have c3b0 : decide (0≤a0)=true:=decide_eq_true c3
   clear c3
   (first|rw [c3b0]|rw [c3b1]|(simp only [i64_w,i32_w];rw [c3b0])|skip)
   have H':=Zd.mk H
   clear H
   go_wp2
   go_meet
   case rel => exact ⟨_,(decide (a0 < 55296)),(by first|rfl|(simp;done)|(simp [*];done)),H',⟨by first|omega|exact Nat.le_refl _⟩,by repeat (first|exact Zp.refl _|apply Zp.step)⟩
  ·rw [if_neg c3] at H
   have c3b0 : decide (0≤a0)=false:=decide_eq_false c3
   clear c3
   (first|rw [c3b0]|rw [c3b1]|(simp only [i64_w,i32_w];rw [c3b0])|skip)
   have H':=Zd.mk H
   clear H
   go_wp2
   go_meet
   case rel => exact ⟨_,(false),(by first|rfl|(simp;done)|(simp [*];done)),H',⟨by first|omega|exact Nat.le_refl _⟩,by repeat (first|exact Zp.refl _|apply Zp.step)⟩
 case rest =>
  clear HC2
  try clear c1
  try clear p2
  try clear c3
  try clear c3b0
  obtain ⟨kq,x3_1,rfl,HA,HJ1,⟨mc1,rfl⟩⟩:=hcut
  cases kq with
  | zero => exact absurd HA.out (by simp [utf8_ValidRune.j0])
  | succ kj1 =>
   have H:=HA.out
   clear HA
   simp only [utf8_ValidRune.j0] at H
   by_cases c4 : x3_1=true
   ·subst c4
    have H1 : (some true)=some r:=by rw [if_pos rfl] at H;exact H
    clear H
    have H:=H1
    clear H1
    obtain rfl:=Option.some.inj H
    go_wp2
    go_ret
    exact ⟨by first|rfl|(simp;done)|(simp [*];done),by repeat (first|exact Zp.refl _|apply Zp.step)⟩
   ·replace c4:=Bool.eq_false_iff.mpr c4
    subst c4
    have H1 : (if 57343 < a0 then (if a0≤1114111 then (some true) else (some false)) else (some false))=some r:=by rw [if_neg (show ¬ (false=true) by decide)] at H;exact H
    clear H
    have H:=H1
    clear H1
    by_cases c5 : 57343 < a0
    ·rw [if_pos c5] at H
     have c5b0 : decide (57343 < a0)=true:=decide_eq_true c5
     clear c5
     by_cases c6 : a0≤1114111
     ·rw [if_pos c6] at H
      have c6b0 : decide (a0≤1114111)=true:=decide_eq_true c6
      clear c6
      obtain rfl:=Option.some.inj H
      go_wp2
      go_ret
      exact ⟨by first|rfl|(simp;done)|(simp [*];done),by repeat (first|exact Zp.refl _|apply Zp.step)⟩
     ·rw [if_neg c6] at H
      have c6b0 : decide (a0≤1114111)=false:=decide_eq_false c6
      clear c6
      obtain rfl:=Option.some.inj H
      go_wp2
      go_ret
      exact ⟨by first|rfl|(simp;done)|(simp [*];done),by repeat (first|exact Zp.refl _|apply Zp.step)⟩
    ·rw [if_neg c5] at H
     have c5b0 : decide (57343 < a0)=false:=decide_eq_false c5
     clear c5
     obtain rfl:=Option.some.inj H
     go_wp2
     go_ret
     exact ⟨by first|rfl|(simp;done)|(simp [*];done),by repeat (first|exact Zp.refl _|apply Zp.step)⟩
end Go.Proofs.YtfbgmlophkbejaaDoorQ.Pas
end
section
namespace Go.Proofs.YtfbgmlophkbejaaDoorQ.Pas
open Go.RowKit Go.Proofs.YtfbgmlophkbejaaDoorW.PrintWords Go.Proofs.YtfbgmlophkbejaaDoorW.PrintLast Go.Proofs.YtfbgmlophkbejaaDoorW.PrintMore
attribute [local go_sem] max2_int min2_int max_two min_two max_three min_three max_four min_four   -- for this text's walks alone
set_option linter.unusedVariables false
set_option linter.unusedSimpArgs false
/-! ### scalar_Scalar: function 103 -/
def scalar_Scalar.f (k : Nat) (a0 : Int) : Option (Bool):=(utf8_ValidRune.f k a0).bind fun t101 => (some t101)
set_option maxHeartbeats 8000000 in
set_option maxRecDepth 100000 in
theorem scalar_Scalar.calls (k : Nat) (a0 : Int) (r : Bool) (w : World) (h : scalar_Scalar.f k a0=some r) :
  Calls Tryd.prog 103 #[.int .i32 a0] w fun e w' => e=.returned (.bool r)∧Zp w w':=by
 have H : ((utf8_ValidRune.f k a0).bind fun t101 => (some t101))=some r:=h
 clear h
 replace H:=Option.bind_eq_some_iff.mp H
 obtain ⟨t101,A20,H⟩:=H
 replace H : (some t101)=some r:=H
 have A2:=Zd.mk A20
 clear A20
 obtain rfl:=Option.some.inj H
 go_enter Tryd.func103,Tryd.ntmps103
 go_wp2_with (first|((with_reducible refine gate_callee (f:=120) rfl ?_);refine goesL_ (some 4) rfl rfl Tryd.func120 (by kernel_rfl) rfl #[.int .i32 a0] rfl (by (try simp only [List.map_toArray,List.map_cons,List.map_nil]);first|done|rfl|(simp only [List.length_drop,List.length_take];rfl)) ?_;(with_reducible refine (utf8_ValidRune.calls k a0 t101 _ A2.out).mono ?_);rintro e w' ⟨rfl,⟨nd,rfl⟩⟩;refine ⟨_,rfl,?_⟩))
 go_ret
 exact ⟨by first|rfl|(simp;done)|(simp [*];done),by repeat (first|exact Zp.refl _|apply Zp.step)⟩
end Go.Proofs.YtfbgmlophkbejaaDoorQ.Pas
end
section
namespace Go.Proofs.YtfbgmlophkbejaaDoorQ.Pas
open Go.RowKit Go.Proofs.YtfbgmlophkbejaaDoorW.PrintWords Go.Proofs.YtfbgmlophkbejaaDoorW.PrintLast Go.Proofs.YtfbgmlophkbejaaDoorW.PrintMore
attribute [local go_sem] max2_int min2_int max_two min_two max_three min_three max_four min_four   -- for this text's walks alone
set_option linter.unusedVariables false
set_option linter.unusedSimpArgs false
/-! ### Zv: function 82 -/
def Zv.l0 : Nat→List Int→List Int→Int→Int→Option (List Int × Int × Int)
 | 0,_,_,_,_ => none
 | k + 1,x5,x8,x9,x10 => if x10 < x9 then (if 0≤x10 then (if x10 < (x8.length : Int) then ((scalar_Scalar.f k (rd x8 x10)).bind fun t103 => (if t103=true then (if (rd x8 x10) < 65536 then (if x5.length < 70368744177664 then (Zv.l0 k (x5++[IntKind.u16.wrap (rd x8 x10)]) x8 x9 (wrap64 (x10 + 1))) else (none)) else ((some (([IntKind.u16.wrap (wrap32 (55296 + ((wrap32 ((rd x8 x10) - 65536)) / 1024))),IntKind.u16.wrap (wrap32 (56320 + (Go.bits .and .i32 (wrap32 ((rd x8 x10) - 65536)) 1023)))] : List Int) : List Int)).bind fun y107 => (if x5.length + y107.length < 70368744177664 then (Zv.l0 k (x5++y107) x8 x9 (wrap64 (x10 + 1))) else (none)))) else (some (([] : List Int),x10,20)))) else (none)) else (none)) else (some (x5,0,0))
def Zv.f (k : Nat) (l0 : List Int) : Option (List Int × Int × Int):=Zv.l0 k ([] : List Int) l0 (l0.length : Int) 0
set_option maxHeartbeats 8000000 in
set_option maxRecDepth 100000 in
theorem Zv.calls (k : Nat) (A0 : Option Addr) (c0 : Nat) (l0 : List Int) (r1 : List Int) (r2 : Int) (r3 : Int) (w : World) (hr0 : Kd.C (Kd.int .i32) w A0 l0.length l0) (hc0 : l0.length≤c0) (h : Zv.f k l0=some (r1,r2,r3)) :
  Calls Tryd.prog 82 #[.slice A0 l0.length c0] w fun e w' => ∃ v0_ : Value,e=.returned (.tuple #[v0_,.int .i64 r2,.int .i64 r3])∧Kd.R (Kd.int .u16) 93 w' w.heap.size (fun _ => True) v0_ r1∧Below w.heap.size w w':=by
 have HR0:=Zd.mk hr0
 have HC0:=Zd.mk hc0
 clear hr0 hc0
 have HB:=Zd.mk (Below.refl w.heap.size w)
 have H : (Zv.l0 k ([] : List Int) l0 (l0.length : Int) 0)=some (r1,r2,r3):=h
 clear h
 have H':=Zd.mk H
 clear H
 go_enter Tryd.func82,Tryd.ntmps82
 go_wp2
 go_loopg [5,10] k (fun kq v5 v10 w' => ∃ (x5_1 : List Int) (x10_1 : Int),v10=.int .i64 x10_1∧Zd (Zv.l0 kq x5_1 l0 (l0.length : Int) x10_1=some (r1,r2,r3))∧Zd (kq≤k)∧Zd (Kd.R (Kd.int .u16) 93 w' w.heap.size (fun _ => True) v5 x5_1)∧Zd (Below w.heap.size w w'))
 case atStart => exact ⟨(([] : List Int)),(0),(by first|rfl|(simp;done)|(simp [*];done)),H',⟨Nat.le_refl _⟩,⟨by first|exact Kd.R_nil _ _ _ _ _|exact Kd.N_nil _ _ _ _ _|exact Kd.V_nil _ _ _ _ _|exact Kd.Q_nil _ _ _ _ _|exact Kd.S_nil _ _ _ _ _⟩,⟨by repeat (first|(with_reducible first|exact HB.out|apply Zb|apply Za|apply Zc)|exact HB.out)⟩⟩
 case round =>
  clear H'
  obtain ⟨x5_1,x10_1,rfl,HA,HK1,HO_5,HB⟩:=hrel
  cases gk with
  | zero => exact absurd HA.out (by simp [Zv.l0])
  | succ k1 =>
   have H:=HA.out
   clear HA
   simp only [Zv.l0] at H
   by_cases c2 : x10_1 < (l0.length : Int)
   ·rw [if_pos c2] at H
    have c2b0 : decide (x10_1 < (l0.length : Int))=true:=decide_eq_true c2
    clear c2
    by_cases c3 : 0≤x10_1
    ·rw [if_pos c3] at H
     have c3b0 : decide (0≤x10_1)=true:=decide_eq_true c3
     clear c3
     by_cases c4 : x10_1 < (l0.length : Int)
     ·rw [if_pos c4] at H
      have c4b0 : decide (x10_1 < (l0.length : Int))=true:=decide_eq_true c4
      clear c4
      replace H:=Option.bind_eq_some_iff.mp H
      obtain ⟨t103,A50,H⟩:=H
      replace H : (if t103=true then (if (rd l0 x10_1) < 65536 then (if x5_1.length < 70368744177664 then (Zv.l0 k1 (x5_1++[IntKind.u16.wrap (rd l0 x10_1)]) l0 (l0.length : Int) (wrap64 (x10_1 + 1))) else (none)) else ((some (([IntKind.u16.wrap (wrap32 (55296 + ((wrap32 ((rd l0 x10_1) - 65536)) / 1024))),IntKind.u16.wrap (wrap32 (56320 + (Go.bits .and .i32 (wrap32 ((rd l0 x10_1) - 65536)) 1023)))] : List Int) : List Int)).bind fun y107 => (if x5_1.length + y107.length < 70368744177664 then (Zv.l0 k1 (x5_1++y107) l0 (l0.length : Int) (wrap64 (x10_1 + 1))) else (none)))) else (some (([] : List Int),x10_1,20)))=some (r1,r2,r3):=H
      have A5:=Zd.mk A50
      clear A50
      by_cases c6 : t103=true
      ·subst c6
       have H1 : (if (rd l0 x10_1) < 65536 then (if x5_1.length < 70368744177664 then (Zv.l0 k1 (x5_1++[IntKind.u16.wrap (rd l0 x10_1)]) l0 (l0.length : Int) (wrap64 (x10_1 + 1))) else (none)) else ((some (([IntKind.u16.wrap (wrap32 (55296 + ((wrap32 ((rd l0 x10_1) - 65536)) / 1024))),IntKind.u16.wrap (wrap32 (56320 + (Go.bits .and .i32 (wrap32 ((rd l0 x10_1) - 65536)) 1023)))] : List Int) : List Int)).bind fun y107 => (if x5_1.length + y107.length < 70368744177664 then (Zv.l0 k1 (x5_1++y107) l0 (l0.length : Int) (wrap64 (x10_1 + 1))) else (none))))=some (r1,r2,r3):=by rw [if_pos rfl] at H;exact H
       clear H
       have H:=H1
       clear H1
       by_cases c7 : (rd l0 x10_1) < 65536
       ·rw [if_pos c7] at H
        have c7b0 : decide ((rd l0 x10_1) < 65536)=true:=decide_eq_true c7
        clear c7
        by_cases c8 : x5_1.length < 70368744177664
        ·rw [if_pos c8] at H
         have LMc8:=Zd.mk c8
         clear c8
         obtain ⟨y104,hy104⟩ : ∃ y_ : List Int,y_=(x5_1++[IntKind.u16.wrap (rd l0 x10_1)]):=⟨_,rfl⟩
         replace H : (Zv.l0 k1 y104 l0 (l0.length : Int) (wrap64 (x10_1 + 1)))=some (r1,r2,r3):=by first|(rw [hy104];with_reducible exact H)|(have H2_:=(Option.bind_some _ _).symm.trans H;rw [hy104];with_reducible exact H2_)|(have H2_:=(Option.bind_some _ _).symm.trans H;with_reducible exact H2_)|with_reducible exact H|(rw [hy104];exact H)|exact H
         have Ny104:=Zd.mk hy104
         clear hy104
         have H':=Zd.mk H
         clear H
         have p102 : 0≤(x10_1 : Int):=of_decide_eq_true (by first|(with_reducible assumption)|assumption)
         have q102 : x10_1 < (l0.length : Int):=of_decide_eq_true (by first|(with_reducible assumption)|assumption)
         obtain ⟨ad102,e102,hx102_0⟩:=Kd.at_int HR0.out x10_1 p102 q102
         cases e102
         replace hx102_0:=(HB.out.cell (World.block_lt_of_cell? w _ hx102_0)).trans hx102_0
         replace p102:=eq_true p102
         replace q102:=eq_true q102
         go_wp2_with (first|((with_reducible refine gate_callee (f:=103) rfl ?_);refine goesL_ (some 30) rfl rfl Tryd.func103 (by kernel_rfl) rfl #[.int .i32 (rd l0 x10_1)] rfl (by (try simp only [List.map_toArray,List.map_cons,List.map_nil]);first|done|rfl|(simp only [List.length_drop,List.length_take];rfl)) ?_;(with_reducible refine (scalar_Scalar.calls k1 (rd l0 x10_1) true _ A5.out).mono ?_);rintro e w' ⟨rfl,⟨nd,rfl⟩⟩;refine ⟨_,rfl,?_⟩)|((with_reducible refine gate_builtin (b:=.append) (xs:=#[.tmp 36,.tmp 39]) rfl ?_);at_builtin;refine Kd.R_append (Kd.int .u16) (w0:=w) w.heap.size rfl (.tmp 36) (.tmp 39) 92 93 (.int .u16 0) 2 rfl Tryd.underlying92 info93 rfl (by decide) (by omega) u5 x5_1 (IntKind.u16.wrap (rd l0 x10_1)) [.int .u16 (IntKind.u16.wrap (rd l0 x10_1))] (fun _ => True) (fun _ => False) rfl rfl ?aP (fun _ hk => hk.elim) ?aF ?aO ?aB ?aS ?aL ?_;(case aP => exact rfl);(case aB => exact (by repeat (first|(with_reducible first|exact HB.out|apply Zb|apply Za|apply Zc)|exact HB.out)));(case aF => exact (fun _ _ => trivial));(case aO => exact (by (with_reducible repeat (first|apply Kd.Zm|apply Kd.Zl|apply Kd.Zt));exact HO_5.out));(case aS => exact (Zw (by repeat (first|(with_reducible first|exact HB.out|apply Zb|apply Za|apply Zc)|exact HB.out))));(case aL => have:=LMc8.out;omega);intro v105 w9 ho hb hg hat;rw [← Ny104.out] at ho;have n0_:=Zd.mk (hb);have n1_:=Zd.mk (ho);clear HB;clear HO_5;have HB:=n0_;have HO106:=n1_;clear n0_ n1_;clear ho hb hg hat))
         go_roundg k1
         case measure => have:=HK1.out;omega
         case rel => exact ⟨(y104),(wrap64 (x10_1 + 1)),(by first|rfl|(simp;done)|(simp [*];done)),H',⟨by have:=HK1.out;omega⟩,⟨by (with_reducible repeat (first|apply Kd.Zm|apply Kd.Zl|apply Kd.Zt));exact HO106.out⟩,⟨by repeat (first|(with_reducible first|exact HB.out|apply Zb|apply Za|apply Zc)|exact HB.out)⟩⟩
        ·rw [if_neg c8] at H
         exact absurd H (by simp)
       ·rw [if_neg c7] at H
        have c7b0 : decide ((rd l0 x10_1) < 65536)=false:=decide_eq_false c7
        clear c7
        obtain ⟨y107,hy107⟩ : ∃ y_ : List Int,y_=(([IntKind.u16.wrap (wrap32 (55296 + ((wrap32 ((rd l0 x10_1) - 65536)) / 1024))),IntKind.u16.wrap (wrap32 (56320 + (Go.bits .and .i32 (wrap32 ((rd l0 x10_1) - 65536)) 1023)))] : List Int)):=⟨_,rfl⟩
        replace H : (if x5_1.length + y107.length < 70368744177664 then (Zv.l0 k1 (x5_1++y107) l0 (l0.length : Int) (wrap64 (x10_1 + 1))) else (none))=some (r1,r2,r3):=by first|(rw [hy107];with_reducible exact H)|(have H2_:=(Option.bind_some _ _).symm.trans H;rw [hy107];with_reducible exact H2_)|(have H2_:=(Option.bind_some _ _).symm.trans H;with_reducible exact H2_)|with_reducible exact H|(rw [hy107];exact H)|exact H
        have Ny107:=Zd.mk hy107
        clear hy107
        by_cases c10 : x5_1.length + y107.length < 70368744177664
        ·rw [if_pos c10] at H
         have LMc10:=Zd.mk c10
         clear c10
         obtain ⟨y110,hy110⟩ : ∃ y_ : List Int,y_=(x5_1++y107):=⟨_,rfl⟩
         replace H : (Zv.l0 k1 y110 l0 (l0.length : Int) (wrap64 (x10_1 + 1)))=some (r1,r2,r3):=by first|(rw [hy110];with_reducible exact H)|(have H2_:=(Option.bind_some _ _).symm.trans H;rw [hy110];with_reducible exact H2_)|(have H2_:=(Option.bind_some _ _).symm.trans H;with_reducible exact H2_)|with_reducible exact H|(rw [hy110];exact H)|exact H
         have Ny110:=Zd.mk hy110
         clear hy110
         have H':=Zd.mk H
         clear H
         have p102 : 0≤(x10_1 : Int):=of_decide_eq_true (by first|(with_reducible assumption)|assumption)
         have q102 : x10_1 < (l0.length : Int):=of_decide_eq_true (by first|(with_reducible assumption)|assumption)
         obtain ⟨ad102,e102,hx102_0⟩:=Kd.at_int HR0.out x10_1 p102 q102
         cases e102
         replace hx102_0:=(HB.out.cell (World.block_lt_of_cell? w _ hx102_0)).trans hx102_0
         replace p102:=eq_true p102
         replace q102:=eq_true q102
         go_wp2_with (first|((with_reducible refine gate_callee (f:=103) rfl ?_);refine goesL_ (some 30) rfl rfl Tryd.func103 (by kernel_rfl) rfl #[.int .i32 (rd l0 x10_1)] rfl (by (try simp only [List.map_toArray,List.map_cons,List.map_nil]);first|done|rfl|(simp only [List.length_drop,List.length_take];rfl)) ?_;(with_reducible refine (scalar_Scalar.calls k1 (rd l0 x10_1) true _ A5.out).mono ?_);rintro e w' ⟨rfl,⟨nd,rfl⟩⟩;refine ⟨_,rfl,?_⟩)|((with_reducible refine gate_dst (N:=26) rfl ?_);refine Kd.R_lit (Kd.int .u16) _ 93 ?hg (N:=26) ?hd (xs:=([IntKind.u16.wrap (wrap32 (55296 + ((wrap32 ((rd l0 x10_1) - 65536)) / 1024))),IntKind.u16.wrap (wrap32 (56320 + (Go.bits .and .i32 (wrap32 ((rd l0 x10_1) - 65536)) 1023)))] : List Int)) (inner:=[.int .u16 (IntKind.u16.wrap (wrap32 (55296 + ((wrap32 ((rd l0 x10_1) - 65536)) / 1024)))),.int .u16 (IntKind.u16.wrap (wrap32 (56320 + (Go.bits .and .i32 (wrap32 ((rd l0 x10_1) - 65536)) 1023))))]) (ok:=fun _ => True) (okp:=fun _ => True) ?hr ?hp (fun _ hk => hk) trivial (Below.refl _ _) (Nat.le_refl _) (by simp) ?_;(case hd => rfl);(case hg => rfl);(case hr => first|(go_simp;done)|(go_simp;rfl));(case hp => exact (Reps.one (show Kd.M (Kd.int .u16) _ _ _ (IntKind.u16.wrap (wrap32 (55296 + ((wrap32 ((rd l0 x10_1) - 65536)) / 1024)))) [.int .u16 (IntKind.u16.wrap (wrap32 (55296 + ((wrap32 ((rd l0 x10_1) - 65536)) / 1024))))] from rfl) (Reps.one (show Kd.M (Kd.int .u16) _ _ _ (IntKind.u16.wrap (wrap32 (56320 + (Go.bits .and .i32 (wrap32 ((rd l0 x10_1) - 65536)) 1023)))) [.int .u16 (IntKind.u16.wrap (wrap32 (56320 + (Go.bits .and .i32 (wrap32 ((rd l0 x10_1) - 65536)) 1023))))] from rfl) (Reps.none _ _))));intro v108 w11 ho12 hb hg_ hnew_;clear hg_ hnew_;(first|rw [← Ny107.out] at ho12|(simp only [Int.reduceToNat] at ho12;rw [← Ny107.out] at ho12));have n0_:=Zd.mk (Kd.R_elder' (by (with_reducible repeat (first|apply Kd.Zm|apply Kd.Zl|apply Kd.Zt));exact HO_5.out) (Kd.R_base ho12) hb);have n1_:=Zd.mk (Kd.R_lower (Kd.R_new' ho12 (Kd.R_lt (by (with_reducible repeat (first|apply Kd.Zm|apply Kd.Zl|apply Kd.Zt));exact HO_5.out))) (Zw (by repeat (first|(with_reducible first|exact HB.out|apply Zb|apply Za|apply Zc)|exact HB.out))));have n2_:=Zd.mk (below_step (by repeat (first|(with_reducible first|exact HB.out|apply Zb|apply Za|apply Zc)|exact HB.out)) hb);clear HO_5;clear HB;have HO_5:=n0_;have HO109:=n1_;have HB:=n2_;clear n0_ n1_ n2_;clear hb ho12;obtain ⟨Ao14,co14,eo14⟩:=Kd.R_slice HO109.out;subst eo14)|((with_reducible refine gate_builtin (b:=.append) (xs:=#[.tmp 15,.tmp 26]) rfl ?_);at_builtin;refine Kd.R_append_rows (Kd.int .u16) (w0:=w) w.heap.size rfl (.tmp 15) (.tmp 26) 92 93 (.int .u16 0) 2 rfl Tryd.underlying92 info93 rfl (by decide) (by omega) u5 x5_1 y107 _ _ _ (fun k_ => some k_ ≠ (.slice Ao14 y107.length co14 : Value).ownBlock) (fun _ => False) rfl rfl ?aO ?aR (fun _ _ h => h) (fun _ h => h.elim) ?aF ?aB ?aS ?aL ?_;(case aR => repeat (first|exact (Kd.R_reads' HO109.out).2.2|(with_reducible refine Kd.C_alloc ?_ _)|(with_reducible refine Kd.C_drewN ?_ _)|(with_reducible refine Kd.C_drew ?_)));(case aB => exact (by repeat (first|(with_reducible first|exact HB.out|apply Zb|apply Za|apply Zc)|exact HB.out)));(case aF => exact (fun k_ hk => Kd.fresh' (Kd.R_lt (by (with_reducible repeat (first|apply Kd.Zm|apply Kd.Zl|apply Kd.Zt));exact HO109.out)) k_ hk));(case aO => exact (by (with_reducible repeat (first|apply Kd.Zm|apply Kd.Zl|apply Kd.Zt));exact Kd.R_mono HO_5.out (fun _ hk => hk.2)));(case aS => exact (Zw (by repeat (first|(with_reducible first|exact HB.out|apply Zb|apply Za|apply Zc)|exact HB.out))));(case aL => have:=LMc10.out;omega);intro v111 w13 ho hb hg hat;rw [← Ny110.out] at ho;have n0_:=Zd.mk (Kd.R_after (ok:=(fun _ => True)) (by (with_reducible repeat (first|apply Kd.Zm|apply Kd.Zl|apply Kd.Zt));exact HO109.out) hg hat);have n1_:=Zd.mk (hb);have n2_:=Zd.mk (ho);clear HO109;clear HB;clear HO_5;have HO109:=n0_;have HB:=n1_;have HO112:=n2_;clear n0_ n1_ n2_;clear ho hb hg hat))
         go_roundg k1
         case measure => have:=HK1.out;omega
         case rel => exact ⟨(y110),(wrap64 (x10_1 + 1)),(by first|rfl|(simp;done)|(simp [*];done)),H',⟨by have:=HK1.out;omega⟩,⟨by (with_reducible repeat (first|apply Kd.Zm|apply Kd.Zl|apply Kd.Zt));exact Kd.R_mono HO112.out (fun _ hk => trivial)⟩,⟨by repeat (first|(with_reducible first|exact HB.out|apply Zb|apply Za|apply Zc)|exact HB.out)⟩⟩
        ·rw [if_neg c10] at H
         exact absurd H (by simp)
      ·replace c6:=Bool.eq_false_iff.mpr c6
       subst c6
       have H1 : (some (([] : List Int),x10_1,20))=some (r1,r2,r3):=by rw [if_neg (show ¬ (false=true) by decide)] at H;exact H
       clear H
       have H:=H1
       clear H1
       simp only [Option.some.injEq,Prod.mk.injEq] at H
       obtain ⟨rfl,rfl,rfl⟩:=H
       have p102 : 0≤(x10_1 : Int):=of_decide_eq_true (by first|(with_reducible assumption)|assumption)
       have q102 : x10_1 < (l0.length : Int):=of_decide_eq_true (by first|(with_reducible assumption)|assumption)
       obtain ⟨ad102,e102,hx102_0⟩:=Kd.at_int HR0.out x10_1 p102 q102
       cases e102
       replace hx102_0:=(HB.out.cell (World.block_lt_of_cell? w _ hx102_0)).trans hx102_0
       replace p102:=eq_true p102
       replace q102:=eq_true q102
       go_wp2_with (first|((with_reducible refine gate_callee (f:=103) rfl ?_);refine goesL_ (some 30) rfl rfl Tryd.func103 (by kernel_rfl) rfl #[.int .i32 (rd l0 x10_1)] rfl (by (try simp only [List.map_toArray,List.map_cons,List.map_nil]);first|done|rfl|(simp only [List.length_drop,List.length_take];rfl)) ?_;(with_reducible refine (scalar_Scalar.calls k1 (rd l0 x10_1) false _ A5.out).mono ?_);rintro e w' ⟨rfl,⟨nd,rfl⟩⟩;refine ⟨_,rfl,?_⟩))
       go_ret3
       exact ⟨_,by first|rfl|(simp [errW_none,errW_some] <;> rfl)|(simp [*,errW_none,errW_some] <;> rfl),by first|exact Kd.R_nil _ _ _ _ _|exact Kd.N_nil _ _ _ _ _|exact Kd.V_nil _ _ _ _ _|exact Kd.Q_nil _ _ _ _ _|exact Kd.S_nil _ _ _ _ _,by repeat (first|(with_reducible first|exact HB.out|apply Zb|apply Za|apply Zc)|exact HB.out)⟩
     ·rw [if_neg c4] at H
      exact absurd H (by simp)
    ·rw [if_neg c3] at H
     exact absurd H (by simp)
   ·rw [if_neg c2] at H
    have c2b0 : decide (x10_1 < (l0.length : Int))=false:=decide_eq_false c2
    clear c2
    simp only [Option.some.injEq,Prod.mk.injEq] at H
    obtain ⟨rfl,rfl,rfl⟩:=H
    go_wp2
    go_ret3
    exact ⟨_,by first|rfl|(simp [errW_none,errW_some] <;> rfl)|(simp [*,errW_none,errW_some] <;> rfl),by (with_reducible repeat (first|apply Kd.Zm|apply Kd.Zl|apply Kd.Zt));exact HO_5.out,by repeat (first|(with_reducible first|exact HB.out|apply Zb|apply Za|apply Zc)|exact HB.out)⟩
end Go.Proofs.YtfbgmlophkbejaaDoorQ.Pas
end
section
namespace Go.Proofs.YtfbgmlophkbejaaDoorQ.Pas
open Go.RowKit Go.Proofs.YtfbgmlophkbejaaDoorW.PrintWords Go.Proofs.YtfbgmlophkbejaaDoorW.PrintLast Go.Proofs.YtfbgmlophkbejaaDoorW.PrintMore
attribute [local go_sem] max2_int min2_int max_two min_two max_three min_three max_four min_four   -- for this text's walks alone
set_option linter.unusedVariables false
set_option linter.unusedSimpArgs false
/-! ### scalar_Decode: function 83,by a contract of this repo -/
section
open Go.Proofs.YtfbgmlophkbejaaDoor
def scalar_Decode.f (a0 : ByteArray) : Option (List Int):=if a0.size * 24 + 24≤140737488351232 then some (decT a0) else none
theorem scalar_Decode.calls (a0 : ByteArray) (r : List Int) (w : World) (h : scalar_Decode.f a0=some r) (T_ : TabM w) :
  Calls Tryd.prog 83 #[.string a0] w fun e w' => ∃ v0_ : Value,e=.returned (v0_)∧Kd.R (Kd.int .i32) 21 w' w.heap.size (fun _ => True) v0_ r∧Below w.heap.size w w':=by
 have T_ : Tabs w:=T_.1
 unfold scalar_Decode.f at h
 split at h
 ·rename_i hs
  obtain rfl:=Option.some.inj h
  exact (Decode_any a0 w hs T_).mono fun e w' hp => R_of_rpost hp
 ·cases h
end
/-! ### percent_units: function 58 -/
def percent_units.f (k : Nat) (a0 : ByteArray) : Option (List Int):=(scalar_Decode.f a0).bind fun t113 => ((Zv.f k t113).bind fun bt116 => (some bt116.1))
set_option maxHeartbeats 8000000 in
set_option maxRecDepth 100000 in
theorem percent_units.calls (k : Nat) (a0 : ByteArray) (r : List Int) (w : World) (h : percent_units.f k a0=some r) (T_ : Go.Proofs.YtfbgmlophkbejaaDoor.TabM w) :
  Calls Tryd.prog 58 #[.string a0] w fun e w' => ∃ v0_ : Value,e=.returned (v0_)∧Kd.R (Kd.int .u16) 93 w' w.heap.size (fun _ => True) v0_ r∧Below w.heap.size w w':=by
 have HB:=Zd.mk (Below.refl w.heap.size w)
 have H : ((scalar_Decode.f a0).bind fun t113 => ((Zv.f k t113).bind fun bt116 => (some bt116.1)))=some r:=h
 clear h
 replace H:=Option.bind_eq_some_iff.mp H
 obtain ⟨t113,A20,H⟩:=H
 replace H : ((Zv.f k t113).bind fun bt116 => (some bt116.1))=some r:=H
 have A2:=Zd.mk A20
 clear A20
 replace H:=Option.bind_eq_some_iff.mp H
 obtain ⟨⟨t116,t117,t118⟩,A30,H⟩:=H
 replace H : (some t116)=some r:=H
 have A3:=Zd.mk A30
 clear A30
 obtain rfl:=Option.some.inj H
 go_enter Tryd.func58,Tryd.ntmps58
 go_wp2_with (first|((with_reducible refine gate_callee (f:=83) rfl ?_);refine goesL_ (some 8) rfl rfl Tryd.func83 (by kernel_rfl) rfl #[.string a0] rfl (by (try simp only [List.map_toArray,List.map_cons,List.map_nil]);first|done|rfl|(simp only [List.length_drop,List.length_take];rfl)) ?_;(with_reducible refine (scalar_Decode.calls a0 t113 _ A2.out (by first|exact T_|exact (Go.Proofs.YtfbgmlophkbejaaDoor.TabM_below T_ (by repeat (first|(with_reducible first|exact HB.out|apply Zb|apply Za|apply Zc)|exact HB.out))))).mono ?_);rintro e w4 ⟨v114,rfl,ho0,hb⟩;refine ⟨_,rfl,?_⟩;have n0_:=Zd.mk (Kd.R_lower ho0 (Zw (by repeat (first|(with_reducible first|exact HB.out|apply Zb|apply Za|apply Zc)|exact HB.out))));have n1_:=Zd.mk (below_step (by repeat (first|(with_reducible first|exact HB.out|apply Zb|apply Za|apply Zc)|exact HB.out)) hb);clear HB;have HO115:=n0_;have HB:=n1_;clear n0_ n1_;(try clear hb);(try clear hb2);(try clear hk);(try clear hi);(try clear ho0);obtain ⟨Ao5,co5,eo5⟩:=Kd.R_slice HO115.out;subst eo5)|((with_reducible refine gate_callee (f:=82) rfl ?_);refine goesL_ (some 9) rfl rfl Tryd.func82 (by kernel_rfl) rfl #[.slice Ao5 t113.length co5] rfl (by (try simp only [List.map_toArray,List.map_cons,List.map_nil]);first|done|rfl|(simp only [List.length_drop,List.length_take];rfl)) ?_;(with_reducible refine (Zv.calls k _ _ t113 t116 t117 t118 _ ?side1 ?side2 A3.out).mono ?_);(case side1 => repeat (first|exact (Kd.R_reads' HO115.out).2.2|(with_reducible refine Kd.C_alloc ?_ _)|(with_reducible refine Kd.C_drewN ?_ _)|(with_reducible refine Kd.C_drew ?_)));(case side2 => exact (Kd.R_reads' HO115.out).2.1);rintro e w6 ⟨v119,rfl,ho0,hb⟩;refine ⟨_,rfl,?_⟩;have n0_:=Zd.mk (Kd.R_below (by (with_reducible repeat (first|apply Kd.Zm|apply Kd.Zl|apply Kd.Zt));exact HO115.out) hb);have n1_:=Zd.mk (Kd.R_lower ho0 (Zw (by repeat (first|(with_reducible first|exact HB.out|apply Zb|apply Za|apply Zc)|exact HB.out))));have n2_:=Zd.mk (below_step (by repeat (first|(with_reducible first|exact HB.out|apply Zb|apply Za|apply Zc)|exact HB.out)) hb);clear HO115;clear HB;have HO115:=n0_;have HO120:=n1_;have HB:=n2_;clear n0_ n1_ n2_;(try clear hb);(try clear hb2);(try clear hk);(try clear hi);(try clear ho0)))
 go_ret
 exact ⟨_,by first|rfl|(simp [errW_none,errW_some] <;> rfl)|(simp [*,errW_none,errW_some] <;> rfl),by (with_reducible repeat (first|apply Kd.Zm|apply Kd.Zl|apply Kd.Zt));exact HO120.out,by repeat (first|(with_reducible first|exact HB.out|apply Zb|apply Za|apply Zc)|exact HB.out)⟩
end Go.Proofs.YtfbgmlophkbejaaDoorQ.Pas
end
section
namespace Go.Proofs.YtfbgmlophkbejaaDoorQ.Pas
open Go.RowKit Go.Proofs.YtfbgmlophkbejaaDoorW.PrintWords Go.Proofs.YtfbgmlophkbejaaDoorW.PrintLast Go.Proofs.YtfbgmlophkbejaaDoorW.PrintMore
attribute [local go_sem] max2_int min2_int max_two min_two max_three min_three max_four min_four   -- for this text's walks alone
set_option linter.unusedVariables false
set_option linter.unusedSimpArgs false
/-! ### Zo: function 102 -/
def Zo.f (a0 : Int) : Option (Bool):=some (a0 != a0)
set_option maxHeartbeats 8000000 in
set_option maxRecDepth 100000 in
theorem Zo.calls (a0 : Int) (r : Bool) (w : World) (h : Zo.f a0=some r) :
  Calls Tryd.prog 102 #[.int .u16 a0] w fun e w' => e=.returned (.bool r)∧Zp w w':=by
 have H : (some (a0 != a0))=some r:=h
 clear h
 obtain rfl:=Option.some.inj H
 go_enter Tryd.func102,Tryd.ntmps102
 go_wp2
 go_ret
 exact ⟨by first|rfl|(simp;done)|(simp [*];done),by repeat (first|exact Zp.refl _|apply Zp.step)⟩
end Go.Proofs.YtfbgmlophkbejaaDoorQ.Pas
end
section
namespace Go.Proofs.YtfbgmlophkbejaaDoorQ.Pas
open Go.RowKit Go.Proofs.YtfbgmlophkbejaaDoorW.PrintWords Go.Proofs.YtfbgmlophkbejaaDoorW.PrintLast Go.Proofs.YtfbgmlophkbejaaDoorW.PrintMore
attribute [local go_sem] max2_int min2_int max_two min_two max_three min_three max_four min_four   -- for this text's walks alone
set_option linter.unusedVariables false
set_option linter.unusedSimpArgs false
/-! ### cmp_Compare_uint16: function 81 -/
def cmp_Compare_uint16.f (a0 : Int) (a1 : Int) : Option (Int):=(Zo.f a0).bind fun t121 => ((Zo.f a1).bind fun t122 => (if t121=true then (if t122=true then (some 0) else (some (-1))) else (if t122=true then (some 1) else (if a0 < a1 then (some (-1)) else (if a0 > a1 then (some 1) else (some 0))))))
set_option maxHeartbeats 8000000 in
set_option maxRecDepth 100000 in
theorem cmp_Compare_uint16.calls (a0 : Int) (a1 : Int) (r : Int) (w : World) (h : cmp_Compare_uint16.f a0 a1=some r) :
  Calls Tryd.prog 81 #[.int .u16 a0,.int .u16 a1] w fun e w' => e=.returned (.int .i64 r)∧Zp w w':=by
 have H : ((Zo.f a0).bind fun t121 => ((Zo.f a1).bind fun t122 => (if t121=true then (if t122=true then (some 0) else (some (-1))) else (if t122=true then (some 1) else (if a0 < a1 then (some (-1)) else (if a0 > a1 then (some 1) else (some 0)))))))=some r:=h
 clear h
 replace H:=Option.bind_eq_some_iff.mp H
 obtain ⟨t121,A30,H⟩:=H
 replace H : ((Zo.f a1).bind fun t122 => (if t121=true then (if t122=true then (some 0) else (some (-1))) else (if t122=true then (some 1) else (if a0 < a1 then (some (-1)) else (if a0 > a1 then (some 1) else (some 0))))))=some r:=H
 have A3:=Zd.mk A30
 clear A30
 replace H:=Option.bind_eq_some_iff.mp H
 obtain ⟨t122,A40,H⟩:=H
 replace H : (if t121=true then (if t122=true then (some 0) else (some (-1))) else (if t122=true then (some 1) else (if a0 < a1 then (some (-1)) else (if a0 > a1 then (some 1) else (some 0)))))=some r:=H
 have A4:=Zd.mk A40
 clear A40
 by_cases c5 : t121=true
 ·subst c5
  have H1 : (if t122=true then (some 0) else (some (-1)))=some r:=by rw [if_pos rfl] at H;exact H
  clear H
  have H:=H1
  clear H1
  by_cases c6 : t122=true
  ·subst c6
   have H1 : (some 0)=some r:=by rw [if_pos rfl] at H;exact H
   clear H
   have H:=H1
   clear H1
   obtain rfl:=Option.some.inj H
   go_enter Tryd.func81,Tryd.ntmps81
   go_wp2_with (first|((with_reducible refine gate_callee (f:=102) rfl ?_);refine goesL_ (some 8) rfl rfl Tryd.func102 (by kernel_rfl) rfl #[.int .u16 a0] rfl (by (try simp only [List.map_toArray,List.map_cons,List.map_nil]);first|done|rfl|(simp only [List.length_drop,List.length_take];rfl)) ?_;(with_reducible refine (Zo.calls a0 true _ A3.out).mono ?_);rintro e w' ⟨rfl,⟨nd,rfl⟩⟩;refine ⟨_,rfl,?_⟩)|((with_reducible refine gate_callee (f:=102) rfl ?_);refine goesL_ (some 10) rfl rfl Tryd.func102 (by kernel_rfl) rfl #[.int .u16 a1] rfl (by (try simp only [List.map_toArray,List.map_cons,List.map_nil]);first|done|rfl|(simp only [List.length_drop,List.length_take];rfl)) ?_;(with_reducible refine (Zo.calls a1 true _ A4.out).mono ?_);rintro e w' ⟨rfl,⟨nd,rfl⟩⟩;refine ⟨_,rfl,?_⟩))
   go_ret
   exact ⟨by first|rfl|(simp;done)|(simp [*];done),by repeat (first|exact Zp.refl _|apply Zp.step)⟩
  ·replace c6:=Bool.eq_false_iff.mpr c6
   subst c6
   have H1 : (some (-1))=some r:=by rw [if_neg (show ¬ (false=true) by decide)] at H;exact H
   clear H
   have H:=H1
   clear H1
   obtain rfl:=Option.some.inj H
   go_enter Tryd.func81,Tryd.ntmps81
   go_wp2_with (first|((with_reducible refine gate_callee (f:=102) rfl ?_);refine goesL_ (some 8) rfl rfl Tryd.func102 (by kernel_rfl) rfl #[.int .u16 a0] rfl (by (try simp only [List.map_toArray,List.map_cons,List.map_nil]);first|done|rfl|(simp only [List.length_drop,List.length_take];rfl)) ?_;(with_reducible refine (Zo.calls a0 true _ A3.out).mono ?_);rintro e w' ⟨rfl,⟨nd,rfl⟩⟩;refine ⟨_,rfl,?_⟩)|((with_reducible refine gate_callee (f:=102) rfl ?_);refine goesL_ (some 10) rfl rfl Tryd.func102 (by kernel_rfl) rfl #[.int .u16 a1] rfl (by (try simp only [List.map_toArray,List.map_cons,List.map_nil]);first|done|rfl|(simp only [List.length_drop,List.length_take];rfl)) ?_;(with_reducible refine (Zo.calls a1 false _ A4.out).mono ?_);rintro e w' ⟨rfl,⟨nd,rfl⟩⟩;refine ⟨_,rfl,?_⟩))
   go_ret
   exact ⟨by first|rfl|(simp;done)|(simp [*];done),by repeat (first|exact Zp.refl _|apply Zp.step)⟩
 ·replace c5:=Bool.eq_false_iff.mpr c5
  subst c5
  have H1 : (if t122=true then (some 1) else (if a0 < a1 then (some (-1)) else (if a0 > a1 then (some 1) else (some 0))))=some r:=by rw [if_neg (show ¬ (false=true) by decide)] at H;exact H
  clear H
  have H:=H1
  clear H1
  by_cases c7 : t122=true
  ·subst c7
   have H1 : (some 1)=some r:=by rw [if_pos rfl] at H;exact H
   clear H
   have H:=H1
   clear H1
   obtain rfl:=Option.some.inj H
   go_enter Tryd.func81,Tryd.ntmps81
   go_wp2_with (first|((with_reducible refine gate_callee (f:=102) rfl ?_);refine goesL_ (some 8) rfl rfl Tryd.func102 (by kernel_rfl) rfl #[.int .u16 a0] rfl (by (try simp only [List.map_toArray,List.map_cons,List.map_nil]);first|done|rfl|(simp only [List.length_drop,List.length_take];rfl)) ?_;(with_reducible refine (Zo.calls a0 false _ A3.out).mono ?_);rintro e w' ⟨rfl,⟨nd,rfl⟩⟩;refine ⟨_,rfl,?_⟩)|((with_reducible refine gate_callee (f:=102) rfl ?_);refine goesL_ (some 10) rfl rfl Tryd.func102 (by kernel_rfl) rfl #[.int .u16 a1] rfl (by (try simp only [List.map_toArray,List.map_cons,List.map_nil]);first|done|rfl|(simp only [List.length_drop,List.length_take];rfl)) ?_;(with_reducible refine (Zo.calls a1 true _ A4.out).mono ?_);rintro e w' ⟨rfl,⟨nd,rfl⟩⟩;refine ⟨_,rfl,?_⟩))
   go_ret
   exact ⟨by first|rfl|(simp;done)|(simp [*];done),by repeat (first|exact Zp.refl _|apply Zp.step)⟩
  ·replace c7:=Bool.eq_false_iff.mpr c7
   subst c7
   have H1 : (if a0 < a1 then (some (-1)) else (if a0 > a1 then (some 1) else (some 0)))=some r:=by rw [if_neg (show ¬ (false=true) by decide)] at H;exact H
   clear H
   have H:=H1
   clear H1
   by_cases c8 : a0 < a1
   ·rw [if_pos c8] at H
    have c8b0 : decide (a0 < a1)=true:=decide_eq_true c8
    clear c8
    obtain rfl:=Option.some.inj H
    go_enter Tryd.func81,Tryd.ntmps81
    go_wp2_with (first|((with_reducible refine gate_callee (f:=102) rfl ?_);refine goesL_ (some 8) rfl rfl Tryd.func102 (by kernel_rfl) rfl #[.int .u16 a0] rfl (by (try simp only [List.map_toArray,List.map_cons,List.map_nil]);first|done|rfl|(simp only [List.length_drop,List.length_take];rfl)) ?_;(with_reducible refine (Zo.calls a0 false _ A3.out).mono ?_);rintro e w' ⟨rfl,⟨nd,rfl⟩⟩;refine ⟨_,rfl,?_⟩)|((with_reducible refine gate_callee (f:=102) rfl ?_);refine goesL_ (some 10) rfl rfl Tryd.func102 (by kernel_rfl) rfl #[.int .u16 a1] rfl (by (try simp only [List.map_toArray,List.map_cons,List.map_nil]);first|done|rfl|(simp only [List.length_drop,List.length_take];rfl)) ?_;(with_reducible refine (Zo.calls a1 false _ A4.out).mono ?_);rintro e w' ⟨rfl,⟨nd,rfl⟩⟩;refine ⟨_,rfl,?_⟩))
    go_ret
    exact ⟨by first|rfl|(simp;done)|(simp [*];done),by repeat (first|exact Zp.refl _|apply Zp.step)⟩
   ·rw [if_neg c8] at H
    have c8b0 : decide (a0 < a1)=false:=decide_eq_false c8
    clear c8
    by_cases c9 : a0 > a1
    ·rw [if_pos c9] at H
     have c9b0 : decide (a1 < a0)=true:=decide_eq_true c9
     clear c9
     obtain rfl:=Option.some.inj H
     go_enter Tryd.func81,Tryd.ntmps81
     go_wp2_with (first|((with_reducible refine gate_callee (f:=102) rfl ?_);refine goesL_ (some 8) rfl rfl Tryd.func102 (by kernel_rfl) rfl #[.int .u16 a0] rfl (by (try simp only [List.map_toArray,List.map_cons,List.map_nil]);first|done|rfl|(simp only [List.length_drop,List.length_take];rfl)) ?_;(with_reducible refine (Zo.calls a0 false _ A3.out).mono ?_);rintro e w' ⟨rfl,⟨nd,rfl⟩⟩;refine ⟨_,rfl,?_⟩)|((with_reducible refine gate_callee (f:=102) rfl ?_);refine goesL_ (some 10) rfl rfl Tryd.func102 (by kernel_rfl) rfl #[.int .u16 a1] rfl (by (try simp only [List.map_toArray,List.map_cons,List.map_nil]);first|done|rfl|(simp only [List.length_drop,List.length_take];rfl)) ?_;(with_reducible refine (Zo.calls a1 false _ A4.out).mono ?_);rintro e w' ⟨rfl,⟨nd,rfl⟩⟩;refine ⟨_,rfl,?_⟩))
     go_ret
     exact ⟨by first|rfl|(simp;done)|(simp [*];done),by repeat (first|exact Zp.refl _|apply Zp.step)⟩
    ·rw [if_neg c9] at H
     have c9b0 : decide (a1 < a0)=false:=decide_eq_false c9
     clear c9
     obtain rfl:=Option.some.inj H
     go_enter Tryd.func81,Tryd.ntmps81
     go_wp2_with (first|((with_reducible refine gate_callee (f:=102) rfl ?_);refine goesL_ (some 8) rfl rfl Tryd.func102 (by kernel_rfl) rfl #[.int .u16 a0] rfl (by (try simp only [List.map_toArray,List.map_cons,List.map_nil]);first|done|rfl|(simp only [List.length_drop,List.length_take];rfl)) ?_;(with_reducible refine (Zo.calls a0 false _ A3.out).mono ?_);rintro e w' ⟨rfl,⟨nd,rfl⟩⟩;refine ⟨_,rfl,?_⟩)|((with_reducible refine gate_callee (f:=102) rfl ?_);refine goesL_ (some 10) rfl rfl Tryd.func102 (by kernel_rfl) rfl #[.int .u16 a1] rfl (by (try simp only [List.map_toArray,List.map_cons,List.map_nil]);first|done|rfl|(simp only [List.length_drop,List.length_take];rfl)) ?_;(with_reducible refine (Zo.calls a1 false _ A4.out).mono ?_);rintro e w' ⟨rfl,⟨nd,rfl⟩⟩;refine ⟨_,rfl,?_⟩))
     go_ret
     exact ⟨by first|rfl|(simp;done)|(simp [*];done),by repeat (first|exact Zp.refl _|apply Zp.step)⟩
end Go.Proofs.YtfbgmlophkbejaaDoorQ.Pas
end
