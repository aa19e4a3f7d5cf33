/- What these functions of the program compute, and that they compute it: printed by wip/tools/orac.py over the kit's print.py; merged. -/
import Derived.Test.YtfbgmlophkbejaaDoorQPasx0
section
namespace Go.Proofs.YtfbgmlophkbejaaDoorQ.Pas
open Go.RowKit Go.Proofs.YtfbgmlophkbejaaDoorW.PrintWords Go.Proofs.YtfbgmlophkbejaaDoorW.PrintLast Go.Proofs.YtfbgmlophkbejaaDoorW.PrintMore
attribute [local go_sem] max2_int min2_int max_two min_two max_three min_three max_four min_four   -- for this text's walks alone
set_option linter.unusedVariables false
set_option linter.unusedSimpArgs false
/-! ### Zg: function 57 -/
def Zg.l0 : Nat→List Int→List Int→List Int→Int→Int→Option (Int)
 | 0,_,_,_,_,_ => none
 | k + 1,x0,x1,x9,x10,x11 => if x11 < x10 then (if 0≤x11 then (if x11 < (x9.length : Int) then (if x11 ≥ (x1.length : Int) then (some 1) else (if x11 < (x1.length : Int) then ((cmp_Compare_uint16.f (rd x9 x11) (rd x1 x11)).bind fun t125 => (if t125=0 then (Zg.l0 k x0 x1 x9 x10 (wrap64 (x11 + 1))) else (some t125))) else (none))) else (none)) else (none)) else (if (x0.length : Int) < (x1.length : Int) then (some (-1)) else (some 0))
def Zg.f (k : Nat) (l0 : List Int) (l1 : List Int) : Option (Int):=Zg.l0 k l0 l1 l0 (l0.length : Int) 0
set_option maxHeartbeats 8000000 in
set_option maxRecDepth 100000 in
theorem Zg.calls (k : Nat) (A0 : Option Addr) (c0 : Nat) (l0 : List Int) (A1 : Option Addr) (c1 : Nat) (l1 : List Int) (r : Int) (w : World) (hr0 : Kd.C (Kd.int .u16) w A0 l0.length l0) (hc0 : l0.length≤c0) (hr1 : Kd.C (Kd.int .u16) w A1 l1.length l1) (hc1 : l1.length≤c1) (h : Zg.f k l0 l1=some r) :
  Calls Tryd.prog 57 #[.slice A0 l0.length c0,.slice A1 l1.length c1] w fun e w' => e=.returned (.int .i64 r)∧Zp w w':=by
 have HR0:=Zd.mk hr0
 have HC0:=Zd.mk hc0
 clear hr0 hc0
 have HR1:=Zd.mk hr1
 have HC1:=Zd.mk hc1
 clear hr1 hc1
 have H : (Zg.l0 k l0 l1 l0 (l0.length : Int) 0)=some r:=h
 clear h
 have H':=Zd.mk H
 clear H
 go_enter Tryd.func57,Tryd.ntmps57
 go_wp2
 go_loopg [11] k (fun kq v11 w' => ∃ (x11_1 : Int),v11=.int .i64 x11_1∧Zd (Zg.l0 kq l0 l1 l0 (l0.length : Int) x11_1=some r)∧Zd (kq≤k)∧Zp w w')
 case atStart => exact ⟨(0),(by first|rfl|(simp;done)|(simp [*];done)),H',⟨Nat.le_refl _⟩,by repeat (first|exact Zp.refl _|apply Zp.step)⟩
 case round =>
  clear H'
  try clear c1
  try clear p2
  obtain ⟨x11_1,rfl,HA,HK1,⟨m1,rfl⟩⟩:=hrel
  cases gk with
  | zero => exact absurd HA.out (by simp [Zg.l0])
  | succ k1 =>
   have H:=HA.out
   clear HA
   simp only [Zg.l0] at H
   by_cases c3 : x11_1 < (l0.length : Int)
   ·rw [if_pos c3] at H
    have c3b0 : decide (x11_1 < (l0.length : Int))=true:=decide_eq_true c3
    clear c3
    by_cases c4 : 0≤x11_1
    ·rw [if_pos c4] at H
     have c4b0 : decide (0≤x11_1)=true:=decide_eq_true c4
     clear c4
     by_cases c5 : x11_1 < (l0.length : Int)
     ·rw [if_pos c5] at H
      have c5b0 : decide (x11_1 < (l0.length : Int))=true:=decide_eq_true c5
      clear c5
      by_cases c6 : x11_1 ≥ (l1.length : Int)
      ·rw [if_pos c6] at H
       have c6b0 : decide ((l1.length : Int)≤x11_1)=true:=decide_eq_true c6
       clear c6
       obtain rfl:=Option.some.inj H
       have p123 : 0≤(x11_1 : Int):=of_decide_eq_true (by first|(with_reducible assumption)|assumption)
       have q123 : x11_1 < (l0.length : Int):=of_decide_eq_true (by first|(with_reducible assumption)|assumption)
       obtain ⟨ad123,e123,hx123_0⟩:=Kd.at_int HR0.out x11_1 p123 q123
       cases e123
       replace p123:=eq_true p123
       replace q123:=eq_true q123
       go_wp2
       go_ret
       exact ⟨by first|rfl|(simp;done)|(simp [*];done),by repeat (first|exact Zp.refl _|apply Zp.step)⟩
      ·rw [if_neg c6] at H
       have c6b0 : decide ((l1.length : Int)≤x11_1)=false:=decide_eq_false c6
       clear c6
       by_cases c7 : x11_1 < (l1.length : Int)
       ·rw [if_pos c7] at H
        have c7b0 : decide (x11_1 < (l1.length : Int))=true:=decide_eq_true c7
        clear c7
        replace H:=Option.bind_eq_some_iff.mp H
        obtain ⟨t125,A80,H⟩:=H
        replace H : (if t125=0 then (Zg.l0 k1 l0 l1 l0 (l0.length : Int) (wrap64 (x11_1 + 1))) else (some t125))=some r:=H
        have A8:=Zd.mk A80
        clear A80
        by_cases c9 : t125=0
        ·rw [if_pos c9] at H
         have c9b0 : (t125 == 0)=true:=beq_iff_eq.mpr c9
         have c9b1 : (t125 != 0)=false:=bne_eq_false_iff_eq.mpr c9
         clear c9
         have H':=Zd.mk H
         clear H
         have p123 : 0≤(x11_1 : Int):=of_decide_eq_true (by first|(with_reducible assumption)|assumption)
         have q123 : x11_1 < (l0.length : Int):=of_decide_eq_true (by first|(with_reducible assumption)|assumption)
         obtain ⟨ad123,e123,hx123_0⟩:=Kd.at_int HR0.out x11_1 p123 q123
         cases e123
         replace p123:=eq_true p123
         replace q123:=eq_true q123
         have p124 : 0≤(x11_1 : Int):=of_decide_eq_true (by first|(with_reducible assumption)|assumption)
         have q124 : x11_1 < (l1.length : Int):=of_decide_eq_true (by first|(with_reducible assumption)|assumption)
         obtain ⟨ad124,e124,hx124_0⟩:=Kd.at_int HR1.out x11_1 p124 q124
         cases e124
         replace p124:=eq_true p124
         replace q124:=eq_true q124
         go_wp2_with (first|((with_reducible refine gate_callee (f:=81) rfl ?_);refine goesL_ (some 26) rfl rfl Tryd.func81 (by kernel_rfl) rfl #[.int .u16 (rd l0 x11_1),.int .u16 (rd l1 x11_1)] rfl (by (try simp only [List.map_toArray,List.map_cons,List.map_nil]);first|done|rfl|(simp only [List.length_drop,List.length_take];rfl)) ?_;(with_reducible refine (cmp_Compare_uint16.calls (rd l0 x11_1) (rd l1 x11_1) t125 _ A8.out).mono ?_);rintro e w' ⟨rfl,⟨nd,rfl⟩⟩;refine ⟨_,rfl,?_⟩))
         go_roundg k1
         case measure => have:=HK1.out;omega
         case rel => exact ⟨(wrap64 (x11_1 + 1)),(by first|rfl|(simp;done)|(simp [*];done)),H',⟨by have:=HK1.out;omega⟩,by repeat (first|exact Zp.refl _|apply Zp.step)⟩
        ·rw [if_neg c9] at H
         have c9b0 : (t125 == 0)=false:=beq_eq_false_iff_ne.mpr c9
         have c9b1 : (t125 != 0)=true:=bne_iff_ne.mpr c9
         obtain rfl:=Option.some.inj H
         have p123 : 0≤(x11_1 : Int):=of_decide_eq_true (by first|(with_reducible assumption)|assumption)
         have q123 : x11_1 < (l0.length : Int):=of_decide_eq_true (by first|(with_reducible assumption)|assumption)
         obtain ⟨ad123,e123,hx123_0⟩:=Kd.at_int HR0.out x11_1 p123 q123
         cases e123
         replace p123:=eq_true p123
         replace q123:=eq_true q123
         have p124 : 0≤(x11_1 : Int):=of_decide_eq_true (by first|(with_reducible assumption)|assumption)
         have q124 : x11_1 < (l1.length : Int):=of_decide_eq_true (by first|(with_reducible assumption)|assumption)
         obtain ⟨ad124,e124,hx124_0⟩:=Kd.at_int HR1.out x11_1 p124 q124
         cases e124
         replace p124:=eq_true p124
         replace q124:=eq_true q124
         go_wp2_with (first|((with_reducible refine gate_callee (f:=81) rfl ?_);refine goesL_ (some 26) rfl rfl Tryd.func81 (by kernel_rfl) rfl #[.int .u16 (rd l0 x11_1),.int .u16 (rd l1 x11_1)] rfl (by (try simp only [List.map_toArray,List.map_cons,List.map_nil]);first|done|rfl|(simp only [List.length_drop,List.length_take];rfl)) ?_;(with_reducible refine (cmp_Compare_uint16.calls (rd l0 x11_1) (rd l1 x11_1) t125 _ A8.out).mono ?_);rintro e w' ⟨rfl,⟨nd,rfl⟩⟩;refine ⟨_,rfl,?_⟩))
         go_ret
         exact ⟨by first|rfl|(simp;done)|(simp [*];done),by repeat (first|exact Zp.refl _|apply Zp.step)⟩
       ·rw [if_neg c7] at H
        exact absurd H (by simp)
     ·rw [if_neg c5] at H
      exact absurd H (by simp)
    ·rw [if_neg c4] at H
     exact absurd H (by simp)
   ·rw [if_neg c3] at H
    have c3b0 : decide (x11_1 < (l0.length : Int))=false:=decide_eq_false c3
    clear c3
    by_cases c10 : (l0.length : Int) < (l1.length : Int)
    ·rw [if_pos c10] at H
     have c10b0 : decide ((l0.length : Int) < (l1.length : Int))=true:=decide_eq_true c10
     have c10b1 : decide (l0.length < l1.length)=true:=decide_eq_true (Int.ofNat_lt.mp c10)
     clear c10
     obtain rfl:=Option.some.inj H
     go_wp2
     go_ret
     exact ⟨by first|rfl|(simp;done)|(simp [*];done),by repeat (first|exact Zp.refl _|apply Zp.step)⟩
    ·rw [if_neg c10] at H
     have c10b0 : decide ((l0.length : Int) < (l1.length : Int))=false:=decide_eq_false c10
     have c10b1 : decide (l0.length < l1.length)=false:=decide_eq_false (fun h => c10 (Int.ofNat_lt.mpr h))
     clear c10
     obtain rfl:=Option.some.inj H
     go_wp2
     go_ret
     exact ⟨by first|rfl|(simp;done)|(simp [*];done),by repeat (first|exact Zp.refl _|apply Zp.step)⟩
end Go.Proofs.YtfbgmlophkbejaaDoorQ.Pas
end
section
namespace Go.Proofs.YtfbgmlophkbejaaDoorQ.Pas
open Go.RowKit Go.Proofs.YtfbgmlophkbejaaDoorW.PrintWords Go.Proofs.YtfbgmlophkbejaaDoorW.PrintLast Go.Proofs.YtfbgmlophkbejaaDoorW.PrintMore
attribute [local go_sem] max2_int min2_int max_two min_two max_three min_three max_four min_four   -- for this text's walks alone
set_option linter.unusedVariables false
set_option linter.unusedSimpArgs false
/-! ### Zj: function 66,by a contract of this repo -/
section
open Go.Proofs.YtfbgmlophkbejaaDoor
def Zj.f (a0 : ByteArray) : Option (List Int):=if a0.size * 24 + 24≤140737488351232 then some (decT a0) else none
theorem Zj.calls (a0 : ByteArray) (r : List Int) (w : World) (h : Zj.f a0=some r) :
  Calls Tryd.prog 66 #[.string a0] w fun e w' => ∃ v0_ : Value,e=.returned (v0_)∧Kd.R (Kd.int .i32) 21 w' w.heap.size (fun _ => True) v0_ r∧Below w.heap.size w w':=by
 unfold Zj.f at h
 split at h
 ·rename_i hs
  obtain rfl:=Option.some.inj h
  exact (RDecode_any a0 w hs).mono fun e w' hp => R_of_rpost hp
 ·cases h
end
end Go.Proofs.YtfbgmlophkbejaaDoorQ.Pas
end
section
namespace Go.Proofs.YtfbgmlophkbejaaDoorQ.Pas
open Go.RowKit Go.Proofs.YtfbgmlophkbejaaDoorW.PrintWords Go.Proofs.YtfbgmlophkbejaaDoorW.PrintLast Go.Proofs.YtfbgmlophkbejaaDoorW.PrintMore
attribute [local go_sem] max2_int min2_int max_two min_two max_three min_three max_four min_four   -- for this text's walks alone
set_option linter.unusedVariables false
set_option linter.unusedSimpArgs false
/-! ### Zu: function 105 -/
def Zu.f (a0 : Int) : Option (Bool):=if a0 ≥ 0 then (if a0 < 55296 then (some true) else (if a0 > 57343 then (some (decide (a0≤1114111))) else (some false))) else (if a0 > 57343 then (some (decide (a0≤1114111))) else (some false))
set_option maxHeartbeats 8000000 in
set_option maxRecDepth 100000 in
theorem Zu.calls (a0 : Int) (r : Bool) (w : World) (h : Zu.f a0=some r) :
  Calls Tryd.prog 105 #[.int .i32 a0] w fun e w' => e=.returned (.bool r)∧Zp w w':=by
 have H : (if a0 ≥ 0 then (if a0 < 55296 then (some true) else (if a0 > 57343 then (some (decide (a0≤1114111))) else (some false))) else (if a0 > 57343 then (some (decide (a0≤1114111))) else (some false)))=some r:=h
 clear h
 by_cases c2 : a0 ≥ 0
 ·rw [if_pos c2] at H
  have c2b0 : decide (0≤a0)=true:=decide_eq_true c2
  clear c2
  by_cases c3 : a0 < 55296
  ·rw [if_pos c3] at H
   have c3b0 : decide (a0 < 55296)=true:=decide_eq_true c3
   clear c3
   obtain rfl:=Option.some.inj H
   go_enter Tryd.func105,Tryd.ntmps105
   go_wp2
   go_ret
   exact ⟨by first|rfl|(simp;done)|(simp [*];done),by repeat (first|exact Zp.refl _|apply Zp.step)⟩
  ·rw [if_neg c3] at H
   have c3b0 : decide (a0 < 55296)=false:=decide_eq_false c3
   clear c3
   by_cases c4 : a0 > 57343
   ·rw [if_pos c4] at H
    have c4b0 : decide (57343 < a0)=true:=decide_eq_true c4
    clear c4
    obtain rfl:=Option.some.inj H
    go_enter Tryd.func105,Tryd.ntmps105
    go_wp2
    go_ret
    exact ⟨by first|rfl|(simp;done)|(simp [*];done),by repeat (first|exact Zp.refl _|apply Zp.step)⟩
   ·rw [if_neg c4] at H
    have c4b0 : decide (57343 < a0)=false:=decide_eq_false c4
    clear c4
    obtain rfl:=Option.some.inj H
    go_enter Tryd.func105,Tryd.ntmps105
    go_wp2
    go_ret
    exact ⟨by first|rfl|(simp;done)|(simp [*];done),by repeat (first|exact Zp.refl _|apply Zp.step)⟩
 ·rw [if_neg c2] at H
  have c2b0 : decide (0≤a0)=false:=decide_eq_false c2
  clear c2
  by_cases c5 : a0 > 57343
  ·rw [if_pos c5] at H
   have c5b0 : decide (57343 < a0)=true:=decide_eq_true c5
   clear c5
   obtain rfl:=Option.some.inj H
   go_enter Tryd.func105,Tryd.ntmps105
   go_wp2
   go_ret
   exact ⟨by first|rfl|(simp;done)|(simp [*];done),by repeat (first|exact Zp.refl _|apply Zp.step)⟩
  ·rw [if_neg c5] at H
   have c5b0 : decide (57343 < a0)=false:=decide_eq_false c5
   clear c5
   obtain rfl:=Option.some.inj H
   go_enter Tryd.func105,Tryd.ntmps105
   go_wp2
   go_ret
   exact ⟨by first|rfl|(simp;done)|(simp [*];done),by repeat (first|exact Zp.refl _|apply Zp.step)⟩
end Go.Proofs.YtfbgmlophkbejaaDoorQ.Pas
end
section
namespace Go.Proofs.YtfbgmlophkbejaaDoorQ.Pas
open Go.RowKit Go.Proofs.YtfbgmlophkbejaaDoorW.PrintWords Go.Proofs.YtfbgmlophkbejaaDoorW.PrintLast Go.Proofs.YtfbgmlophkbejaaDoorW.PrintMore
attribute [local go_sem] max2_int min2_int max_two min_two max_three min_three max_four min_four   -- for this text's walks alone
set_option linter.unusedVariables false
set_option linter.unusedSimpArgs false
/-! ### Ze: function 84 -/
def Ze.l0 : Nat→List Int→List Int→Int→Int→Option (List Int × Int × Int)
 | 0,_,_,_,_ => none
 | k + 1,x5,x9,x10,x11 => if x11 < x10 then (if 0≤x11 then (if x11 < (x9.length : Int) then ((Zu.f (rd x9 x11)).bind fun t130 => (if t130=true then (if (rd x9 x11) < 65536 then (if x5.length < 70368744177664 then (Ze.l0 k (x5++[IntKind.u16.wrap (rd x9 x11)]) x9 x10 (wrap64 (x11 + 1))) else (none)) else ((some (([IntKind.u16.wrap (wrap32 (55296 + (wrap32 (Int.tdiv (wrap32 ((rd x9 x11) - 65536)) 1024)))),IntKind.u16.wrap (wrap32 (56320 + (Int.tmod (wrap32 ((rd x9 x11) - 65536)) 1024)))] : List Int) : List Int)).bind fun y134 => (if x5.length + y134.length < 70368744177664 then (Ze.l0 k (x5++y134) x9 x10 (wrap64 (x11 + 1))) else (none)))) else (some ((([] : List Int)),x11,20)))) else (none)) else (none)) else (some (x5,0,0))
def Ze.f (k : Nat) (l0 : List Int) : Option (List Int × Int × Int):=Ze.l0 k (([] : List Int)) l0 (l0.length : Int) 0
set_option maxHeartbeats 8000000 in
set_option maxRecDepth 100000 in
theorem Ze.calls (k : Nat) (A0 : Option Addr) (c0 : Nat) (l0 : List Int) (r1 : List Int) (r2 : Int) (r3 : Int) (w : World) (hr0 : Kd.C (Kd.int .i32) w A0 l0.length l0) (hc0 : l0.length≤c0) (h : Ze.f k l0=some (r1,r2,r3)) :
  Calls Tryd.prog 84 #[.slice A0 l0.length c0] w fun e w' => ∃ v0_ : Value,e=.returned (.tuple #[v0_,.int .i64 r2,.int .i64 r3])∧Kd.R (Kd.int .u16) 93 w' w.heap.size (fun _ => True) v0_ r1∧Below w.heap.size w w':=by
 have HR0:=Zd.mk hr0
 have HC0:=Zd.mk hc0
 clear hr0 hc0
 have HB:=Zd.mk (Below.refl w.heap.size w)
 have H : (Ze.l0 k (([] : List Int)) l0 (l0.length : Int) 0)=some (r1,r2,r3):=h
 clear h
 obtain ⟨y126,hy126⟩ : ∃ y_ : List Int,y_=(([] : List Int)):=⟨_,rfl⟩
 replace H : (Ze.l0 k y126 l0 (l0.length : Int) 0)=some (r1,r2,r3):=by first|(rw [hy126];with_reducible exact H)|(have H2_:=(Option.bind_some _ _).symm.trans H;rw [hy126];with_reducible exact H2_)|(have H2_:=(Option.bind_some _ _).symm.trans H;with_reducible exact H2_)|with_reducible exact H|(rw [hy126];exact H)|exact H
 have Ny126:=Zd.mk hy126
 clear hy126
 have H':=Zd.mk H
 clear H
 go_enter Tryd.func84,Tryd.ntmps84
 go_wp2_with (first|((with_reducible refine gate_dst (N:=8) rfl ?_);refine Kd.R_lit (Kd.int .u16) _ 93 ?hg (N:=8) ?hd (xs:=([] : List Int)) (inner:=[]) (ok:=fun _ => True) (okp:=fun _ => True) ?hr ?hp (fun _ hk => hk) trivial (Below.refl _ _) (Nat.le_refl _) (by simp) ?_;(case hd => rfl);(case hg => rfl);(case hr => first|(go_simp;done)|(go_simp;rfl));(case hp => exact (Reps.none _ _));intro v127 w2 ho3 hb hg_ hnew_;clear hg_ hnew_;(first|rw [← Ny126.out] at ho3|(simp only [Int.reduceToNat] at ho3;rw [← Ny126.out] at ho3));have n0_:=Zd.mk (Kd.R_lower ho3 (Zw (by repeat (first|(with_reducible first|exact HB.out|apply Zb|apply Za|apply Zc)|exact HB.out))));have n1_:=Zd.mk (below_step (by repeat (first|(with_reducible first|exact HB.out|apply Zb|apply Za|apply Zc)|exact HB.out)) hb);clear HB;have HO128:=n0_;have HB:=n1_;clear n0_ n1_;clear hb ho3))
 go_loopg [5,11] k (fun kq v5 v11 w' => ∃ (x5_1 : List Int) (x11_1 : Int),v11=.int .i64 x11_1∧Zd (Ze.l0 kq x5_1 l0 (l0.length : Int) x11_1=some (r1,r2,r3))∧Zd (kq≤k)∧Zd (Kd.R (Kd.int .u16) 93 w' w.heap.size (fun _ => True) v5 x5_1)∧Zd (Below w.heap.size w w'))
 case atStart => exact ⟨(y126),(0),(by first|rfl|(simp;done)|(simp [*];done)),H',⟨Nat.le_refl _⟩,⟨by (with_reducible repeat (first|apply Kd.Zm|apply Kd.Zl|apply Kd.Zt));exact HO128.out⟩,⟨by repeat (first|(with_reducible first|exact HB.out|apply Zb|apply Za|apply Zc)|exact HB.out)⟩⟩
 case round =>
  clear H'
  try clear p2
  obtain ⟨x5_1,x11_1,rfl,HA,HK1,HO_5,HB⟩:=hrel
  cases gk with
  | zero => exact absurd HA.out (by simp [Ze.l0])
  | succ k1 =>
   have H:=HA.out
   clear HA
   simp only [Ze.l0] at H
   by_cases c4 : x11_1 < (l0.length : Int)
   ·rw [if_pos c4] at H
    have c4b0 : decide (x11_1 < (l0.length : Int))=true:=decide_eq_true c4
    clear c4
    by_cases c5 : 0≤x11_1
    ·rw [if_pos c5] at H
     have c5b0 : decide (0≤x11_1)=true:=decide_eq_true c5
     clear c5
     by_cases c6 : x11_1 < (l0.length : Int)
     ·rw [if_pos c6] at H
      have c6b0 : decide (x11_1 < (l0.length : Int))=true:=decide_eq_true c6
      clear c6
      replace H:=Option.bind_eq_some_iff.mp H
      obtain ⟨t130,A70,H⟩:=H
      replace H : (if t130=true then (if (rd l0 x11_1) < 65536 then (if x5_1.length < 70368744177664 then (Ze.l0 k1 (x5_1++[IntKind.u16.wrap (rd l0 x11_1)]) l0 (l0.length : Int) (wrap64 (x11_1 + 1))) else (none)) else ((some (([IntKind.u16.wrap (wrap32 (55296 + (wrap32 (Int.tdiv (wrap32 ((rd l0 x11_1) - 65536)) 1024)))),IntKind.u16.wrap (wrap32 (56320 + (Int.tmod (wrap32 ((rd l0 x11_1) - 65536)) 1024)))] : List Int) : List Int)).bind fun y134 => (if x5_1.length + y134.length < 70368744177664 then (Ze.l0 k1 (x5_1++y134) l0 (l0.length : Int) (wrap64 (x11_1 + 1))) else (none)))) else (some ((([] : List Int)),x11_1,20)))=some (r1,r2,r3):=H
      have A7:=Zd.mk A70
      clear A70
      by_cases c8 : t130=true
      ·subst c8
       have H1 : (if (rd l0 x11_1) < 65536 then (if x5_1.length < 70368744177664 then (Ze.l0 k1 (x5_1++[IntKind.u16.wrap (rd l0 x11_1)]) l0 (l0.length : Int) (wrap64 (x11_1 + 1))) else (none)) else ((some (([IntKind.u16.wrap (wrap32 (55296 + (wrap32 (Int.tdiv (wrap32 ((rd l0 x11_1) - 65536)) 1024)))),IntKind.u16.wrap (wrap32 (56320 + (Int.tmod (wrap32 ((rd l0 x11_1) - 65536)) 1024)))] : List Int) : List Int)).bind fun y134 => (if x5_1.length + y134.length < 70368744177664 then (Ze.l0 k1 (x5_1++y134) l0 (l0.length : Int) (wrap64 (x11_1 + 1))) else (none))))=some (r1,r2,r3):=by rw [if_pos rfl] at H;exact H
       clear H
       have H:=H1
       clear H1
       by_cases c9 : (rd l0 x11_1) < 65536
       ·rw [if_pos c9] at H
        have c9b0 : decide ((rd l0 x11_1) < 65536)=true:=decide_eq_true c9
        clear c9
        by_cases c10 : x5_1.length < 70368744177664
        ·rw [if_pos c10] at H
         have LMc10:=Zd.mk c10
         clear c10
         obtain ⟨y131,hy131⟩ : ∃ y_ : List Int,y_=(x5_1++[IntKind.u16.wrap (rd l0 x11_1)]):=⟨_,rfl⟩
         replace H : (Ze.l0 k1 y131 l0 (l0.length : Int) (wrap64 (x11_1 + 1)))=some (r1,r2,r3):=by first|(rw [hy131];with_reducible exact H)|(have H2_:=(Option.bind_some _ _).symm.trans H;rw [hy131];with_reducible exact H2_)|(have H2_:=(Option.bind_some _ _).symm.trans H;with_reducible exact H2_)|with_reducible exact H|(rw [hy131];exact H)|exact H
         have Ny131:=Zd.mk hy131
         clear hy131
         have H':=Zd.mk H
         clear H
         have p129 : 0≤(x11_1 : Int):=of_decide_eq_true (by first|(with_reducible assumption)|assumption)
         have q129 : x11_1 < (l0.length : Int):=of_decide_eq_true (by first|(with_reducible assumption)|assumption)
         obtain ⟨ad129,e129,hx129_0⟩:=Kd.at_int HR0.out x11_1 p129 q129
         cases e129
         replace hx129_0:=(HB.out.cell (World.block_lt_of_cell? w _ hx129_0)).trans hx129_0
         replace p129:=eq_true p129
         replace q129:=eq_true q129
         go_wp2_with (first|((with_reducible refine gate_callee (f:=105) rfl ?_);refine goesL_ (some 17) rfl rfl Tryd.func105 (by kernel_rfl) rfl #[.int .i32 (rd l0 x11_1)] rfl (by (try simp only [List.map_toArray,List.map_cons,List.map_nil]);first|done|rfl|(simp only [List.length_drop,List.length_take];rfl)) ?_;(with_reducible refine (Zu.calls (rd l0 x11_1) true _ A7.out).mono ?_);rintro e w' ⟨rfl,⟨nd,rfl⟩⟩;refine ⟨_,rfl,?_⟩)|((with_reducible refine gate_builtin (b:=.append) (xs:=#[.tmp 23,.tmp 26]) rfl ?_);at_builtin;refine Kd.R_append (Kd.int .u16) (w0:=w) w.heap.size rfl (.tmp 23) (.tmp 26) 92 93 (.int .u16 0) 2 rfl Tryd.underlying92 info93 rfl (by decide) (by omega) u5 x5_1 (IntKind.u16.wrap (rd l0 x11_1)) [.int .u16 (IntKind.u16.wrap (rd l0 x11_1))] (fun _ => True) (fun _ => False) rfl rfl ?aP (fun _ hk => hk.elim) ?aF ?aO ?aB ?aS ?aL ?_;(case aP => exact rfl);(case aB => exact (by repeat (first|(with_reducible first|exact HB.out|apply Zb|apply Za|apply Zc)|exact HB.out)));(case aF => exact (fun _ _ => trivial));(case aO => exact (by (with_reducible repeat (first|apply Kd.Zm|apply Kd.Zl|apply Kd.Zt));exact HO_5.out));(case aS => exact (Zw (by repeat (first|(with_reducible first|exact HB.out|apply Zb|apply Za|apply Zc)|exact HB.out))));(case aL => have:=LMc10.out;omega);intro v132 w11 ho hb hg hat;rw [← Ny131.out] at ho;have n0_:=Zd.mk (hb);have n1_:=Zd.mk (ho);clear HB;clear HO_5;have HB:=n0_;have HO133:=n1_;clear n0_ n1_;clear ho hb hg hat))
         go_roundg k1
         case measure => have:=HK1.out;omega
         case rel => exact ⟨(y131),(wrap64 (x11_1 + 1)),(by first|rfl|(simp;done)|(simp [*];done)),H',⟨by have:=HK1.out;omega⟩,⟨by (with_reducible repeat (first|apply Kd.Zm|apply Kd.Zl|apply Kd.Zt));exact HO133.out⟩,⟨by repeat (first|(with_reducible first|exact HB.out|apply Zb|apply Za|apply Zc)|exact HB.out)⟩⟩
        ·rw [if_neg c10] at H
         exact absurd H (by simp)
       ·rw [if_neg c9] at H
        have c9b0 : decide ((rd l0 x11_1) < 65536)=false:=decide_eq_false c9
        clear c9
        obtain ⟨y134,hy134⟩ : ∃ y_ : List Int,y_=(([IntKind.u16.wrap (wrap32 (55296 + (wrap32 (Int.tdiv (wrap32 ((rd l0 x11_1) - 65536)) 1024)))),IntKind.u16.wrap (wrap32 (56320 + (Int.tmod (wrap32 ((rd l0 x11_1) - 65536)) 1024)))] : List Int)):=⟨_,rfl⟩
        replace H : (if x5_1.length + y134.length < 70368744177664 then (Ze.l0 k1 (x5_1++y134) l0 (l0.length : Int) (wrap64 (x11_1 + 1))) else (none))=some (r1,r2,r3):=by first|(rw [hy134];with_reducible exact H)|(have H2_:=(Option.bind_some _ _).symm.trans H;rw [hy134];with_reducible exact H2_)|(have H2_:=(Option.bind_some _ _).symm.trans H;with_reducible exact H2_)|with_reducible exact H|(rw [hy134];exact H)|exact H
        have Ny134:=Zd.mk hy134
        clear hy134
        by_cases c12 : x5_1.length + y134.length < 70368744177664
        ·rw [if_pos c12] at H
         have LMc12:=Zd.mk c12
         clear c12
         obtain ⟨y137,hy137⟩ : ∃ y_ : List Int,y_=(x5_1++y134):=⟨_,rfl⟩
         replace H : (Ze.l0 k1 y137 l0 (l0.length : Int) (wrap64 (x11_1 + 1)))=some (r1,r2,r3):=by first|(rw [hy137];with_reducible exact H)|(have H2_:=(Option.bind_some _ _).symm.trans H;rw [hy137];with_reducible exact H2_)|(have H2_:=(Option.bind_some _ _).symm.trans H;with_reducible exact H2_)|with_reducible exact H|(rw [hy137];exact H)|exact H
         have Ny137:=Zd.mk hy137
         clear hy137
         have H':=Zd.mk H
         clear H
         have p129 : 0≤(x11_1 : Int):=of_decide_eq_true (by first|(with_reducible assumption)|assumption)
         have q129 : x11_1 < (l0.length : Int):=of_decide_eq_true (by first|(with_reducible assumption)|assumption)
         obtain ⟨ad129,e129,hx129_0⟩:=Kd.at_int HR0.out x11_1 p129 q129
         cases e129
         replace hx129_0:=(HB.out.cell (World.block_lt_of_cell? w _ hx129_0)).trans hx129_0
         replace p129:=eq_true p129
         replace q129:=eq_true q129
         go_wp2_with (first|((with_reducible refine gate_callee (f:=105) rfl ?_);refine goesL_ (some 17) rfl rfl Tryd.func105 (by kernel_rfl) rfl #[.int .i32 (rd l0 x11_1)] rfl (by (try simp only [List.map_toArray,List.map_cons,List.map_nil]);first|done|rfl|(simp only [List.length_drop,List.length_take];rfl)) ?_;(with_reducible refine (Zu.calls (rd l0 x11_1) true _ A7.out).mono ?_);rintro e w' ⟨rfl,⟨nd,rfl⟩⟩;refine ⟨_,rfl,?_⟩)|((with_reducible refine gate_dst (N:=39) rfl ?_);refine Kd.R_lit (Kd.int .u16) _ 93 ?hg (N:=39) ?hd (xs:=([IntKind.u16.wrap (wrap32 (55296 + (wrap32 (Int.tdiv (wrap32 ((rd l0 x11_1) - 65536)) 1024)))),IntKind.u16.wrap (wrap32 (56320 + (Int.tmod (wrap32 ((rd l0 x11_1) - 65536)) 1024)))] : List Int)) (inner:=[.int .u16 (IntKind.u16.wrap (wrap32 (55296 + (wrap32 (Int.tdiv (wrap32 ((rd l0 x11_1) - 65536)) 1024))))),.int .u16 (IntKind.u16.wrap (wrap32 (56320 + (Int.tmod (wrap32 ((rd l0 x11_1) - 65536)) 1024))))]) (ok:=fun _ => True) (okp:=fun _ => True) ?hr ?hp (fun _ hk => hk) trivial (Below.refl _ _) (Nat.le_refl _) (by simp) ?_;(case hd => rfl);(case hg => rfl);(case hr => first|(go_simp;done)|(go_simp;rfl));(case hp => exact (Reps.one (show Kd.M (Kd.int .u16) _ _ _ (IntKind.u16.wrap (wrap32 (55296 + (wrap32 (Int.tdiv (wrap32 ((rd l0 x11_1) - 65536)) 1024))))) [.int .u16 (IntKind.u16.wrap (wrap32 (55296 + (wrap32 (Int.tdiv (wrap32 ((rd l0 x11_1) - 65536)) 1024)))))] from rfl) (Reps.one (show Kd.M (Kd.int .u16) _ _ _ (IntKind.u16.wrap (wrap32 (56320 + (Int.tmod (wrap32 ((rd l0 x11_1) - 65536)) 1024)))) [.int .u16 (IntKind.u16.wrap (wrap32 (56320 + (Int.tmod (wrap32 ((rd l0 x11_1) - 65536)) 1024))))] from rfl) (Reps.none _ _))));intro v135 w13 ho14 hb hg_ hnew_;clear hg_ hnew_;(first|rw [← Ny134.out] at ho14|(simp only [Int.reduceToNat] at ho14;rw [← Ny134.out] at ho14));have n0_:=Zd.mk (Kd.R_elder' (by (with_reducible repeat (first|apply Kd.Zm|apply Kd.Zl|apply Kd.Zt));exact HO_5.out) (Kd.R_base ho14) hb);have n1_:=Zd.mk (Kd.R_lower (Kd.R_new' ho14 (Kd.R_lt (by (with_reducible repeat (first|apply Kd.Zm|apply Kd.Zl|apply Kd.Zt));exact HO_5.out))) (Zw (by repeat (first|(with_reducible first|exact HB.out|apply Zb|apply Za|apply Zc)|exact HB.out))));have n2_:=Zd.mk (below_step (by repeat (first|(with_reducible first|exact HB.out|apply Zb|apply Za|apply Zc)|exact HB.out)) hb);clear HO_5;clear HB;have HO_5:=n0_;have HO136:=n1_;have HB:=n2_;clear n0_ n1_ n2_;clear hb ho14;obtain ⟨Ao16,co16,eo16⟩:=Kd.R_slice HO136.out;subst eo16)|((with_reducible refine gate_builtin (b:=.append) (xs:=#[.tmp 28,.tmp 39]) rfl ?_);at_builtin;refine Kd.R_append_rows (Kd.int .u16) (w0:=w) w.heap.size rfl (.tmp 28) (.tmp 39) 92 93 (.int .u16 0) 2 rfl Tryd.underlying92 info93 rfl (by decide) (by omega) u5 x5_1 y134 _ _ _ (fun k_ => some k_ ≠ (.slice Ao16 y134.length co16 : Value).ownBlock) (fun _ => False) rfl rfl ?aO ?aR (fun _ _ h => h) (fun _ h => h.elim) ?aF ?aB ?aS ?aL ?_;(case aR => repeat (first|exact (Kd.R_reads' HO136.out).2.2|(with_reducible refine Kd.C_alloc ?_ _)|(with_reducible refine Kd.C_drewN ?_ _)|(with_reducible refine Kd.C_drew ?_)));(case aB => exact (by repeat (first|(with_reducible first|exact HB.out|apply Zb|apply Za|apply Zc)|exact HB.out)));(case aF => exact (fun k_ hk => Kd.fresh' (Kd.R_lt (by (with_reducible repeat (first|apply Kd.Zm|apply Kd.Zl|apply Kd.Zt));exact HO136.out)) k_ hk));(case aO => exact (by (with_reducible repeat (first|apply Kd.Zm|apply Kd.Zl|apply Kd.Zt));exact Kd.R_mono HO_5.out (fun _ hk => hk.2)));(case aS => exact (Zw (by repeat (first|(with_reducible first|exact HB.out|apply Zb|apply Za|apply Zc)|exact HB.out))));(case aL => have:=LMc12.out;omega);intro v138 w15 ho hb hg hat;rw [← Ny137.out] at ho;have n0_:=Zd.mk (Kd.R_after (ok:=(fun _ => True)) (by (with_reducible repeat (first|apply Kd.Zm|apply Kd.Zl|apply Kd.Zt));exact HO136.out) hg hat);have n1_:=Zd.mk (hb);have n2_:=Zd.mk (ho);clear HO136;clear HB;clear HO_5;have HO136:=n0_;have HB:=n1_;have HO139:=n2_;clear n0_ n1_ n2_;clear ho hb hg hat))
         go_roundg k1
         case measure => have:=HK1.out;omega
         case rel => exact ⟨(y137),(wrap64 (x11_1 + 1)),(by first|rfl|(simp;done)|(simp [*];done)),H',⟨by have:=HK1.out;omega⟩,⟨by (with_reducible repeat (first|apply Kd.Zm|apply Kd.Zl|apply Kd.Zt));exact Kd.R_mono HO139.out (fun _ hk => trivial)⟩,⟨by repeat (first|(with_reducible first|exact HB.out|apply Zb|apply Za|apply Zc)|exact HB.out)⟩⟩
        ·rw [if_neg c12] at H
         exact absurd H (by simp)
      ·replace c8:=Bool.eq_false_iff.mpr c8
       subst c8
       have H1 : (some ((([] : List Int)),x11_1,20))=some (r1,r2,r3):=by rw [if_neg (show ¬ (false=true) by decide)] at H;exact H
       clear H
       have H:=H1
       clear H1
       obtain ⟨y140,hy140⟩ : ∃ y_ : List Int,y_=(([] : List Int)):=⟨_,rfl⟩
       replace H : (some (y140,x11_1,20))=some (r1,r2,r3):=by first|(rw [hy140];with_reducible exact H)|(have H2_:=(Option.bind_some _ _).symm.trans H;rw [hy140];with_reducible exact H2_)|(have H2_:=(Option.bind_some _ _).symm.trans H;with_reducible exact H2_)|with_reducible exact H|(rw [hy140];exact H)|exact H
       have Ny140:=Zd.mk hy140
       clear hy140
       simp only [Option.some.injEq,Prod.mk.injEq] at H
       obtain ⟨rfl,rfl,rfl⟩:=H
       have p129 : 0≤(x11_1 : Int):=of_decide_eq_true (by first|(with_reducible assumption)|assumption)
       have q129 : x11_1 < (l0.length : Int):=of_decide_eq_true (by first|(with_reducible assumption)|assumption)
       obtain ⟨ad129,e129,hx129_0⟩:=Kd.at_int HR0.out x11_1 p129 q129
       cases e129
       replace hx129_0:=(HB.out.cell (World.block_lt_of_cell? w _ hx129_0)).trans hx129_0
       replace p129:=eq_true p129
       replace q129:=eq_true q129
       go_wp2_with (first|((with_reducible refine gate_callee (f:=105) rfl ?_);refine goesL_ (some 17) rfl rfl Tryd.func105 (by kernel_rfl) rfl #[.int .i32 (rd l0 x11_1)] rfl (by (try simp only [List.map_toArray,List.map_cons,List.map_nil]);first|done|rfl|(simp only [List.length_drop,List.length_take];rfl)) ?_;(with_reducible refine (Zu.calls (rd l0 x11_1) false _ A7.out).mono ?_);rintro e w' ⟨rfl,⟨nd,rfl⟩⟩;refine ⟨_,rfl,?_⟩)|((with_reducible refine gate_dst (N:=19) rfl ?_);refine Kd.R_lit (Kd.int .u16) _ 93 ?hg (N:=19) ?hd (xs:=([] : List Int)) (inner:=[]) (ok:=fun _ => True) (okp:=fun _ => True) ?hr ?hp (fun _ hk => hk) trivial (Below.refl _ _) (Nat.le_refl _) (by simp) ?_;(case hd => rfl);(case hg => rfl);(case hr => first|(go_simp;done)|(go_simp;rfl));(case hp => exact (Reps.none _ _));intro v141 w17 ho18 hb hg_ hnew_;clear hg_ hnew_;(first|rw [← Ny140.out] at ho18|(simp only [Int.reduceToNat] at ho18;rw [← Ny140.out] at ho18));have n0_:=Zd.mk (Kd.R_elder' (by (with_reducible repeat (first|apply Kd.Zm|apply Kd.Zl|apply Kd.Zt));exact HO_5.out) (Kd.R_base ho18) hb);have n1_:=Zd.mk (Kd.R_lower (Kd.R_new' ho18 (Kd.R_lt (by (with_reducible repeat (first|apply Kd.Zm|apply Kd.Zl|apply Kd.Zt));exact HO_5.out))) (Zw (by repeat (first|(with_reducible first|exact HB.out|apply Zb|apply Za|apply Zc)|exact HB.out))));have n2_:=Zd.mk (below_step (by repeat (first|(with_reducible first|exact HB.out|apply Zb|apply Za|apply Zc)|exact HB.out)) hb);clear HO_5;clear HB;have HO_5:=n0_;have HO142:=n1_;have HB:=n2_;clear n0_ n1_ n2_;clear hb ho18))
       go_ret3
       exact ⟨_,by first|rfl|(simp [errW_none,errW_some] <;> rfl)|(simp [*,errW_none,errW_some] <;> rfl),by (with_reducible repeat (first|apply Kd.Zm|apply Kd.Zl|apply Kd.Zt));exact Kd.R_mono HO142.out (fun _ hk => trivial),by repeat (first|(with_reducible first|exact HB.out|apply Zb|apply Za|apply Zc)|exact HB.out)⟩
     ·rw [if_neg c6] at H
      exact absurd H (by simp)
    ·rw [if_neg c5] at H
     exact absurd H (by simp)
   ·rw [if_neg c4] at H
    have c4b0 : decide (x11_1 < (l0.length : Int))=false:=decide_eq_false c4
    clear c4
    simp only [Option.some.injEq,Prod.mk.injEq] at H
    obtain ⟨rfl,rfl,rfl⟩:=H
    go_wp2
    go_ret3
    exact ⟨_,by first|rfl|(simp [errW_none,errW_some] <;> rfl)|(simp [*,errW_none,errW_some] <;> rfl),by (with_reducible repeat (first|apply Kd.Zm|apply Kd.Zl|apply Kd.Zt));exact HO_5.out,by repeat (first|(with_reducible first|exact HB.out|apply Zb|apply Za|apply Zc)|exact HB.out)⟩
end Go.Proofs.YtfbgmlophkbejaaDoorQ.Pas
end
