/- What these functions of the program compute, and that they compute it: printed by wip/tools/orac.py over the kit's print.py; merged. -/
import Derived.Test.YtmjlkifmbhaiiaaDoorQPwx0
import Derived.Test.YtmjlkifmbhaiiaaDoorQPwx3
import Derived.Test.YtmjlkifmbhaiiaaDoorQPwx4
import Derived.Test.YtmjlkifmbhaiiaaDoorQPwx5
import Derived.Test.YtmjlkifmbhaiiaaDoorQPwx6
import Derived.Test.YtmjlkifmbhaiiaaDoorQPwx8
import Derived.Test.YtmjlkifmbhaiiaaDoorQPwx9
import Derived.Test.YtmjlkifmbhaiiaaDoorQPwx10
section
namespace Go.Proofs.YtmjlkifmbhaiiaaDoorQ.Pw
open Go.RowKit Go.Proofs.YtmjlkifmbhaiiaaDoorW.PrintWords Go.Proofs.YtmjlkifmbhaiiaaDoorW.PrintLast Go.Proofs.YtmjlkifmbhaiiaaDoorW.PrintMore
attribute [local go_sem] Go.Proofs.YtmjlkifmbhaiiaaDoor.Ye
attribute [local go_sem] max2_int min2_int max_two min_two max_three min_three max_four min_four   -- for this text's walks alone
set_option linter.unusedVariables false
set_option linter.unusedSimpArgs false
/-! ### Zj: function 9 -/
mutual
def Zj.j0 : Nat→List Int→ByteArray→Bool→Int→Int→Int→Int→Int→Int→Int→Int→Option (Bool)
 | 0,_,_,_,_,_,_,_,_,_,_,_ => none
 | k + 1,x1,x2,x34,x256000,x256001,x256002,x256003,x256004,x256005,x256006,x256007 => if x34=true then (some false) else ((some (([] : List Int) : List Int)).bind fun y269 => (if y269.length + x1.length < 35184372088832 then ((some (y269++x1 : List Int)).bind fun y272 => ((puny_EncodeBy.f k x256000 x256001 x256002 x256003 x256004 x256005 x256006 x256007 y272).bind fun bt275 => ((Z8.f x256000 x256001 x256002 x256003 x256004 x256005 x256006 x256007).bind fun bt278 => ((Zh.f k bt278.1 bt278.2.1 bt278.2.2.1 bt278.2.2.2.1 bt278.2.2.2.2.1 bt278.2.2.2.2.2.1 bt278.2.2.2.2.2.2.1 bt278.2.2.2.2.2.2.2 x1).bind fun bt286 => (if bt275.1.toList=bt286.1.toList then (if bt275.2.1=bt286.2.1 then (if bt275.2.2=bt286.2.2 then ((Z5.f k y272 x1).bind fun t289 => (Zj.j1 k x2 (!t289) x256000 x256001 x256002 x256003 x256004 x256005 x256006 x256007)) else (Zj.j1 k x2 true x256000 x256001 x256002 x256003 x256004 x256005 x256006 x256007)) else (Zj.j1 k x2 true x256000 x256001 x256002 x256003 x256004 x256005 x256006 x256007)) else (Zj.j1 k x2 true x256000 x256001 x256002 x256003 x256004 x256005 x256006 x256007)))))) else (none)))
def Zj.j1 : Nat→ByteArray→Bool→Int→Int→Int→Int→Int→Int→Int→Int→Option (Bool)
 | 0,_,_,_,_,_,_,_,_,_,_ => none
 | k + 1,x2,x71,x256000,x256001,x256002,x256003,x256004,x256005,x256006,x256007 => if x71=true then (some false) else ((puny_DecodeBy.f x256000 x256001 x256002 x256003 x256004 x256005 x256006 x256007 x2).bind fun bt290 => ((Z8.f x256000 x256001 x256002 x256003 x256004 x256005 x256006 x256007).bind fun bt295 => ((Zi.f k bt295.1 bt295.2.1 bt295.2.2.1 bt295.2.2.2.1 bt295.2.2.2.2.1 bt295.2.2.2.2.2.1 bt295.2.2.2.2.2.2.1 bt295.2.2.2.2.2.2.2 x2).bind fun bt303 => ((Z5.f k bt290.1 bt303.1).bind fun t308 => (if t308=true then (if bt290.2.1=bt303.2.1 then (some (bt290.2.2 == bt303.2.2)) else (some false)) else (some false))))))
end
def Zj.f (k : Nat) (a0_0 : Int) (a0_1 : Int) (a0_2 : Int) (a0_3 : Int) (a0_4 : Int) (a0_5 : Int) (a0_6 : Int) (a0_7 : Int) (l1 : List Int) (a2 : ByteArray) : Option (Bool):=(posternlaw14_awake.f k).bind fun t256 => (if t256=true then ((Yg.f a0_0 a0_1 a0_2 a0_3 a0_4 a0_5 a0_6 a0_7).bind fun t257 => ((Z8.f a0_0 a0_1 a0_2 a0_3 a0_4 a0_5 a0_6 a0_7).bind fun bt258 => ((Zx.f k bt258.1 bt258.2.1 bt258.2.2.1 bt258.2.2.2.1 bt258.2.2.2.2.1 bt258.2.2.2.2.2.1 bt258.2.2.2.2.2.2.1 bt258.2.2.2.2.2.2.2).bind fun t266 => (if ((t257 == 0) != t266)=true then (Zj.j0 k l1 a2 true a0_0 a0_1 a0_2 a0_3 a0_4 a0_5 a0_6 a0_7) else ((Yg.f a0_0 a0_1 a0_2 a0_3 a0_4 a0_5 a0_6 a0_7).bind fun t267 => (if t267=0 then (Zj.j0 k l1 a2 false a0_0 a0_1 a0_2 a0_3 a0_4 a0_5 a0_6 a0_7) else ((Yg.f a0_0 a0_1 a0_2 a0_3 a0_4 a0_5 a0_6 a0_7).bind fun t268 => (Zj.j0 k l1 a2 (t268 != 144) a0_0 a0_1 a0_2 a0_3 a0_4 a0_5 a0_6 a0_7)))))))) else (some false))
def Zj.T3 : Bool × List (List Nat × List Nat):=(true,[([],[]),([0],[0]),([1],[1]),([],[]),([3,1],[3]),([4,4],[4]),([2,5],[2,5]),([6,5],[6]),([7],[7]),([8,7,7],[7,8]),([9,7],[7,9]),([10,9,7],[7,10]),([11],[11]),([12,11,11],[11,12]),([13,11],[11,13]),([11,14,7],[7,11,14]),([7,15],[7,15])])
def Zj.B3 : List Nat:=[0,1,3,0,11,27,63,127,255,511,1023,2047,4095,8191,16383,32767,65535]
theorem Zj.tab3 : rtab .any (opsOf Tryd.f9 3)=Zj.T3:=by kernel_rfl
theorem Zj.bits3 : waitsOk Zj.T3.2 Zj.B3=true:=by kernel_rfl
set_option maxHeartbeats 8000000 in
set_option maxRecDepth 100000 in
theorem Zj.calls (k : Nat) (a0_0 : Int) (a0_1 : Int) (a0_2 : Int) (a0_3 : Int) (a0_4 : Int) (a0_5 : Int) (a0_6 : Int) (a0_7 : Int) (A1 : Option Addr) (c1 : Nat) (l1 : List Int) (a2 : ByteArray) (r : Bool) (w : World) (hr1 : Kd.C (Kd.int .i32) w A1 l1.length l1) (hc1 : l1.length≤c1) (h : Zj.f k a0_0 a0_1 a0_2 a0_3 a0_4 a0_5 a0_6 a0_7 l1 a2=some r) (T_ : Go.Proofs.YtmjlkifmbhaiiaaDoor.Tabs w) :
  Calls Tryd.prog 9 #[.agg #[.int .i64 a0_0,.int .i64 a0_1,.int .i64 a0_2,.int .i64 a0_3,.int .i64 a0_4,.int .i64 a0_5,.int .i64 a0_6,.int .u8 a0_7],.slice A1 l1.length c1,.string a2] w fun e w' => e=.returned (.bool r)∧Below w.heap.size w w':=by
 have hu48:=Tryd.underlying48
 have HR1:=Zf.mk hr1
 have HC1:=Zf.mk hc1
 clear hr1 hc1
 have HB:=Zf.mk (Below.refl w.heap.size w)
 have H : ((posternlaw14_awake.f k).bind fun t256 => (if t256=true then ((Yg.f a0_0 a0_1 a0_2 a0_3 a0_4 a0_5 a0_6 a0_7).bind fun t257 => ((Z8.f a0_0 a0_1 a0_2 a0_3 a0_4 a0_5 a0_6 a0_7).bind fun bt258 => ((Zx.f k bt258.1 bt258.2.1 bt258.2.2.1 bt258.2.2.2.1 bt258.2.2.2.2.1 bt258.2.2.2.2.2.1 bt258.2.2.2.2.2.2.1 bt258.2.2.2.2.2.2.2).bind fun t266 => (if ((t257 == 0) != t266)=true then (Zj.j0 k l1 a2 true a0_0 a0_1 a0_2 a0_3 a0_4 a0_5 a0_6 a0_7) else ((Yg.f a0_0 a0_1 a0_2 a0_3 a0_4 a0_5 a0_6 a0_7).bind fun t267 => (if t267=0 then (Zj.j0 k l1 a2 false a0_0 a0_1 a0_2 a0_3 a0_4 a0_5 a0_6 a0_7) else ((Yg.f a0_0 a0_1 a0_2 a0_3 a0_4 a0_5 a0_6 a0_7).bind fun t268 => (Zj.j0 k l1 a2 (t268 != 144) a0_0 a0_1 a0_2 a0_3 a0_4 a0_5 a0_6 a0_7)))))))) else (some false)))=some r:=h
 clear h
 replace H:=Option.bind_eq_some_iff.mp H
 obtain ⟨t256,A40,H⟩:=H
 replace H : (if t256=true then ((Yg.f a0_0 a0_1 a0_2 a0_3 a0_4 a0_5 a0_6 a0_7).bind fun t257 => ((Z8.f a0_0 a0_1 a0_2 a0_3 a0_4 a0_5 a0_6 a0_7).bind fun bt258 => ((Zx.f k bt258.1 bt258.2.1 bt258.2.2.1 bt258.2.2.2.1 bt258.2.2.2.2.1 bt258.2.2.2.2.2.1 bt258.2.2.2.2.2.2.1 bt258.2.2.2.2.2.2.2).bind fun t266 => (if ((t257 == 0) != t266)=true then (Zj.j0 k l1 a2 true a0_0 a0_1 a0_2 a0_3 a0_4 a0_5 a0_6 a0_7) else ((Yg.f a0_0 a0_1 a0_2 a0_3 a0_4 a0_5 a0_6 a0_7).bind fun t267 => (if t267=0 then (Zj.j0 k l1 a2 false a0_0 a0_1 a0_2 a0_3 a0_4 a0_5 a0_6 a0_7) else ((Yg.f a0_0 a0_1 a0_2 a0_3 a0_4 a0_5 a0_6 a0_7).bind fun t268 => (Zj.j0 k l1 a2 (t268 != 144) a0_0 a0_1 a0_2 a0_3 a0_4 a0_5 a0_6 a0_7)))))))) else (some false))=some r:=H
 have A4:=Zf.mk A40
 clear A40
 by_cases c5 : t256=true
 ·subst c5
  have H1 : ((Yg.f a0_0 a0_1 a0_2 a0_3 a0_4 a0_5 a0_6 a0_7).bind fun t257 => ((Z8.f a0_0 a0_1 a0_2 a0_3 a0_4 a0_5 a0_6 a0_7).bind fun bt258 => ((Zx.f k bt258.1 bt258.2.1 bt258.2.2.1 bt258.2.2.2.1 bt258.2.2.2.2.1 bt258.2.2.2.2.2.1 bt258.2.2.2.2.2.2.1 bt258.2.2.2.2.2.2.2).bind fun t266 => (if ((t257 == 0) != t266)=true then (Zj.j0 k l1 a2 true a0_0 a0_1 a0_2 a0_3 a0_4 a0_5 a0_6 a0_7) else ((Yg.f a0_0 a0_1 a0_2 a0_3 a0_4 a0_5 a0_6 a0_7).bind fun t267 => (if t267=0 then (Zj.j0 k l1 a2 false a0_0 a0_1 a0_2 a0_3 a0_4 a0_5 a0_6 a0_7) else ((Yg.f a0_0 a0_1 a0_2 a0_3 a0_4 a0_5 a0_6 a0_7).bind fun t268 => (Zj.j0 k l1 a2 (t268 != 144) a0_0 a0_1 a0_2 a0_3 a0_4 a0_5 a0_6 a0_7))))))))=some r:=by rw [if_pos rfl] at H;exact H
  clear H
  have H:=H1
  clear H1
  have HC6:=Zf.mk H
  clear H
  go_enter Tryd.func9,Tryd.ntmps9
  go_upto_region 3 with (first|((with_reducible refine Yh (N:=3) rfl ?_);refine Ym ?hg (N:=3) ?hd (cs:=#[.int .i64 a0_0,.int .i64 a0_1,.int .i64 a0_2,.int .i64 a0_3,.int .i64 a0_4,.int .i64 a0_5,.int .i64 a0_6,.int .u8 a0_7]) (t:=48) ?hr ?_;(case hd => rfl);(case hg => rfl);(case hr => first|(go_simp;done)|(go_simp;rfl));intro gb255 hg w7 hbox hb;have n0_:=Zf.mk (Zm (by repeat (first|(with_reducible first|exact HB.out|apply Ze|apply Zc|apply Zd)|exact HB.out)) hb);have n1_:=Zf.mk (hbox);have n2_:=Zf.mk ((by rw [hg];exact (Zo (by repeat (first|(with_reducible first|exact HB.out|apply Ze|apply Zc|apply Zd)|exact HB.out))) : w.heap.size≤gb255));have n3_:=Zf.mk ((by rw [hg];exact (Zo (by repeat (first|(with_reducible first|exact HB.out|apply Ze|apply Zc|apply Zd)|exact HB.out))) : w.heap.size≤gb255));clear HB;have HB:=n0_;have BK255:=n1_;have GW255:=n2_;have GE255:=n3_;clear n0_ n1_ n2_ n3_;clear hb hbox hg)|((with_reducible refine Z0 (f:=11) rfl ?_);refine goesL_ (some 16) rfl rfl Tryd.func11 (by kernel_rfl) rfl #[] rfl (by (try simp only [List.map_toArray,List.map_cons,List.map_nil]);first|done|rfl|(simp only [List.length_drop,List.length_take];rfl)) ?_;(with_reducible refine (posternlaw14_awake.calls k  true _ A4.out (by first|exact T_|exact (Utf8Tabs_below T_ (by repeat (first|(with_reducible first|exact HB.out|apply Ze|apply Zc|apply Zd|refine Zg ?_ GE255.out)|exact HB.out))))).mono ?_);rintro e w8 ⟨rfl,hb⟩;refine ⟨_,rfl,?_⟩;have n0_:=Zf.mk (Zw (g:=gb255) (o:=.cells #[.int .i64 a0_0,.int .i64 a0_1,.int .i64 a0_2,.int .i64 a0_3,.int .i64 a0_4,.int .i64 a0_5,.int .i64 a0_6,.int .u8 a0_7] 48 (0,0)) (by (with_reducible repeat (first|refine Zk ?_ _|refine Zn ?_|refine Zl ?_ _));exact BK255.out) hb);have n1_:=Zf.mk (Zm (by repeat (first|(with_reducible first|exact HB.out|apply Ze|apply Zc|apply Zd|refine Zg ?_ GE255.out)|exact HB.out)) hb);clear BK255;clear HB;have BK255:=n0_;have HB:=n1_;clear n0_ n1_;(try clear hb);(try clear hb2);(try clear hk);(try clear hi)))
  (try simp only [Act.put,List.setIfInBounds_toArray,List.set_cons_zero,List.set_cons_succ])
  go_cut [34] (fun v34 wc => ∃ (kq : Nat) (x34_5 : Bool),v34=.bool x34_5∧Zf (Zj.j0 kq l1 a2 x34_5 a0_0 a0_1 a0_2 a0_3 a0_4 a0_5 a0_6 a0_7=some r)∧Zf (kq≤k)∧Zf (wc.heap[gb255]?=some (.cells #[.int .i64 a0_0,.int .i64 a0_1,.int .i64 a0_2,.int .i64 a0_3,.int .i64 a0_4,.int .i64 a0_5,.int .i64 a0_6,.int .u8 a0_7] 48 (0,0)))∧Zf (Below w.heap.size w wc))
  case first =>
   have H:=HC6.out
   clear HC6
   replace H:=Option.bind_eq_some_iff.mp H
   obtain ⟨t257,A90,H⟩:=H
   replace H : ((Z8.f a0_0 a0_1 a0_2 a0_3 a0_4 a0_5 a0_6 a0_7).bind fun bt258 => ((Zx.f k bt258.1 bt258.2.1 bt258.2.2.1 bt258.2.2.2.1 bt258.2.2.2.2.1 bt258.2.2.2.2.2.1 bt258.2.2.2.2.2.2.1 bt258.2.2.2.2.2.2.2).bind fun t266 => (if ((t257 == 0) != t266)=true then (Zj.j0 k l1 a2 true a0_0 a0_1 a0_2 a0_3 a0_4 a0_5 a0_6 a0_7) else ((Yg.f a0_0 a0_1 a0_2 a0_3 a0_4 a0_5 a0_6 a0_7).bind fun t267 => (if t267=0 then (Zj.j0 k l1 a2 false a0_0 a0_1 a0_2 a0_3 a0_4 a0_5 a0_6 a0_7) else ((Yg.f a0_0 a0_1 a0_2 a0_3 a0_4 a0_5 a0_6 a0_7).bind fun t268 => (Zj.j0 k l1 a2 (t268 != 144) a0_0 a0_1 a0_2 a0_3 a0_4 a0_5 a0_6 a0_7)))))))=some r:=H
   have A9:=Zf.mk A90
   clear A90
   replace H:=Option.bind_eq_some_iff.mp H
   obtain ⟨⟨t258,t259,t260,t261,t262,t263,t264,t265⟩,A100,H⟩:=H
   replace H : ((Zx.f k t258 t259 t260 t261 t262 t263 t264 t265).bind fun t266 => (if ((t257 == 0) != t266)=true then (Zj.j0 k l1 a2 true a0_0 a0_1 a0_2 a0_3 a0_4 a0_5 a0_6 a0_7) else ((Yg.f a0_0 a0_1 a0_2 a0_3 a0_4 a0_5 a0_6 a0_7).bind fun t267 => (if t267=0 then (Zj.j0 k l1 a2 false a0_0 a0_1 a0_2 a0_3 a0_4 a0_5 a0_6 a0_7) else ((Yg.f a0_0 a0_1 a0_2 a0_3 a0_4 a0_5 a0_6 a0_7).bind fun t268 => (Zj.j0 k l1 a2 (t268 != 144) a0_0 a0_1 a0_2 a0_3 a0_4 a0_5 a0_6 a0_7))))))=some r:=H
   have A10:=Zf.mk A100
   clear A100
   replace H:=Option.bind_eq_some_iff.mp H
   obtain ⟨t266,A110,H⟩:=H
   replace H : (if ((t257 == 0) != t266)=true then (Zj.j0 k l1 a2 true a0_0 a0_1 a0_2 a0_3 a0_4 a0_5 a0_6 a0_7) else ((Yg.f a0_0 a0_1 a0_2 a0_3 a0_4 a0_5 a0_6 a0_7).bind fun t267 => (if t267=0 then (Zj.j0 k l1 a2 false a0_0 a0_1 a0_2 a0_3 a0_4 a0_5 a0_6 a0_7) else ((Yg.f a0_0 a0_1 a0_2 a0_3 a0_4 a0_5 a0_6 a0_7).bind fun t268 => (Zj.j0 k l1 a2 (t268 != 144) a0_0 a0_1 a0_2 a0_3 a0_4 a0_5 a0_6 a0_7)))))=some r:=H
   have A11:=Zf.mk A110
   clear A110
   by_cases c12 : ((t257 == 0) != t266)=true
   ·rw [if_pos c12] at H
    have c12b0 : ((t257 == 0) != t266)=true:=c12
    (try (have c12b1 : decide ((t257 == 0)=t266)=false:=by simpa using c12))
    (try (have c12b2 : ((t257 == 0) == t266)=false:=by simpa using c12))
    (try (have c12b3 : ¬ ((t257 == 0)=t266):=by simpa using c12))
    clear c12
    (first|rw [c12b0]|rw [c12b1]|(simp only [i64_w,i32_w];rw [c12b0])|skip)
    have H':=Zf.mk H
    clear H
    try go_wp2
    have n0_:=Zf.mk (Zn BK255.out)
    have n1_:=Zf.mk (Zd HB.out)
    clear BK255
    clear HB
    have BK255:=n0_
    have HB:=n1_
    clear n0_ n1_
    refine start_ (n:=17) (S:=fun w' => w'.cell? ⟨gb255,0,none⟩=some (.int .i64 a0_0)∧w'.cell? ⟨gb255,1,none⟩=some (.int .i64 a0_1)∧w'.cell? ⟨gb255,2,none⟩=some (.int .i64 a0_2)∧w'.cell? ⟨gb255,3,none⟩=some (.int .i64 a0_3)∧w'.cell? ⟨gb255,4,none⟩=some (.int .i64 a0_4)∧w'.cell? ⟨gb255,5,none⟩=some (.int .i64 a0_5)∧w'.cell? ⟨gb255,6,none⟩=some (.int .i64 a0_6)∧w'.cell? ⟨gb255,7,none⟩=some (.int .u8 a0_7)) (ds:=[]) #[false,false,false,false,false,false,false,false,false,false,false,false,false,false,false,false,false] (by kernel_rfl) rfl rfl ⟨(Zb BK255.out 0).trans rfl,(Zb BK255.out 1).trans rfl,(Zb BK255.out 2).trans rfl,(Zb BK255.out 3).trans rfl,(Zb BK255.out 4).trans rfl,(Zb BK255.out 5).trans rfl,(Zb BK255.out 6).trans rfl,(Zb BK255.out 7).trans rfl⟩ (fun hHeld => ?_);refine with_tabW Zj.tab3 Zj.bits3 (fun HT_ HW_ => ?_)
    generalize w8.drew=w13 at BK255 HB hHeld ⊢
    refine take_ (i:=0) (N:=some 18) (v:=?_) (a':=?_) #[true,false,false,false,false,false,false,false,false,false,false,false,false,false,false,false,false] rfl rfl (take_ofW HT_.out HW_.out (by kernel_rfl)) (fun _ _ _ h => h) (Or.inl ⟨by rfl,?_⟩) hHeld ?_ ?_
    rotate_left
    ·rintro w' ⟨s0,s1,s2,s3,s4,s5,s6,s7⟩
     go_simp
     with_reducible rfl
    rotate_left
    ·simp only [Act.put,List.setIfInBounds_toArray,List.set_cons_zero,List.set_cons_succ,i64_w,i32_w]
     rfl
    refine take_ (i:=3) (N:=some 21) (v:=?_) (a':=?_) #[true,false,false,true,false,false,false,false,false,false,false,false,false,false,false,false,false] rfl rfl (take_ofW HT_.out HW_.out (by kernel_rfl)) (fun _ _ _ h => h) (Or.inl ⟨by rfl,?_⟩) hHeld ?_ ?_
    rotate_left
    ·rintro w' ⟨s0,s1,s2,s3,s4,s5,s6,s7⟩
     go_simp
     with_reducible rfl
    rotate_left
    ·simp only [Act.put,List.setIfInBounds_toArray,List.set_cons_zero,List.set_cons_succ,i64_w,i32_w]
     rfl
    refine one_ (i:=1) (N:=some 19) #[true,true,false,true,false,false,false,false,false,false,false,false,false,false,false,false,false] rfl rfl (one_of HT_.out (by kernel_rfl)) (by decide) (fun K hK => ?_)
    refine goes_ Tryd.func24 (by kernel_rfl) rfl #[.agg #[.int .i64 a0_0,.int .i64 a0_1,.int .i64 a0_2,.int .i64 a0_3,.int .i64 a0_4,.int .i64 a0_5,.int .i64 a0_6,.int .u8 a0_7]] (by rfl) rfl rfl (by (try simp only [List.map_toArray,List.map_cons,List.map_nil]);first|done|rfl|(simp only [List.length_drop,List.length_take];rfl)) ?_
    with_reducible refine (Yg.calls a0_0 a0_1 a0_2 a0_3 a0_4 a0_5 a0_6 a0_7 t257 _ A9.out).mono ?_
    rintro e w14 ⟨rfl,hb⟩
    refine ⟨_,rfl,?_⟩
    have n0_:=Zf.mk (Zw (g:=gb255) (o:=.cells #[.int .i64 a0_0,.int .i64 a0_1,.int .i64 a0_2,.int .i64 a0_3,.int .i64 a0_4,.int .i64 a0_5,.int .i64 a0_6,.int .u8 a0_7] 48 (0,0)) (by (with_reducible repeat (first|refine Zk ?_ _|refine Zn ?_|refine Zl ?_ _));exact BK255.out) hb)
    have n1_:=Zf.mk (Zm (by repeat (first|(with_reducible first|exact HB.out|apply Ze|apply Zc|apply Zd|refine Zg ?_ GE255.out)|exact HB.out)) hb)
    clear BK255
    clear HB
    have BK255:=n0_
    have HB:=n1_
    clear n0_ n1_
    (try clear hb)
    (try clear hb2)
    (try clear hk)
    (try clear hi)
    refine hK.out _ _ ⟨(Zb BK255.out 0).trans rfl,(Zb BK255.out 1).trans rfl,(Zb BK255.out 2).trans rfl,(Zb BK255.out 3).trans rfl,(Zb BK255.out 4).trans rfl,(Zb BK255.out 5).trans rfl,(Zb BK255.out 6).trans rfl,(Zb BK255.out 7).trans rfl⟩ (fun hHeld => ?_)
    clear hK K
    refine norm_ (a':=?_) ?_ ?_
    rotate_left
    ·show Act.put _ (some 19) _=_
     simp only [Act.put,List.setIfInBounds_toArray,List.set_cons_zero,List.set_cons_succ,i64_w,i32_w]
     rfl
    refine pure_ (i:=2) (N:=some 20) (v:=?_) (a':=?_) #[true,true,true,true,false,false,false,false,false,false,false,false,false,false,false,false,false] rfl rfl (any_of HT_.out (by kernel_rfl)) (fun _ _ _ h => h) (Or.inl ⟨by rfl,?_⟩) ?_ ?_
    rotate_left
    ·intro w'
     go_simp
     with_reducible rfl
    rotate_left
    ·simp only [Act.put,List.setIfInBounds_toArray,List.set_cons_zero,List.set_cons_succ,i64_w,i32_w]
     rfl
    refine one_ (i:=4) (N:=some 22) #[true,true,true,true,true,false,false,false,false,false,false,false,false,false,false,false,false] rfl rfl (one_of HT_.out (by kernel_rfl)) (by decide) (fun K hK => ?_)
    refine goes_ Tryd.func26 (by kernel_rfl) rfl #[.agg #[.int .i64 a0_0,.int .i64 a0_1,.int .i64 a0_2,.int .i64 a0_3,.int .i64 a0_4,.int .i64 a0_5,.int .i64 a0_6,.int .u8 a0_7]] (by rfl) rfl rfl (by (try simp only [List.map_toArray,List.map_cons,List.map_nil]);first|done|rfl|(simp only [List.length_drop,List.length_take];rfl)) ?_
    with_reducible refine (Z8.calls a0_0 a0_1 a0_2 a0_3 a0_4 a0_5 a0_6 a0_7 t258 t259 t260 t261 t262 t263 t264 t265 _ A10.out).mono ?_
    rintro e w15 ⟨rfl,hb⟩
    refine ⟨_,rfl,?_⟩
    have n0_:=Zf.mk (Zw (g:=gb255) (o:=.cells #[.int .i64 a0_0,.int .i64 a0_1,.int .i64 a0_2,.int .i64 a0_3,.int .i64 a0_4,.int .i64 a0_5,.int .i64 a0_6,.int .u8 a0_7] 48 (0,0)) (by (with_reducible repeat (first|refine Zk ?_ _|refine Zn ?_|refine Zl ?_ _));exact BK255.out) hb)
    have n1_:=Zf.mk (Zm (by repeat (first|(with_reducible first|exact HB.out|apply Ze|apply Zc|apply Zd|refine Zg ?_ GE255.out)|exact HB.out)) hb)
    clear BK255
    clear HB
    have BK255:=n0_
    have HB:=n1_
    clear n0_ n1_
    (try clear hb)
    (try clear hb2)
    (try clear hk)
    (try clear hi)
    refine hK.out _ _ ⟨(Zb BK255.out 0).trans rfl,(Zb BK255.out 1).trans rfl,(Zb BK255.out 2).trans rfl,(Zb BK255.out 3).trans rfl,(Zb BK255.out 4).trans rfl,(Zb BK255.out 5).trans rfl,(Zb BK255.out 6).trans rfl,(Zb BK255.out 7).trans rfl⟩ (fun hHeld => ?_)
    clear hK K
    refine norm_ (a':=?_) ?_ ?_
    rotate_left
    ·show Act.put _ (some 22) _=_
     simp only [Act.put,List.setIfInBounds_toArray,List.set_cons_zero,List.set_cons_succ,i64_w,i32_w]
     rfl
    refine one_ (i:=5) (N:=some 23) #[true,true,true,true,true,true,false,false,false,false,false,false,false,false,false,false,false] rfl rfl (one_of HT_.out (by kernel_rfl)) (by decide) (fun K hK => ?_)
    refine goes_ Tryd.func25 (by kernel_rfl) rfl #[.agg #[.int .i64 t258,.int .i64 t259,.int .i64 t260,.int .i64 t261,.int .i64 t262,.int .i64 t263,.int .i64 t264,.int .u8 t265]] (by rfl) rfl rfl (by (try simp only [List.map_toArray,List.map_cons,List.map_nil]);first|done|rfl|(simp only [List.length_drop,List.length_take];rfl)) ?_
    with_reducible refine (Zx.calls k t258 t259 t260 t261 t262 t263 t264 t265 t266 _ A11.out).mono ?_
    rintro e w16 ⟨rfl,hb⟩
    refine ⟨_,rfl,?_⟩
    have n0_:=Zf.mk (Zw (g:=gb255) (o:=.cells #[.int .i64 a0_0,.int .i64 a0_1,.int .i64 a0_2,.int .i64 a0_3,.int .i64 a0_4,.int .i64 a0_5,.int .i64 a0_6,.int .u8 a0_7] 48 (0,0)) (by (with_reducible repeat (first|refine Zk ?_ _|refine Zn ?_|refine Zl ?_ _));exact BK255.out) hb)
    have n1_:=Zf.mk (Zm (by repeat (first|(with_reducible first|exact HB.out|apply Ze|apply Zc|apply Zd|refine Zg ?_ GE255.out)|exact HB.out)) hb)
    clear BK255
    clear HB
    have BK255:=n0_
    have HB:=n1_
    clear n0_ n1_
    (try clear hb)
    (try clear hb2)
    (try clear hk)
    (try clear hi)
    refine hK.out _ _ ⟨(Zb BK255.out 0).trans rfl,(Zb BK255.out 1).trans rfl,(Zb BK255.out 2).trans rfl,(Zb BK255.out 3).trans rfl,(Zb BK255.out 4).trans rfl,(Zb BK255.out 5).trans rfl,(Zb BK255.out 6).trans rfl,(Zb BK255.out 7).trans rfl⟩ (fun hHeld => ?_)
    clear hK K
    refine norm_ (a':=?_) ?_ ?_
    rotate_left
    ·show Act.put _ (some 23) _=_
     simp only [Act.put,List.setIfInBounds_toArray,List.set_cons_zero,List.set_cons_succ,i64_w,i32_w]
     rfl
    refine pure_ (i:=6) (N:=some 24) (v:=?_) (a':=?_) #[true,true,true,true,true,true,true,false,false,false,false,false,false,false,false,false,false] rfl rfl (any_of HT_.out (by kernel_rfl)) (fun _ _ _ h => h) (Or.inl ⟨by rfl,?_⟩) ?_ ?_
    rotate_left
    ·intro w'
     go_simp
     with_reducible rfl
    rotate_left
    ·simp only [Act.put,List.setIfInBounds_toArray,List.set_cons_zero,List.set_cons_succ,i64_w,i32_w]
     rfl
    refine pure_ (i:=7) (N:=some 25) (v:=?_) (a':=?_) #[true,true,true,true,true,true,true,true,false,false,false,false,false,false,false,false,false] rfl rfl (any_of HT_.out (by kernel_rfl)) (fun _ _ _ h => h) (Or.inl ⟨by rfl,?_⟩) ?_ ?_
    rotate_left
    ·intro w'
     go_simp
     with_reducible rfl
    rotate_left
    ·simp only [Act.put,List.setIfInBounds_toArray,List.set_cons_zero,List.set_cons_succ,i64_w,i32_w]
     rfl
    refine pure_ (i:=8) (N:=some 26) (v:=undef) (a':=?_) #[true,true,true,true,true,true,true,true,true,false,false,false,false,false,false,false,false] rfl rfl (any_of HT_.out (by kernel_rfl)) (fun _ _ _ h => h) (Or.inr ⟨by rfl,rfl⟩) ?_ ?_
    rotate_left
    ·simp only [Act.put,List.setIfInBounds_toArray,List.set_cons_zero,List.set_cons_succ,i64_w,i32_w]
     rfl
    refine pure_ (i:=9) (N:=some 27) (v:=undef) (a':=?_) #[true,true,true,true,true,true,true,true,true,true,false,false,false,false,false,false,false] rfl rfl (any_of HT_.out (by kernel_rfl)) (fun _ _ _ h => h) (Or.inr ⟨by rfl,rfl⟩) ?_ ?_
    rotate_left
    ·simp only [Act.put,List.setIfInBounds_toArray,List.set_cons_zero,List.set_cons_succ,i64_w,i32_w]
     rfl
    refine pure_ (i:=10) (N:=some 28) (v:=undef) (a':=?_) #[true,true,true,true,true,true,true,true,true,true,true,false,false,false,false,false,false] rfl rfl (any_of HT_.out (by kernel_rfl)) (fun _ _ _ h => h) (Or.inr ⟨by rfl,rfl⟩) ?_ ?_
    rotate_left
    ·simp only [Act.put,List.setIfInBounds_toArray,List.set_cons_zero,List.set_cons_succ,i64_w,i32_w]
     rfl
    refine pure_ (i:=11) (N:=some 29) (v:=undef) (a':=?_) #[true,true,true,true,true,true,true,true,true,true,true,true,false,false,false,false,false] rfl rfl (any_of HT_.out (by kernel_rfl)) (fun _ _ _ h => h) (Or.inr ⟨by rfl,rfl⟩) ?_ ?_
    rotate_left
    ·simp only [Act.put,List.setIfInBounds_toArray,List.set_cons_zero,List.set_cons_succ,i64_w,i32_w]
     rfl
    refine pure_ (i:=12) (N:=some 30) (v:=undef) (a':=?_) #[true,true,true,true,true,true,true,true,true,true,true,true,true,false,false,false,false] rfl rfl (any_of HT_.out (by kernel_rfl)) (fun _ _ _ h => h) (Or.inr ⟨by rfl,rfl⟩) ?_ ?_
    rotate_left
    ·simp only [Act.put,List.setIfInBounds_toArray,List.set_cons_zero,List.set_cons_succ,i64_w,i32_w]
     rfl
    refine pure_ (i:=13) (N:=some 31) (v:=undef) (a':=?_) #[true,true,true,true,true,true,true,true,true,true,true,true,true,true,false,false,false] rfl rfl (any_of HT_.out (by kernel_rfl)) (fun _ _ _ h => h) (Or.inr ⟨by rfl,rfl⟩) ?_ ?_
    rotate_left
    ·simp only [Act.put,List.setIfInBounds_toArray,List.set_cons_zero,List.set_cons_succ,i64_w,i32_w]
     rfl
    refine pure_ (i:=14) (N:=some 32) (v:=undef) (a':=?_) #[true,true,true,true,true,true,true,true,true,true,true,true,true,true,true,false,false] rfl rfl (any_of HT_.out (by kernel_rfl)) (fun _ _ _ h => h) (Or.inr ⟨by rfl,rfl⟩) ?_ ?_
    rotate_left
    ·simp only [Act.put,List.setIfInBounds_toArray,List.set_cons_zero,List.set_cons_succ,i64_w,i32_w]
     rfl
    refine pure_ (i:=15) (N:=some 33) (v:=undef) (a':=?_) #[true,true,true,true,true,true,true,true,true,true,true,true,true,true,true,true,false] rfl rfl (any_of HT_.out (by kernel_rfl)) (fun _ _ _ h => h) (Or.inr ⟨by rfl,rfl⟩) ?_ ?_
    rotate_left
    ·simp only [Act.put,List.setIfInBounds_toArray,List.set_cons_zero,List.set_cons_succ,i64_w,i32_w]
     rfl
    refine pure_ (i:=16) (N:=some 34) (v:=?_) (a':=?_) #[true,true,true,true,true,true,true,true,true,true,true,true,true,true,true,true,true] rfl rfl (any_of HT_.out (by kernel_rfl)) (fun _ _ _ h => h) (Or.inl ⟨by rfl,?_⟩) ?_ ?_
    rotate_left
    ·intro w'
     go_simp
     with_reducible rfl
    rotate_left
    ·simp only [Act.put,List.setIfInBounds_toArray,List.set_cons_zero,List.set_cons_succ,i64_w,i32_w]
     rfl
    refine done_ (done_of HT_.out (by kernel_rfl)) ?_
    try go_wp2
    go_meet
    case rel => exact ⟨_,(true),(by first|rfl|(simp;done)|(simp [*];done)),H',⟨by first|omega|exact Nat.le_refl _⟩,⟨by (with_reducible repeat (first|refine Zk ?_ _|refine Zn ?_|refine Zl ?_ _));exact BK255.out⟩,⟨by repeat (first|(with_reducible first|exact HB.out|apply Ze|apply Zc|apply Zd|refine Zg ?_ GE255.out)|exact HB.out)⟩⟩
   ·rw [if_neg c12] at H
    have c12b0 : ((t257 == 0) != t266)=false:=by simpa using c12
    (try (have c12b1 : decide ((t257 == 0)=t266)=true:=by simpa using c12))
    (try (have c12b2 : ((t257 == 0) == t266)=true:=by simpa using c12))
    clear c12
    (first|rw [c12b0]|rw [c12b1]|(simp only [i64_w,i32_w];rw [c12b0])|skip)
    replace H:=Option.bind_eq_some_iff.mp H
    obtain ⟨t267,A170,H⟩:=H
    replace H : (if t267=0 then (Zj.j0 k l1 a2 false a0_0 a0_1 a0_2 a0_3 a0_4 a0_5 a0_6 a0_7) else ((Yg.f a0_0 a0_1 a0_2 a0_3 a0_4 a0_5 a0_6 a0_7).bind fun t268 => (Zj.j0 k l1 a2 (t268 != 144) a0_0 a0_1 a0_2 a0_3 a0_4 a0_5 a0_6 a0_7)))=some r:=H
    have A17:=Zf.mk A170
    clear A170
    by_cases c18 : t267=0
    ·rw [if_pos c18] at H
     have c18b0 : (t267 == 0)=true:=beq_iff_eq.mpr c18
     have c18b1 : (t267 != 0)=false:=bne_eq_false_iff_eq.mpr c18
     clear c18
     have H':=Zf.mk H
     clear H
     try go_wp2
     have n0_:=Zf.mk (Zn BK255.out)
     have n1_:=Zf.mk (Zd HB.out)
     clear BK255
     clear HB
     have BK255:=n0_
     have HB:=n1_
     clear n0_ n1_
     refine start_ (n:=17) (S:=fun w' => w'.cell? ⟨gb255,0,none⟩=some (.int .i64 a0_0)∧w'.cell? ⟨gb255,1,none⟩=some (.int .i64 a0_1)∧w'.cell? ⟨gb255,2,none⟩=some (.int .i64 a0_2)∧w'.cell? ⟨gb255,3,none⟩=some (.int .i64 a0_3)∧w'.cell? ⟨gb255,4,none⟩=some (.int .i64 a0_4)∧w'.cell? ⟨gb255,5,none⟩=some (.int .i64 a0_5)∧w'.cell? ⟨gb255,6,none⟩=some (.int .i64 a0_6)∧w'.cell? ⟨gb255,7,none⟩=some (.int .u8 a0_7)) (ds:=[]) #[false,false,false,false,false,false,false,false,false,false,false,false,false,false,false,false,false] (by kernel_rfl) rfl rfl ⟨(Zb BK255.out 0).trans rfl,(Zb BK255.out 1).trans rfl,(Zb BK255.out 2).trans rfl,(Zb BK255.out 3).trans rfl,(Zb BK255.out 4).trans rfl,(Zb BK255.out 5).trans rfl,(Zb BK255.out 6).trans rfl,(Zb BK255.out 7).trans rfl⟩ (fun hHeld => ?_);refine with_tabW Zj.tab3 Zj.bits3 (fun HT_ HW_ => ?_)
     generalize w8.drew=w19 at BK255 HB hHeld ⊢
     refine take_ (i:=0) (N:=some 18) (v:=?_) (a':=?_) #[true,false,false,false,false,false,false,false,false,false,false,false,false,false,false,false,false] rfl rfl (take_ofW HT_.out HW_.out (by kernel_rfl)) (fun _ _ _ h => h) (Or.inl ⟨by rfl,?_⟩) hHeld ?_ ?_
     rotate_left
     ·rintro w' ⟨s0,s1,s2,s3,s4,s5,s6,s7⟩
      go_simp
      with_reducible rfl
     rotate_left
     ·simp only [Act.put,List.setIfInBounds_toArray,List.set_cons_zero,List.set_cons_succ,i64_w,i32_w]
      rfl
     refine take_ (i:=3) (N:=some 21) (v:=?_) (a':=?_) #[true,false,false,true,false,false,false,false,false,false,false,false,false,false,false,false,false] rfl rfl (take_ofW HT_.out HW_.out (by kernel_rfl)) (fun _ _ _ h => h) (Or.inl ⟨by rfl,?_⟩) hHeld ?_ ?_
     rotate_left
     ·rintro w' ⟨s0,s1,s2,s3,s4,s5,s6,s7⟩
      go_simp
      with_reducible rfl
     rotate_left
     ·simp only [Act.put,List.setIfInBounds_toArray,List.set_cons_zero,List.set_cons_succ,i64_w,i32_w]
      rfl
     refine one_ (i:=1) (N:=some 19) #[true,true,false,true,false,false,false,false,false,false,false,false,false,false,false,false,false] rfl rfl (one_of HT_.out (by kernel_rfl)) (by decide) (fun K hK => ?_)
     refine goes_ Tryd.func24 (by kernel_rfl) rfl #[.agg #[.int .i64 a0_0,.int .i64 a0_1,.int .i64 a0_2,.int .i64 a0_3,.int .i64 a0_4,.int .i64 a0_5,.int .i64 a0_6,.int .u8 a0_7]] (by rfl) rfl rfl (by (try simp only [List.map_toArray,List.map_cons,List.map_nil]);first|done|rfl|(simp only [List.length_drop,List.length_take];rfl)) ?_
     with_reducible refine (Yg.calls a0_0 a0_1 a0_2 a0_3 a0_4 a0_5 a0_6 a0_7 t257 _ A9.out).mono ?_
     rintro e w20 ⟨rfl,hb⟩
     refine ⟨_,rfl,?_⟩
     have n0_:=Zf.mk (Zw (g:=gb255) (o:=.cells #[.int .i64 a0_0,.int .i64 a0_1,.int .i64 a0_2,.int .i64 a0_3,.int .i64 a0_4,.int .i64 a0_5,.int .i64 a0_6,.int .u8 a0_7] 48 (0,0)) (by (with_reducible repeat (first|refine Zk ?_ _|refine Zn ?_|refine Zl ?_ _));exact BK255.out) hb)
     have n1_:=Zf.mk (Zm (by repeat (first|(with_reducible first|exact HB.out|apply Ze|apply Zc|apply Zd|refine Zg ?_ GE255.out)|exact HB.out)) hb)
     clear BK255
     clear HB
     have BK255:=n0_
     have HB:=n1_
     clear n0_ n1_
     (try clear hb)
     (try clear hb2)
     (try clear hk)
     (try clear hi)
     refine hK.out _ _ ⟨(Zb BK255.out 0).trans rfl,(Zb BK255.out 1).trans rfl,(Zb BK255.out 2).trans rfl,(Zb BK255.out 3).trans rfl,(Zb BK255.out 4).trans rfl,(Zb BK255.out 5).trans rfl,(Zb BK255.out 6).trans rfl,(Zb BK255.out 7).trans rfl⟩ (fun hHeld => ?_)
     clear hK K
     refine norm_ (a':=?_) ?_ ?_
     rotate_left
     ·show Act.put _ (some 19) _=_
      simp only [Act.put,List.setIfInBounds_toArray,List.set_cons_zero,List.set_cons_succ,i64_w,i32_w]
      rfl
     refine pure_ (i:=2) (N:=some 20) (v:=?_) (a':=?_) #[true,true,true,true,false,false,false,false,false,false,false,false,false,false,false,false,false] rfl rfl (any_of HT_.out (by kernel_rfl)) (fun _ _ _ h => h) (Or.inl ⟨by rfl,?_⟩) ?_ ?_
     rotate_left
     ·intro w'
      go_simp
      with_reducible rfl
     rotate_left
     ·simp only [Act.put,List.setIfInBounds_toArray,List.set_cons_zero,List.set_cons_succ,i64_w,i32_w]
      rfl
     refine one_ (i:=4) (N:=some 22) #[true,true,true,true,true,false,false,false,false,false,false,false,false,false,false,false,false] rfl rfl (one_of HT_.out (by kernel_rfl)) (by decide) (fun K hK => ?_)
     refine goes_ Tryd.func26 (by kernel_rfl) rfl #[.agg #[.int .i64 a0_0,.int .i64 a0_1,.int .i64 a0_2,.int .i64 a0_3,.int .i64 a0_4,.int .i64 a0_5,.int .i64 a0_6,.int .u8 a0_7]] (by rfl) rfl rfl (by (try simp only [List.map_toArray,List.map_cons,List.map_nil]);first|done|rfl|(simp only [List.length_drop,List.length_take];rfl)) ?_
     with_reducible refine (Z8.calls a0_0 a0_1 a0_2 a0_3 a0_4 a0_5 a0_6 a0_7 t258 t259 t260 t261 t262 t263 t264 t265 _ A10.out).mono ?_
     rintro e w21 ⟨rfl,hb⟩
     refine ⟨_,rfl,?_⟩
     have n0_:=Zf.mk (Zw (g:=gb255) (o:=.cells #[.int .i64 a0_0,.int .i64 a0_1,.int .i64 a0_2,.int .i64 a0_3,.int .i64 a0_4,.int .i64 a0_5,.int .i64 a0_6,.int .u8 a0_7] 48 (0,0)) (by (with_reducible repeat (first|refine Zk ?_ _|refine Zn ?_|refine Zl ?_ _));exact BK255.out) hb)
     have n1_:=Zf.mk (Zm (by repeat (first|(with_reducible first|exact HB.out|apply Ze|apply Zc|apply Zd|refine Zg ?_ GE255.out)|exact HB.out)) hb)
     clear BK255
     clear HB
     have BK255:=n0_
     have HB:=n1_
     clear n0_ n1_
     (try clear hb)
     (try clear hb2)
     (try clear hk)
     (try clear hi)
     refine hK.out _ _ ⟨(Zb BK255.out 0).trans rfl,(Zb BK255.out 1).trans rfl,(Zb BK255.out 2).trans rfl,(Zb BK255.out 3).trans rfl,(Zb BK255.out 4).trans rfl,(Zb BK255.out 5).trans rfl,(Zb BK255.out 6).trans rfl,(Zb BK255.out 7).trans rfl⟩ (fun hHeld => ?_)
     clear hK K
     refine norm_ (a':=?_) ?_ ?_
     rotate_left
     ·show Act.put _ (some 22) _=_
      simp only [Act.put,List.setIfInBounds_toArray,List.set_cons_zero,List.set_cons_succ,i64_w,i32_w]
      rfl
     refine one_ (i:=5) (N:=some 23) #[true,true,true,true,true,true,false,false,false,false,false,false,false,false,false,false,false] rfl rfl (one_of HT_.out (by kernel_rfl)) (by decide) (fun K hK => ?_)
     refine goes_ Tryd.func25 (by kernel_rfl) rfl #[.agg #[.int .i64 t258,.int .i64 t259,.int .i64 t260,.int .i64 t261,.int .i64 t262,.int .i64 t263,.int .i64 t264,.int .u8 t265]] (by rfl) rfl rfl (by (try simp only [List.map_toArray,List.map_cons,List.map_nil]);first|done|rfl|(simp only [List.length_drop,List.length_take];rfl)) ?_
     with_reducible refine (Zx.calls k t258 t259 t260 t261 t262 t263 t264 t265 t266 _ A11.out).mono ?_
     rintro e w22 ⟨rfl,hb⟩
     refine ⟨_,rfl,?_⟩
     have n0_:=Zf.mk (Zw (g:=gb255) (o:=.cells #[.int .i64 a0_0,.int .i64 a0_1,.int .i64 a0_2,.int .i64 a0_3,.int .i64 a0_4,.int .i64 a0_5,.int .i64 a0_6,.int .u8 a0_7] 48 (0,0)) (by (with_reducible repeat (first|refine Zk ?_ _|refine Zn ?_|refine Zl ?_ _));exact BK255.out) hb)
     have n1_:=Zf.mk (Zm (by repeat (first|(with_reducible first|exact HB.out|apply Ze|apply Zc|apply Zd|refine Zg ?_ GE255.out)|exact HB.out)) hb)
     clear BK255
     clear HB
     have BK255:=n0_
     have HB:=n1_
     clear n0_ n1_
     (try clear hb)
     (try clear hb2)
     (try clear hk)
     (try clear hi)
     refine hK.out _ _ ⟨(Zb BK255.out 0).trans rfl,(Zb BK255.out 1).trans rfl,(Zb BK255.out 2).trans rfl,(Zb BK255.out 3).trans rfl,(Zb BK255.out 4).trans rfl,(Zb BK255.out 5).trans rfl,(Zb BK255.out 6).trans rfl,(Zb BK255.out 7).trans rfl⟩ (fun hHeld => ?_)
     clear hK K
     refine norm_ (a':=?_) ?_ ?_
     rotate_left
     ·show Act.put _ (some 23) _=_
      simp only [Act.put,List.setIfInBounds_toArray,List.set_cons_zero,List.set_cons_succ,i64_w,i32_w]
      rfl
     refine pure_ (i:=6) (N:=some 24) (v:=?_) (a':=?_) #[true,true,true,true,true,true,true,false,false,false,false,false,false,false,false,false,false] rfl rfl (any_of HT_.out (by kernel_rfl)) (fun _ _ _ h => h) (Or.inl ⟨by rfl,?_⟩) ?_ ?_
     rotate_left
     ·intro w'
      go_simp
      with_reducible rfl
     rotate_left
     ·simp only [Act.put,List.setIfInBounds_toArray,List.set_cons_zero,List.set_cons_succ,i64_w,i32_w]
      rfl
     refine pure_ (i:=7) (N:=some 25) (v:=?_) (a':=?_) #[true,true,true,true,true,true,true,true,false,false,false,false,false,false,false,false,false] rfl rfl (any_of HT_.out (by kernel_rfl)) (fun _ _ _ h => h) (Or.inl ⟨by rfl,?_⟩) ?_ ?_
     rotate_left
     ·intro w'
      go_simp
      with_reducible rfl
     rotate_left
     ·simp only [Act.put,List.setIfInBounds_toArray,List.set_cons_zero,List.set_cons_succ,i64_w,i32_w]
      rfl
     refine take_ (i:=8) (N:=some 26) (v:=?_) (a':=?_) #[true,true,true,true,true,true,true,true,true,false,false,false,false,false,false,false,false] rfl rfl (take_ofW HT_.out HW_.out (by kernel_rfl)) (fun _ _ _ h => h) (Or.inl ⟨by rfl,?_⟩) hHeld ?_ ?_
     rotate_left
     ·rintro w' ⟨s0,s1,s2,s3,s4,s5,s6,s7⟩
      go_simp
      with_reducible rfl
     rotate_left
     ·simp only [Act.put,List.setIfInBounds_toArray,List.set_cons_zero,List.set_cons_succ,i64_w,i32_w]
      rfl
     refine one_ (i:=9) (N:=some 27) #[true,true,true,true,true,true,true,true,true,true,false,false,false,false,false,false,false] rfl rfl (one_of HT_.out (by kernel_rfl)) (by decide) (fun K hK => ?_)
     refine goes_ Tryd.func24 (by kernel_rfl) rfl #[.agg #[.int .i64 a0_0,.int .i64 a0_1,.int .i64 a0_2,.int .i64 a0_3,.int .i64 a0_4,.int .i64 a0_5,.int .i64 a0_6,.int .u8 a0_7]] (by rfl) rfl rfl (by (try simp only [List.map_toArray,List.map_cons,List.map_nil]);first|done|rfl|(simp only [List.length_drop,List.length_take];rfl)) ?_
     with_reducible refine (Yg.calls a0_0 a0_1 a0_2 a0_3 a0_4 a0_5 a0_6 a0_7 t267 _ A17.out).mono ?_
     rintro e w23 ⟨rfl,hb⟩
     refine ⟨_,rfl,?_⟩
     have n0_:=Zf.mk (Zw (g:=gb255) (o:=.cells #[.int .i64 a0_0,.int .i64 a0_1,.int .i64 a0_2,.int .i64 a0_3,.int .i64 a0_4,.int .i64 a0_5,.int .i64 a0_6,.int .u8 a0_7] 48 (0,0)) (by (with_reducible repeat (first|refine Zk ?_ _|refine Zn ?_|refine Zl ?_ _));exact BK255.out) hb)
     have n1_:=Zf.mk (Zm (by repeat (first|(with_reducible first|exact HB.out|apply Ze|apply Zc|apply Zd|refine Zg ?_ GE255.out)|exact HB.out)) hb)
     clear BK255
     clear HB
     have BK255:=n0_
     have HB:=n1_
     clear n0_ n1_
     (try clear hb)
     (try clear hb2)
     (try clear hk)
     (try clear hi)
     refine hK.out _ _ ⟨(Zb BK255.out 0).trans rfl,(Zb BK255.out 1).trans rfl,(Zb BK255.out 2).trans rfl,(Zb BK255.out 3).trans rfl,(Zb BK255.out 4).trans rfl,(Zb BK255.out 5).trans rfl,(Zb BK255.out 6).trans rfl,(Zb BK255.out 7).trans rfl⟩ (fun hHeld => ?_)
     clear hK K
     refine norm_ (a':=?_) ?_ ?_
     rotate_left
     ·show Act.put _ (some 27) _=_
      simp only [Act.put,List.setIfInBounds_toArray,List.set_cons_zero,List.set_cons_succ,i64_w,i32_w]
      rfl
     refine pure_ (i:=10) (N:=some 28) (v:=?_) (a':=?_) #[true,true,true,true,true,true,true,true,true,true,true,false,false,false,false,false,false] rfl rfl (any_of HT_.out (by kernel_rfl)) (fun _ _ _ h => h) (Or.inl ⟨by rfl,?_⟩) ?_ ?_
     rotate_left
     ·intro w'
      go_simp
      with_reducible rfl
     rotate_left
     ·simp only [Act.put,List.setIfInBounds_toArray,List.set_cons_zero,List.set_cons_succ,i64_w,i32_w]
      rfl
     refine pure_ (i:=11) (N:=some 29) (v:=?_) (a':=?_) #[true,true,true,true,true,true,true,true,true,true,true,true,false,false,false,false,false] rfl rfl (any_of HT_.out (by kernel_rfl)) (fun _ _ _ h => h) (Or.inl ⟨by rfl,?_⟩) ?_ ?_
     rotate_left
     ·intro w'
      go_simp
      with_reducible rfl
     rotate_left
     ·simp only [Act.put,List.setIfInBounds_toArray,List.set_cons_zero,List.set_cons_succ,i64_w,i32_w]
      rfl
     refine pure_ (i:=12) (N:=some 30) (v:=undef) (a':=?_) #[true,true,true,true,true,true,true,true,true,true,true,true,true,false,false,false,false] rfl rfl (any_of HT_.out (by kernel_rfl)) (fun _ _ _ h => h) (Or.inr ⟨by rfl,rfl⟩) ?_ ?_
     rotate_left
     ·simp only [Act.put,List.setIfInBounds_toArray,List.set_cons_zero,List.set_cons_succ,i64_w,i32_w]
      rfl
     refine pure_ (i:=13) (N:=some 31) (v:=undef) (a':=?_) #[true,true,true,true,true,true,true,true,true,true,true,true,true,true,false,false,false] rfl rfl (any_of HT_.out (by kernel_rfl)) (fun _ _ _ h => h) (Or.inr ⟨by rfl,rfl⟩) ?_ ?_
     rotate_left
     ·simp only [Act.put,List.setIfInBounds_toArray,List.set_cons_zero,List.set_cons_succ,i64_w,i32_w]
      rfl
     refine pure_ (i:=14) (N:=some 32) (v:=undef) (a':=?_) #[true,true,true,true,true,true,true,true,true,true,true,true,true,true,true,false,false] rfl rfl (any_of HT_.out (by kernel_rfl)) (fun _ _ _ h => h) (Or.inr ⟨by rfl,rfl⟩) ?_ ?_
     rotate_left
     ·simp only [Act.put,List.setIfInBounds_toArray,List.set_cons_zero,List.set_cons_succ,i64_w,i32_w]
      rfl
     refine pure_ (i:=15) (N:=some 33) (v:=?_) (a':=?_) #[true,true,true,true,true,true,true,true,true,true,true,true,true,true,true,true,false] rfl rfl (any_of HT_.out (by kernel_rfl)) (fun _ _ _ h => h) (Or.inl ⟨by rfl,?_⟩) ?_ ?_
     rotate_left
     ·intro w'
      go_simp
      with_reducible rfl
     rotate_left
     ·simp only [Act.put,List.setIfInBounds_toArray,List.set_cons_zero,List.set_cons_succ,i64_w,i32_w]
      rfl
     refine pure_ (i:=16) (N:=some 34) (v:=?_) (a':=?_) #[true,true,true,true,true,true,true,true,true,true,true,true,true,true,true,true,true] rfl rfl (any_of HT_.out (by kernel_rfl)) (fun _ _ _ h => h) (Or.inl ⟨by rfl,?_⟩) ?_ ?_
     rotate_left
     ·intro w'
      go_simp
      with_reducible rfl
     rotate_left
     ·simp only [Act.put,List.setIfInBounds_toArray,List.set_cons_zero,List.set_cons_succ,i64_w,i32_w]
      rfl
     refine done_ (done_of HT_.out (by kernel_rfl)) ?_
     try go_wp2
     go_meet
     case rel => exact ⟨_,(false),(by first|rfl|(simp;done)|(simp [*];done)),H',⟨by first|omega|exact Nat.le_refl _⟩,⟨by (with_reducible repeat (first|refine Zk ?_ _|refine Zn ?_|refine Zl ?_ _));exact BK255.out⟩,⟨by repeat (first|(with_reducible first|exact HB.out|apply Ze|apply Zc|apply Zd|refine Zg ?_ GE255.out)|exact HB.out)⟩⟩
    ·rw [if_neg c18] at H
     have c18b0 : (t267 == 0)=false:=beq_eq_false_iff_ne.mpr c18
     have c18b1 : (t267 != 0)=true:=bne_iff_ne.mpr c18
     replace H:=Option.bind_eq_some_iff.mp H
     obtain ⟨t268,A240,H⟩:=H
     replace H : (Zj.j0 k l1 a2 (t268 != 144) a0_0 a0_1 a0_2 a0_3 a0_4 a0_5 a0_6 a0_7)=some r:=H
     have A24:=Zf.mk A240
     clear A240
     have H':=Zf.mk H
     clear H
     try go_wp2
     have n0_:=Zf.mk (Zn BK255.out)
     have n1_:=Zf.mk (Zd HB.out)
     clear BK255
     clear HB
     have BK255:=n0_
     have HB:=n1_
     clear n0_ n1_
     refine start_ (n:=17) (S:=fun w' => w'.cell? ⟨gb255,0,none⟩=some (.int .i64 a0_0)∧w'.cell? ⟨gb255,1,none⟩=some (.int .i64 a0_1)∧w'.cell? ⟨gb255,2,none⟩=some (.int .i64 a0_2)∧w'.cell? ⟨gb255,3,none⟩=some (.int .i64 a0_3)∧w'.cell? ⟨gb255,4,none⟩=some (.int .i64 a0_4)∧w'.cell? ⟨gb255,5,none⟩=some (.int .i64 a0_5)∧w'.cell? ⟨gb255,6,none⟩=some (.int .i64 a0_6)∧w'.cell? ⟨gb255,7,none⟩=some (.int .u8 a0_7)) (ds:=[]) #[false,false,false,false,false,false,false,false,false,false,false,false,false,false,false,false,false] (by kernel_rfl) rfl rfl ⟨(Zb BK255.out 0).trans rfl,(Zb BK255.out 1).trans rfl,(Zb BK255.out 2).trans rfl,(Zb BK255.out 3).trans rfl,(Zb BK255.out 4).trans rfl,(Zb BK255.out 5).trans rfl,(Zb BK255.out 6).trans rfl,(Zb BK255.out 7).trans rfl⟩ (fun hHeld => ?_);refine with_tabW Zj.tab3 Zj.bits3 (fun HT_ HW_ => ?_)
     generalize w8.drew=w25 at BK255 HB hHeld ⊢
     refine take_ (i:=0) (N:=some 18) (v:=?_) (a':=?_) #[true,false,false,false,false,false,false,false,false,false,false,false,false,false,false,false,false] rfl rfl (take_ofW HT_.out HW_.out (by kernel_rfl)) (fun _ _ _ h => h) (Or.inl ⟨by rfl,?_⟩) hHeld ?_ ?_
     rotate_left
     ·rintro w' ⟨s0,s1,s2,s3,s4,s5,s6,s7⟩
      go_simp
      with_reducible rfl
     rotate_left
     ·simp only [Act.put,List.setIfInBounds_toArray,List.set_cons_zero,List.set_cons_succ,i64_w,i32_w]
      rfl
     refine take_ (i:=3) (N:=some 21) (v:=?_) (a':=?_) #[true,false,false,true,false,false,false,false,false,false,false,false,false,false,false,false,false] rfl rfl (take_ofW HT_.out HW_.out (by kernel_rfl)) (fun _ _ _ h => h) (Or.inl ⟨by rfl,?_⟩) hHeld ?_ ?_
     rotate_left
     ·rintro w' ⟨s0,s1,s2,s3,s4,s5,s6,s7⟩
      go_simp
      with_reducible rfl
     rotate_left
     ·simp only [Act.put,List.setIfInBounds_toArray,List.set_cons_zero,List.set_cons_succ,i64_w,i32_w]
      rfl
     refine one_ (i:=1) (N:=some 19) #[true,true,false,true,false,false,false,false,false,false,false,false,false,false,false,false,false] rfl rfl (one_of HT_.out (by kernel_rfl)) (by decide) (fun K hK => ?_)
     refine goes_ Tryd.func24 (by kernel_rfl) rfl #[.agg #[.int .i64 a0_0,.int .i64 a0_1,.int .i64 a0_2,.int .i64 a0_3,.int .i64 a0_4,.int .i64 a0_5,.int .i64 a0_6,.int .u8 a0_7]] (by rfl) rfl rfl (by (try simp only [List.map_toArray,List.map_cons,List.map_nil]);first|done|rfl|(simp only [List.length_drop,List.length_take];rfl)) ?_
     with_reducible refine (Yg.calls a0_0 a0_1 a0_2 a0_3 a0_4 a0_5 a0_6 a0_7 t257 _ A9.out).mono ?_
     rintro e w26 ⟨rfl,hb⟩
     refine ⟨_,rfl,?_⟩
     have n0_:=Zf.mk (Zw (g:=gb255) (o:=.cells #[.int .i64 a0_0,.int .i64 a0_1,.int .i64 a0_2,.int .i64 a0_3,.int .i64 a0_4,.int .i64 a0_5,.int .i64 a0_6,.int .u8 a0_7] 48 (0,0)) (by (with_reducible repeat (first|refine Zk ?_ _|refine Zn ?_|refine Zl ?_ _));exact BK255.out) hb)
     have n1_:=Zf.mk (Zm (by repeat (first|(with_reducible first|exact HB.out|apply Ze|apply Zc|apply Zd|refine Zg ?_ GE255.out)|exact HB.out)) hb)
     clear BK255
     clear HB
     have BK255:=n0_
     have HB:=n1_
     clear n0_ n1_
     (try clear hb)
     (try clear hb2)
     (try clear hk)
     (try clear hi)
     refine hK.out _ _ ⟨(Zb BK255.out 0).trans rfl,(Zb BK255.out 1).trans rfl,(Zb BK255.out 2).trans rfl,(Zb BK255.out 3).trans rfl,(Zb BK255.out 4).trans rfl,(Zb BK255.out 5).trans rfl,(Zb BK255.out 6).trans rfl,(Zb BK255.out 7).trans rfl⟩ (fun hHeld => ?_)
     clear hK K
     refine norm_ (a':=?_) ?_ ?_
     rotate_left
     ·show Act.put _ (some 19) _=_
      simp only [Act.put,List.setIfInBounds_toArray,List.set_cons_zero,List.set_cons_succ,i64_w,i32_w]
      rfl
     refine pure_ (i:=2) (N:=some 20) (v:=?_) (a':=?_) #[true,true,true,true,false,false,false,false,false,false,false,false,false,false,false,false,false] rfl rfl (any_of HT_.out (by kernel_rfl)) (fun _ _ _ h => h) (Or.inl ⟨by rfl,?_⟩) ?_ ?_
     rotate_left
     ·intro w'
      go_simp
      with_reducible rfl
     rotate_left
     ·simp only [Act.put,List.setIfInBounds_toArray,List.set_cons_zero,List.set_cons_succ,i64_w,i32_w]
      rfl
     refine one_ (i:=4) (N:=some 22) #[true,true,true,true,true,false,false,false,false,false,false,false,false,false,false,false,false] rfl rfl (one_of HT_.out (by kernel_rfl)) (by decide) (fun K hK => ?_)
     refine goes_ Tryd.func26 (by kernel_rfl) rfl #[.agg #[.int .i64 a0_0,.int .i64 a0_1,.int .i64 a0_2,.int .i64 a0_3,.int .i64 a0_4,.int .i64 a0_5,.int .i64 a0_6,.int .u8 a0_7]] (by rfl) rfl rfl (by (try simp only [List.map_toArray,List.map_cons,List.map_nil]);first|done|rfl|(simp only [List.length_drop,List.length_take];rfl)) ?_
     with_reducible refine (Z8.calls a0_0 a0_1 a0_2 a0_3 a0_4 a0_5 a0_6 a0_7 t258 t259 t260 t261 t262 t263 t264 t265 _ A10.out).mono ?_
     rintro e w27 ⟨rfl,hb⟩
     refine ⟨_,rfl,?_⟩
     have n0_:=Zf.mk (Zw (g:=gb255) (o:=.cells #[.int .i64 a0_0,.int .i64 a0_1,.int .i64 a0_2,.int .i64 a0_3,.int .i64 a0_4,.int .i64 a0_5,.int .i64 a0_6,.int .u8 a0_7] 48 (0,0)) (by (with_reducible repeat (first|refine Zk ?_ _|refine Zn ?_|refine Zl ?_ _));exact BK255.out) hb)
     have n1_:=Zf.mk (Zm (by repeat (first|(with_reducible first|exact HB.out|apply Ze|apply Zc|apply Zd|refine Zg ?_ GE255.out)|exact HB.out)) hb)
     clear BK255
     clear HB
     have BK255:=n0_
     have HB:=n1_
     clear n0_ n1_
     (try clear hb)
     (try clear hb2)
     (try clear hk)
     (try clear hi)
     refine hK.out _ _ ⟨(Zb BK255.out 0).trans rfl,(Zb BK255.out 1).trans rfl,(Zb BK255.out 2).trans rfl,(Zb BK255.out 3).trans rfl,(Zb BK255.out 4).trans rfl,(Zb BK255.out 5).trans rfl,(Zb BK255.out 6).trans rfl,(Zb BK255.out 7).trans rfl⟩ (fun hHeld => ?_)
     clear hK K
     refine norm_ (a':=?_) ?_ ?_
     rotate_left
     ·show Act.put _ (some 22) _=_
      simp only [Act.put,List.setIfInBounds_toArray,List.set_cons_zero,List.set_cons_succ,i64_w,i32_w]
      rfl
     refine one_ (i:=5) (N:=some 23) #[true,true,true,true,true,true,false,false,false,false,false,false,false,false,false,false,false] rfl rfl (one_of HT_.out (by kernel_rfl)) (by decide) (fun K hK => ?_)
     refine goes_ Tryd.func25 (by kernel_rfl) rfl #[.agg #[.int .i64 t258,.int .i64 t259,.int .i64 t260,.int .i64 t261,.int .i64 t262,.int .i64 t263,.int .i64 t264,.int .u8 t265]] (by rfl) rfl rfl (by (try simp only [List.map_toArray,List.map_cons,List.map_nil]);first|done|rfl|(simp only [List.length_drop,List.length_take];rfl)) ?_
     with_reducible refine (Zx.calls k t258 t259 t260 t261 t262 t263 t264 t265 t266 _ A11.out).mono ?_
     rintro e w28 ⟨rfl,hb⟩
     refine ⟨_,rfl,?_⟩
     have n0_:=Zf.mk (Zw (g:=gb255) (o:=.cells #[.int .i64 a0_0,.int .i64 a0_1,.int .i64 a0_2,.int .i64 a0_3,.int .i64 a0_4,.int .i64 a0_5,.int .i64 a0_6,.int .u8 a0_7] 48 (0,0)) (by (with_reducible repeat (first|refine Zk ?_ _|refine Zn ?_|refine Zl ?_ _));exact BK255.out) hb)
     have n1_:=Zf.mk (Zm (by repeat (first|(with_reducible first|exact HB.out|apply Ze|apply Zc|apply Zd|refine Zg ?_ GE255.out)|exact HB.out)) hb)
     clear BK255
     clear HB
     have BK255:=n0_
     have HB:=n1_
     clear n0_ n1_
     (try clear hb)
     (try clear hb2)
     (try clear hk)
     (try clear hi)
     refine hK.out _ _ ⟨(Zb BK255.out 0).trans rfl,(Zb BK255.out 1).trans rfl,(Zb BK255.out 2).trans rfl,(Zb BK255.out 3).trans rfl,(Zb BK255.out 4).trans rfl,(Zb BK255.out 5).trans rfl,(Zb BK255.out 6).trans rfl,(Zb BK255.out 7).trans rfl⟩ (fun hHeld => ?_)
     clear hK K
     refine norm_ (a':=?_) ?_ ?_
     rotate_left
     ·show Act.put _ (some 23) _=_
      simp only [Act.put,List.setIfInBounds_toArray,List.set_cons_zero,List.set_cons_succ,i64_w,i32_w]
      rfl
     refine pure_ (i:=6) (N:=some 24) (v:=?_) (a':=?_) #[true,true,true,true,true,true,true,false,false,false,false,false,false,false,false,false,false] rfl rfl (any_of HT_.out (by kernel_rfl)) (fun _ _ _ h => h) (Or.inl ⟨by rfl,?_⟩) ?_ ?_
     rotate_left
     ·intro w'
      go_simp
      with_reducible rfl
     rotate_left
     ·simp only [Act.put,List.setIfInBounds_toArray,List.set_cons_zero,List.set_cons_succ,i64_w,i32_w]
      rfl
     refine pure_ (i:=7) (N:=some 25) (v:=?_) (a':=?_) #[true,true,true,true,true,true,true,true,false,false,false,false,false,false,false,false,false] rfl rfl (any_of HT_.out (by kernel_rfl)) (fun _ _ _ h => h) (Or.inl ⟨by rfl,?_⟩) ?_ ?_
     rotate_left
     ·intro w'
      go_simp
      with_reducible rfl
     rotate_left
     ·simp only [Act.put,List.setIfInBounds_toArray,List.set_cons_zero,List.set_cons_succ,i64_w,i32_w]
      rfl
     refine take_ (i:=8) (N:=some 26) (v:=?_) (a':=?_) #[true,true,true,true,true,true,true,true,true,false,false,false,false,false,false,false,false] rfl rfl (take_ofW HT_.out HW_.out (by kernel_rfl)) (fun _ _ _ h => h) (Or.inl ⟨by rfl,?_⟩) hHeld ?_ ?_
     rotate_left
     ·rintro w' ⟨s0,s1,s2,s3,s4,s5,s6,s7⟩
      go_simp
      with_reducible rfl
     rotate_left
     ·simp only [Act.put,List.setIfInBounds_toArray,List.set_cons_zero,List.set_cons_succ,i64_w,i32_w]
      rfl
     refine one_ (i:=9) (N:=some 27) #[true,true,true,true,true,true,true,true,true,true,false,false,false,false,false,false,false] rfl rfl (one_of HT_.out (by kernel_rfl)) (by decide) (fun K hK => ?_)
     refine goes_ Tryd.func24 (by kernel_rfl) rfl #[.agg #[.int .i64 a0_0,.int .i64 a0_1,.int .i64 a0_2,.int .i64 a0_3,.int .i64 a0_4,.int .i64 a0_5,.int .i64 a0_6,.int .u8 a0_7]] (by rfl) rfl rfl (by (try simp only [List.map_toArray,List.map_cons,List.map_nil]);first|done|rfl|(simp only [List.length_drop,List.length_take];rfl)) ?_
     with_reducible refine (Yg.calls a0_0 a0_1 a0_2 a0_3 a0_4 a0_5 a0_6 a0_7 t267 _ A17.out).mono ?_
     rintro e w29 ⟨rfl,hb⟩
     refine ⟨_,rfl,?_⟩
     have n0_:=Zf.mk (Zw (g:=gb255) (o:=.cells #[.int .i64 a0_0,.int .i64 a0_1,.int .i64 a0_2,.int .i64 a0_3,.int .i64 a0_4,.int .i64 a0_5,.int .i64 a0_6,.int .u8 a0_7] 48 (0,0)) (by (with_reducible repeat (first|refine Zk ?_ _|refine Zn ?_|refine Zl ?_ _));exact BK255.out) hb)
     have n1_:=Zf.mk (Zm (by repeat (first|(with_reducible first|exact HB.out|apply Ze|apply Zc|apply Zd|refine Zg ?_ GE255.out)|exact HB.out)) hb)
     clear BK255
     clear HB
     have BK255:=n0_
     have HB:=n1_
     clear n0_ n1_
     (try clear hb)
     (try clear hb2)
     (try clear hk)
     (try clear hi)
     refine hK.out _ _ ⟨(Zb BK255.out 0).trans rfl,(Zb BK255.out 1).trans rfl,(Zb BK255.out 2).trans rfl,(Zb BK255.out 3).trans rfl,(Zb BK255.out 4).trans rfl,(Zb BK255.out 5).trans rfl,(Zb BK255.out 6).trans rfl,(Zb BK255.out 7).trans rfl⟩ (fun hHeld => ?_)
     clear hK K
     refine norm_ (a':=?_) ?_ ?_
     rotate_left
     ·show Act.put _ (some 27) _=_
      simp only [Act.put,List.setIfInBounds_toArray,List.set_cons_zero,List.set_cons_succ,i64_w,i32_w]
      rfl
     refine pure_ (i:=10) (N:=some 28) (v:=?_) (a':=?_) #[true,true,true,true,true,true,true,true,true,true,true,false,false,false,false,false,false] rfl rfl (any_of HT_.out (by kernel_rfl)) (fun _ _ _ h => h) (Or.inl ⟨by rfl,?_⟩) ?_ ?_
     rotate_left
     ·intro w'
      go_simp
      with_reducible rfl
     rotate_left
     ·simp only [Act.put,List.setIfInBounds_toArray,List.set_cons_zero,List.set_cons_succ,i64_w,i32_w]
      rfl
     refine pure_ (i:=11) (N:=some 29) (v:=?_) (a':=?_) #[true,true,true,true,true,true,true,true,true,true,true,true,false,false,false,false,false] rfl rfl (any_of HT_.out (by kernel_rfl)) (fun _ _ _ h => h) (Or.inl ⟨by rfl,?_⟩) ?_ ?_
     rotate_left
     ·intro w'
      go_simp
      with_reducible rfl
     rotate_left
     ·simp only [Act.put,List.setIfInBounds_toArray,List.set_cons_zero,List.set_cons_succ,i64_w,i32_w]
      rfl
     refine take_ (i:=12) (N:=some 30) (v:=?_) (a':=?_) #[true,true,true,true,true,true,true,true,true,true,true,true,true,false,false,false,false] rfl rfl (take_ofW HT_.out HW_.out (by kernel_rfl)) (fun _ _ _ h => h) (Or.inl ⟨by rfl,?_⟩) hHeld ?_ ?_
     rotate_left
     ·rintro w' ⟨s0,s1,s2,s3,s4,s5,s6,s7⟩
      go_simp
      with_reducible rfl
     rotate_left
     ·simp only [Act.put,List.setIfInBounds_toArray,List.set_cons_zero,List.set_cons_succ,i64_w,i32_w]
      rfl
     refine one_ (i:=13) (N:=some 31) #[true,true,true,true,true,true,true,true,true,true,true,true,true,true,false,false,false] rfl rfl (one_of HT_.out (by kernel_rfl)) (by decide) (fun K hK => ?_)
     refine goes_ Tryd.func24 (by kernel_rfl) rfl #[.agg #[.int .i64 a0_0,.int .i64 a0_1,.int .i64 a0_2,.int .i64 a0_3,.int .i64 a0_4,.int .i64 a0_5,.int .i64 a0_6,.int .u8 a0_7]] (by rfl) rfl rfl (by (try simp only [List.map_toArray,List.map_cons,List.map_nil]);first|done|rfl|(simp only [List.length_drop,List.length_take];rfl)) ?_
     with_reducible refine (Yg.calls a0_0 a0_1 a0_2 a0_3 a0_4 a0_5 a0_6 a0_7 t268 _ A24.out).mono ?_
     rintro e w30 ⟨rfl,hb⟩
     refine ⟨_,rfl,?_⟩
     have n0_:=Zf.mk (Zw (g:=gb255) (o:=.cells #[.int .i64 a0_0,.int .i64 a0_1,.int .i64 a0_2,.int .i64 a0_3,.int .i64 a0_4,.int .i64 a0_5,.int .i64 a0_6,.int .u8 a0_7] 48 (0,0)) (by (with_reducible repeat (first|refine Zk ?_ _|refine Zn ?_|refine Zl ?_ _));exact BK255.out) hb)
     have n1_:=Zf.mk (Zm (by repeat (first|(with_reducible first|exact HB.out|apply Ze|apply Zc|apply Zd|refine Zg ?_ GE255.out)|exact HB.out)) hb)
     clear BK255
     clear HB
     have BK255:=n0_
     have HB:=n1_
     clear n0_ n1_
     (try clear hb)
     (try clear hb2)
     (try clear hk)
     (try clear hi)
     refine hK.out _ _ ⟨(Zb BK255.out 0).trans rfl,(Zb BK255.out 1).trans rfl,(Zb BK255.out 2).trans rfl,(Zb BK255.out 3).trans rfl,(Zb BK255.out 4).trans rfl,(Zb BK255.out 5).trans rfl,(Zb BK255.out 6).trans rfl,(Zb BK255.out 7).trans rfl⟩ (fun hHeld => ?_)
     clear hK K
     refine norm_ (a':=?_) ?_ ?_
     rotate_left
     ·show Act.put _ (some 31) _=_
      simp only [Act.put,List.setIfInBounds_toArray,List.set_cons_zero,List.set_cons_succ,i64_w,i32_w]
      rfl
     refine pure_ (i:=14) (N:=some 32) (v:=?_) (a':=?_) #[true,true,true,true,true,true,true,true,true,true,true,true,true,true,true,false,false] rfl rfl (any_of HT_.out (by kernel_rfl)) (fun _ _ _ h => h) (Or.inl ⟨by rfl,?_⟩) ?_ ?_
     rotate_left
     ·intro w'
      go_simp
      with_reducible rfl
     rotate_left
     ·simp only [Act.put,List.setIfInBounds_toArray,List.set_cons_zero,List.set_cons_succ,i64_w,i32_w]
      rfl
     refine pure_ (i:=15) (N:=some 33) (v:=?_) (a':=?_) #[true,true,true,true,true,true,true,true,true,true,true,true,true,true,true,true,false] rfl rfl (any_of HT_.out (by kernel_rfl)) (fun _ _ _ h => h) (Or.inl ⟨by rfl,?_⟩) ?_ ?_
     rotate_left
     ·intro w'
      go_simp
      with_reducible rfl
     rotate_left
     ·simp only [Act.put,List.setIfInBounds_toArray,List.set_cons_zero,List.set_cons_succ,i64_w,i32_w]
      rfl
     refine pure_ (i:=16) (N:=some 34) (v:=?_) (a':=?_) #[true,true,true,true,true,true,true,true,true,true,true,true,true,true,true,true,true] rfl rfl (any_of HT_.out (by kernel_rfl)) (fun _ _ _ h => h) (Or.inl ⟨by rfl,?_⟩) ?_ ?_
     rotate_left
     ·intro w'
      go_simp
      with_reducible rfl
     rotate_left
     ·simp only [Act.put,List.setIfInBounds_toArray,List.set_cons_zero,List.set_cons_succ,i64_w,i32_w]
      rfl
     refine done_ (done_of HT_.out (by kernel_rfl)) ?_
     try go_wp2
     go_meet
     case rel => exact ⟨_,((t268 != 144)),(by first|rfl|(simp;done)|(simp [*];done)),H',⟨by first|omega|exact Nat.le_refl _⟩,⟨by (with_reducible repeat (first|refine Zk ?_ _|refine Zn ?_|refine Zl ?_ _));exact BK255.out⟩,⟨by repeat (first|(with_reducible first|exact HB.out|apply Ze|apply Zc|apply Zd|refine Zg ?_ GE255.out)|exact HB.out)⟩⟩
  case rest =>
   clear HC6
   try clear c1
   try clear c2
   try clear p2
   try clear c12
   try clear c12b0
   try clear c12b1
   try clear c12b2
   try clear c18
   try clear c18b0
   try clear c18b1
   try clear c24
   try clear c25
   try clear c26
   obtain ⟨kq,x34_5,rfl,HA,HJ5,BK255,HB⟩:=hcut
   cases kq with
   | zero => exact absurd HA.out (by simp [Zj.j0])
   | succ kj5 =>
    have H:=HA.out
    clear HA
    simp only [Zj.j0] at H
    by_cases c31 : x34_5=true
    ·subst c31
     have H1 : (some false)=some r:=by rw [if_pos rfl] at H;exact H
     clear H
     have H:=H1
     clear H1
     obtain rfl:=Option.some.inj H
     go_wp2
     go_ret
     exact ⟨by first|rfl|(simp [Zp,Zq] <;> rfl)|(simp [*,Zp,Zq] <;> rfl),by repeat (first|(with_reducible first|exact HB.out|apply Ze|apply Zc|apply Zd|refine Zg ?_ GE255.out)|exact HB.out)⟩
    ·replace c31:=Bool.eq_false_iff.mpr c31
     subst c31
     have H1 : ((some (([] : List Int) : List Int)).bind fun y269 => (if y269.length + l1.length < 35184372088832 then ((some (y269++l1 : List Int)).bind fun y272 => ((puny_EncodeBy.f kj5 a0_0 a0_1 a0_2 a0_3 a0_4 a0_5 a0_6 a0_7 y272).bind fun bt275 => ((Z8.f a0_0 a0_1 a0_2 a0_3 a0_4 a0_5 a0_6 a0_7).bind fun bt278 => ((Zh.f kj5 bt278.1 bt278.2.1 bt278.2.2.1 bt278.2.2.2.1 bt278.2.2.2.2.1 bt278.2.2.2.2.2.1 bt278.2.2.2.2.2.2.1 bt278.2.2.2.2.2.2.2 l1).bind fun bt286 => (if bt275.1.toList=bt286.1.toList then (if bt275.2.1=bt286.2.1 then (if bt275.2.2=bt286.2.2 then ((Z5.f kj5 y272 l1).bind fun t289 => (Zj.j1 kj5 a2 (!t289) a0_0 a0_1 a0_2 a0_3 a0_4 a0_5 a0_6 a0_7)) else (Zj.j1 kj5 a2 true a0_0 a0_1 a0_2 a0_3 a0_4 a0_5 a0_6 a0_7)) else (Zj.j1 kj5 a2 true a0_0 a0_1 a0_2 a0_3 a0_4 a0_5 a0_6 a0_7)) else (Zj.j1 kj5 a2 true a0_0 a0_1 a0_2 a0_3 a0_4 a0_5 a0_6 a0_7)))))) else (none)))=some r:=by rw [if_neg (show ¬ (false=true) by decide)] at H;exact H
     clear H
     have H:=H1
     clear H1
     obtain ⟨y269,hy269⟩ : ∃ y_ : List Int,y_=(([] : List Int)):=⟨_,rfl⟩
     replace H : (if y269.length + l1.length < 35184372088832 then ((some (y269++l1 : List Int)).bind fun y272 => ((puny_EncodeBy.f kj5 a0_0 a0_1 a0_2 a0_3 a0_4 a0_5 a0_6 a0_7 y272).bind fun bt275 => ((Z8.f a0_0 a0_1 a0_2 a0_3 a0_4 a0_5 a0_6 a0_7).bind fun bt278 => ((Zh.f kj5 bt278.1 bt278.2.1 bt278.2.2.1 bt278.2.2.2.1 bt278.2.2.2.2.1 bt278.2.2.2.2.2.1 bt278.2.2.2.2.2.2.1 bt278.2.2.2.2.2.2.2 l1).bind fun bt286 => (if bt275.1.toList=bt286.1.toList then (if bt275.2.1=bt286.2.1 then (if bt275.2.2=bt286.2.2 then ((Z5.f kj5 y272 l1).bind fun t289 => (Zj.j1 kj5 a2 (!t289) a0_0 a0_1 a0_2 a0_3 a0_4 a0_5 a0_6 a0_7)) else (Zj.j1 kj5 a2 true a0_0 a0_1 a0_2 a0_3 a0_4 a0_5 a0_6 a0_7)) else (Zj.j1 kj5 a2 true a0_0 a0_1 a0_2 a0_3 a0_4 a0_5 a0_6 a0_7)) else (Zj.j1 kj5 a2 true a0_0 a0_1 a0_2 a0_3 a0_4 a0_5 a0_6 a0_7)))))) else (none))=some r:=by first|(rw [hy269];with_reducible exact H)|(have H2_:=(Option.bind_some _ _).symm.trans H;rw [hy269];with_reducible exact H2_)|(have H2_:=(Option.bind_some _ _).symm.trans H;with_reducible exact H2_)|with_reducible exact H|(rw [hy269];exact H)|exact H
     have Ny269:=Zf.mk hy269
     clear hy269
     by_cases c32 : y269.length + l1.length < 35184372088832
     ·rw [if_pos c32] at H
      have LMc32:=Zf.mk c32
      clear c32
      obtain ⟨y272,hy272⟩ : ∃ y_ : List Int,y_=(y269++l1):=⟨_,rfl⟩
      replace H : ((puny_EncodeBy.f kj5 a0_0 a0_1 a0_2 a0_3 a0_4 a0_5 a0_6 a0_7 y272).bind fun bt275 => ((Z8.f a0_0 a0_1 a0_2 a0_3 a0_4 a0_5 a0_6 a0_7).bind fun bt278 => ((Zh.f kj5 bt278.1 bt278.2.1 bt278.2.2.1 bt278.2.2.2.1 bt278.2.2.2.2.1 bt278.2.2.2.2.2.1 bt278.2.2.2.2.2.2.1 bt278.2.2.2.2.2.2.2 l1).bind fun bt286 => (if bt275.1.toList=bt286.1.toList then (if bt275.2.1=bt286.2.1 then (if bt275.2.2=bt286.2.2 then ((Z5.f kj5 y272 l1).bind fun t289 => (Zj.j1 kj5 a2 (!t289) a0_0 a0_1 a0_2 a0_3 a0_4 a0_5 a0_6 a0_7)) else (Zj.j1 kj5 a2 true a0_0 a0_1 a0_2 a0_3 a0_4 a0_5 a0_6 a0_7)) else (Zj.j1 kj5 a2 true a0_0 a0_1 a0_2 a0_3 a0_4 a0_5 a0_6 a0_7)) else (Zj.j1 kj5 a2 true a0_0 a0_1 a0_2 a0_3 a0_4 a0_5 a0_6 a0_7)))))=some r:=by first|(rw [hy272];with_reducible exact H)|(have H2_:=(Option.bind_some _ _).symm.trans H;rw [hy272];with_reducible exact H2_)|(have H2_:=(Option.bind_some _ _).symm.trans H;with_reducible exact H2_)|with_reducible exact H|(rw [hy272];exact H)|exact H
      have Ny272:=Zf.mk hy272
      clear hy272
      replace H:=Option.bind_eq_some_iff.mp H
      obtain ⟨⟨t275,t276,t277⟩,A330,H⟩:=H
      replace H : ((Z8.f a0_0 a0_1 a0_2 a0_3 a0_4 a0_5 a0_6 a0_7).bind fun bt278 => ((Zh.f kj5 bt278.1 bt278.2.1 bt278.2.2.1 bt278.2.2.2.1 bt278.2.2.2.2.1 bt278.2.2.2.2.2.1 bt278.2.2.2.2.2.2.1 bt278.2.2.2.2.2.2.2 l1).bind fun bt286 => (if t275.toList=bt286.1.toList then (if t276=bt286.2.1 then (if t277=bt286.2.2 then ((Z5.f kj5 y272 l1).bind fun t289 => (Zj.j1 kj5 a2 (!t289) a0_0 a0_1 a0_2 a0_3 a0_4 a0_5 a0_6 a0_7)) else (Zj.j1 kj5 a2 true a0_0 a0_1 a0_2 a0_3 a0_4 a0_5 a0_6 a0_7)) else (Zj.j1 kj5 a2 true a0_0 a0_1 a0_2 a0_3 a0_4 a0_5 a0_6 a0_7)) else (Zj.j1 kj5 a2 true a0_0 a0_1 a0_2 a0_3 a0_4 a0_5 a0_6 a0_7))))=some r:=H
      have A33:=Zf.mk A330
      clear A330
      replace H:=Option.bind_eq_some_iff.mp H
      obtain ⟨⟨t278,t279,t280,t281,t282,t283,t284,t285⟩,A340,H⟩:=H
      replace H : ((Zh.f kj5 t278 t279 t280 t281 t282 t283 t284 t285 l1).bind fun bt286 => (if t275.toList=bt286.1.toList then (if t276=bt286.2.1 then (if t277=bt286.2.2 then ((Z5.f kj5 y272 l1).bind fun t289 => (Zj.j1 kj5 a2 (!t289) a0_0 a0_1 a0_2 a0_3 a0_4 a0_5 a0_6 a0_7)) else (Zj.j1 kj5 a2 true a0_0 a0_1 a0_2 a0_3 a0_4 a0_5 a0_6 a0_7)) else (Zj.j1 kj5 a2 true a0_0 a0_1 a0_2 a0_3 a0_4 a0_5 a0_6 a0_7)) else (Zj.j1 kj5 a2 true a0_0 a0_1 a0_2 a0_3 a0_4 a0_5 a0_6 a0_7)))=some r:=H
      have A34:=Zf.mk A340
      clear A340
      replace H:=Option.bind_eq_some_iff.mp H
      obtain ⟨⟨t286,t287,t288⟩,A350,H⟩:=H
      replace H : (if t275.toList=t286.toList then (if t276=t287 then (if t277=t288 then ((Z5.f kj5 y272 l1).bind fun t289 => (Zj.j1 kj5 a2 (!t289) a0_0 a0_1 a0_2 a0_3 a0_4 a0_5 a0_6 a0_7)) else (Zj.j1 kj5 a2 true a0_0 a0_1 a0_2 a0_3 a0_4 a0_5 a0_6 a0_7)) else (Zj.j1 kj5 a2 true a0_0 a0_1 a0_2 a0_3 a0_4 a0_5 a0_6 a0_7)) else (Zj.j1 kj5 a2 true a0_0 a0_1 a0_2 a0_3 a0_4 a0_5 a0_6 a0_7))=some r:=H
      have A35:=Zf.mk A350
      clear A350
      have HC36:=Zf.mk H
      clear H
      go_upto_region 8 with (first|((with_reducible refine Yh (N:=35) rfl ?_);refine Kd.R_lit (Kd.int .i32) _ 21 ?hg (N:=35) ?hd (xs:=([] : List Int)) (inner:=[]) (ok:=fun _ => True) (okp:=fun _ => True) ?hr ?hp (fun _ hk => hk) trivial (Below.refl _ _) (Nat.le_refl _) (by simp) ?_;(case hd => rfl);(case hg => rfl);(case hr => first|(go_simp;done)|(go_simp;rfl));(case hp => exact (Reps.none _ _));intro v270 w37 ho38 hb hg_ hnew_;clear hg_ hnew_;(first|rw [← Ny269.out] at ho38|(simp only [Int.reduceToNat] at ho38;rw [← Ny269.out] at ho38));have n0_:=Zf.mk (Kd.R_lower ho38 (Zo (by repeat (first|(with_reducible first|exact HB.out|apply Ze|apply Zc|apply Zd|refine Zg ?_ GE255.out)|exact HB.out))));have n1_:=Zf.mk (Zw (g:=gb255) (o:=.cells #[.int .i64 a0_0,.int .i64 a0_1,.int .i64 a0_2,.int .i64 a0_3,.int .i64 a0_4,.int .i64 a0_5,.int .i64 a0_6,.int .u8 a0_7] 48 (0,0)) (by (with_reducible repeat (first|refine Zk ?_ _|refine Zn ?_|refine Zl ?_ _));exact BK255.out) hb);have n2_:=Zf.mk (Zm (by repeat (first|(with_reducible first|exact HB.out|apply Ze|apply Zc|apply Zd|refine Zg ?_ GE255.out)|exact HB.out)) hb);clear BK255;clear HB;have HO271:=n0_;have BK255:=n1_;have HB:=n2_;clear n0_ n1_ n2_;clear hb ho38)|((with_reducible refine gate_builtin (b:=.append) (xs:=#[.tmp 35,.tmp 36]) rfl ?_);at_builtin;refine Kd.R_append_rows (Kd.int .i32) (w0:=w) w.heap.size rfl (.tmp 35) (.tmp 36) 22 21 (.int .i32 0) 4 rfl Tryd.underlying22 info21 rfl (by decide) (by omega) v270 y269 l1 _ _ _ (fun _ => True) (fun _ => False) rfl rfl ?aO ?aR (fun _ _ h => h) (fun _ h => h.elim) ?aF ?aB ?aS ?aL ?_;(case aR => repeat (first|exact (Kd.C_below HR1.out HB.out)|(with_reducible refine Kd.C_alloc ?_ _)|(with_reducible refine Kd.C_drewN ?_ _)|(with_reducible refine Kd.C_drew ?_)));(case aB => exact (by repeat (first|(with_reducible first|exact HB.out|apply Ze|apply Zc|apply Zd|refine Zg ?_ GE255.out)|exact HB.out)));(case aF => exact (fun _ _ => trivial));(case aO => exact (by (with_reducible repeat (first|apply Kd.Zv|apply Kd.Zu|apply Kd.Zz));exact HO271.out));(case aS => exact (Zo (by repeat (first|(with_reducible first|exact HB.out|apply Ze|apply Zc|apply Zd|refine Zg ?_ GE255.out)|exact HB.out))));(case aL => have:=LMc32.out;omega);intro v273 w39 ho hb hg hat;rw [← Ny272.out] at ho;have n0_:=Zf.mk (blk_grown (g:=gb255) (o:=.cells #[.int .i64 a0_0,.int .i64 a0_1,.int .i64 a0_2,.int .i64 a0_3,.int .i64 a0_4,.int .i64 a0_5,.int .i64 a0_6,.int .u8 a0_7] 48 (0,0)) (by (with_reducible repeat (first|refine Zk ?_ _|refine Zn ?_|refine Zl ?_ _));exact BK255.out) hg (Kd.R_ne HO271.out BK255.out (by decide)));have n1_:=Zf.mk (hb);have n2_:=Zf.mk (ho);clear BK255;clear HB;clear HO271;have BK255:=n0_;have HB:=n1_;have HO274:=n2_;clear n0_ n1_ n2_;clear ho hb hg hat;have hcz40_0 : w39.cell? ⟨gb255,0,none⟩=some (.int .i64 a0_0):=(Zb BK255.out 0).trans rfl;have hcz40_1 : w39.cell? ⟨gb255,1,none⟩=some (.int .i64 a0_1):=(Zb BK255.out 1).trans rfl;have hcz40_2 : w39.cell? ⟨gb255,2,none⟩=some (.int .i64 a0_2):=(Zb BK255.out 2).trans rfl;have hcz40_3 : w39.cell? ⟨gb255,3,none⟩=some (.int .i64 a0_3):=(Zb BK255.out 3).trans rfl;have hcz40_4 : w39.cell? ⟨gb255,4,none⟩=some (.int .i64 a0_4):=(Zb BK255.out 4).trans rfl;have hcz40_5 : w39.cell? ⟨gb255,5,none⟩=some (.int .i64 a0_5):=(Zb BK255.out 5).trans rfl;have hcz40_6 : w39.cell? ⟨gb255,6,none⟩=some (.int .i64 a0_6):=(Zb BK255.out 6).trans rfl;have hcz40_7 : w39.cell? ⟨gb255,7,none⟩=some (.int .u8 a0_7):=(Zb BK255.out 7).trans rfl;have hfz40_0:=Za BK255.out 0;have hfz40_1:=Za BK255.out 1;have hfz40_2:=Za BK255.out 2;have hfz40_3:=Za BK255.out 3;have hfz40_4:=Za BK255.out 4;have hfz40_5:=Za BK255.out 5;have hfz40_6:=Za BK255.out 6;have hfz40_7:=Za BK255.out 7;obtain ⟨Ao41,co41,eo41⟩:=Kd.R_slice HO274.out;subst eo41)|((with_reducible refine Z0 (f:=27) rfl ?_);refine goesL_ (some 41) rfl rfl Tryd.func27 (by kernel_rfl) rfl #[.agg #[.int .i64 a0_0,.int .i64 a0_1,.int .i64 a0_2,.int .i64 a0_3,.int .i64 a0_4,.int .i64 a0_5,.int .i64 a0_6,.int .u8 a0_7],.slice Ao41 y272.length co41] rfl (by (try simp only [List.map_toArray,List.map_cons,List.map_nil]);first|done|rfl|(simp only [List.length_drop,List.length_take];rfl)) ?_;(with_reducible refine (puny_EncodeBy.calls kj5 a0_0 a0_1 a0_2 a0_3 a0_4 a0_5 a0_6 a0_7 _ _ y272 t275 t276 t277 _ ?side1 ?side2 A33.out (by first|exact T_|exact (Utf8Tabs_below T_ (by repeat (first|(with_reducible first|exact HB.out|apply Ze|apply Zc|apply Zd|refine Zg ?_ GE255.out)|exact HB.out))))).mono ?_);(case side1 => repeat (first|exact (Kd.R_reads' HO274.out).2.2|(with_reducible refine Kd.C_alloc ?_ _)|(with_reducible refine Kd.C_drewN ?_ _)|(with_reducible refine Kd.C_drew ?_)));(case side2 => exact (Kd.R_reads' HO274.out).2.1);rintro e w42 ⟨rfl,hb⟩;refine ⟨_,rfl,?_⟩;have n0_:=Zf.mk (Kd.Z9 (by (with_reducible repeat (first|apply Kd.Zv|apply Kd.Zu|apply Kd.Zz));exact HO274.out) hb);have n1_:=Zf.mk (Zw (g:=gb255) (o:=.cells #[.int .i64 a0_0,.int .i64 a0_1,.int .i64 a0_2,.int .i64 a0_3,.int .i64 a0_4,.int .i64 a0_5,.int .i64 a0_6,.int .u8 a0_7] 48 (0,0)) (by (with_reducible repeat (first|refine Zk ?_ _|refine Zn ?_|refine Zl ?_ _));exact BK255.out) hb);have n2_:=Zf.mk (Zm (by repeat (first|(with_reducible first|exact HB.out|apply Ze|apply Zc|apply Zd|refine Zg ?_ GE255.out)|exact HB.out)) hb);clear HO274;clear BK255;clear HB;have HO274:=n0_;have BK255:=n1_;have HB:=n2_;clear n0_ n1_ n2_;(try clear hb);(try clear hb2);(try clear hk);(try clear hi);have hcz43_0 : w42.cell? ⟨gb255,0,none⟩=some (.int .i64 a0_0):=(Zb BK255.out 0).trans rfl;have hcz43_1 : w42.cell? ⟨gb255,1,none⟩=some (.int .i64 a0_1):=(Zb BK255.out 1).trans rfl;have hcz43_2 : w42.cell? ⟨gb255,2,none⟩=some (.int .i64 a0_2):=(Zb BK255.out 2).trans rfl;have hcz43_3 : w42.cell? ⟨gb255,3,none⟩=some (.int .i64 a0_3):=(Zb BK255.out 3).trans rfl;have hcz43_4 : w42.cell? ⟨gb255,4,none⟩=some (.int .i64 a0_4):=(Zb BK255.out 4).trans rfl;have hcz43_5 : w42.cell? ⟨gb255,5,none⟩=some (.int .i64 a0_5):=(Zb BK255.out 5).trans rfl;have hcz43_6 : w42.cell? ⟨gb255,6,none⟩=some (.int .i64 a0_6):=(Zb BK255.out 6).trans rfl;have hcz43_7 : w42.cell? ⟨gb255,7,none⟩=some (.int .u8 a0_7):=(Zb BK255.out 7).trans rfl;have hfz43_0:=Za BK255.out 0;have hfz43_1:=Za BK255.out 1;have hfz43_2:=Za BK255.out 2;have hfz43_3:=Za BK255.out 3;have hfz43_4:=Za BK255.out 4;have hfz43_5:=Za BK255.out 5;have hfz43_6:=Za BK255.out 6;have hfz43_7:=Za BK255.out 7)|((with_reducible refine Z0 (f:=26) rfl ?_);refine goesL_ (some 47) rfl rfl Tryd.func26 (by kernel_rfl) rfl #[.agg #[.int .i64 a0_0,.int .i64 a0_1,.int .i64 a0_2,.int .i64 a0_3,.int .i64 a0_4,.int .i64 a0_5,.int .i64 a0_6,.int .u8 a0_7]] rfl (by (try simp only [List.map_toArray,List.map_cons,List.map_nil]);first|done|rfl|(simp only [List.length_drop,List.length_take];rfl)) ?_;(with_reducible refine (Z8.calls a0_0 a0_1 a0_2 a0_3 a0_4 a0_5 a0_6 a0_7 t278 t279 t280 t281 t282 t283 t284 t285 _ A34.out).mono ?_);rintro e w44 ⟨rfl,hb⟩;refine ⟨_,rfl,?_⟩;have n0_:=Zf.mk (Kd.Z9 (by (with_reducible repeat (first|apply Kd.Zv|apply Kd.Zu|apply Kd.Zz));exact HO274.out) hb);have n1_:=Zf.mk (Zw (g:=gb255) (o:=.cells #[.int .i64 a0_0,.int .i64 a0_1,.int .i64 a0_2,.int .i64 a0_3,.int .i64 a0_4,.int .i64 a0_5,.int .i64 a0_6,.int .u8 a0_7] 48 (0,0)) (by (with_reducible repeat (first|refine Zk ?_ _|refine Zn ?_|refine Zl ?_ _));exact BK255.out) hb);have n2_:=Zf.mk (Zm (by repeat (first|(with_reducible first|exact HB.out|apply Ze|apply Zc|apply Zd|refine Zg ?_ GE255.out)|exact HB.out)) hb);clear HO274;clear BK255;clear HB;have HO274:=n0_;have BK255:=n1_;have HB:=n2_;clear n0_ n1_ n2_;(try clear hb);(try clear hb2);(try clear hk);(try clear hi))|((with_reducible refine Z0 (f:=28) rfl ?_);refine goesL_ (some 49) rfl rfl Tryd.func28 (by kernel_rfl) rfl #[.agg #[.int .i64 t278,.int .i64 t279,.int .i64 t280,.int .i64 t281,.int .i64 t282,.int .i64 t283,.int .i64 t284,.int .u8 t285],.slice A1 l1.length c1] rfl (by (try simp only [List.map_toArray,List.map_cons,List.map_nil]);first|done|rfl|(simp only [List.length_drop,List.length_take];rfl)) ?_;(with_reducible refine (Zh.calls kj5 t278 t279 t280 t281 t282 t283 t284 t285 _ _ l1 t286 t287 t288 _ ?side1 ?side2 A35.out).mono ?_);(case side1 => repeat (first|exact (Kd.C_below HR1.out HB.out)|(with_reducible refine Kd.C_alloc ?_ _)|(with_reducible refine Kd.C_drewN ?_ _)|(with_reducible refine Kd.C_drew ?_)));(case side2 => exact HC1.out);rintro e w45 ⟨rfl,hb⟩;refine ⟨_,rfl,?_⟩;have n0_:=Zf.mk (Kd.Z9 (by (with_reducible repeat (first|apply Kd.Zv|apply Kd.Zu|apply Kd.Zz));exact HO274.out) hb);have n1_:=Zf.mk (Zw (g:=gb255) (o:=.cells #[.int .i64 a0_0,.int .i64 a0_1,.int .i64 a0_2,.int .i64 a0_3,.int .i64 a0_4,.int .i64 a0_5,.int .i64 a0_6,.int .u8 a0_7] 48 (0,0)) (by (with_reducible repeat (first|refine Zk ?_ _|refine Zn ?_|refine Zl ?_ _));exact BK255.out) hb);have n2_:=Zf.mk (Zm (by repeat (first|(with_reducible first|exact HB.out|apply Ze|apply Zc|apply Zd|refine Zg ?_ GE255.out)|exact HB.out)) hb);clear HO274;clear BK255;clear HB;have HO274:=n0_;have BK255:=n1_;have HB:=n2_;clear n0_ n1_ n2_;(try clear hb);(try clear hb2);(try clear hk);(try clear hi)))
      (try simp only [Act.put,List.setIfInBounds_toArray,List.set_cons_zero,List.set_cons_succ])
      go_cut [71] (fun v71 wc => ∃ (kq : Nat) (x71_35 : Bool),v71=.bool x71_35∧Zf (Zj.j1 kq a2 x71_35 a0_0 a0_1 a0_2 a0_3 a0_4 a0_5 a0_6 a0_7=some r)∧Zf (kq≤kj5)∧Zf (wc.heap[gb255]?=some (.cells #[.int .i64 a0_0,.int .i64 a0_1,.int .i64 a0_2,.int .i64 a0_3,.int .i64 a0_4,.int .i64 a0_5,.int .i64 a0_6,.int .u8 a0_7] 48 (0,0)))∧Zf (Below w.heap.size w wc))
      case first =>
       have H:=HC36.out
       clear HC36
       by_cases c46 : t275.toList=t286.toList
       ·rw [if_pos c46] at H
        have c46b0 : (t275.toList == t286.toList)=true:=beq_iff_eq.mpr c46
        have c46b1 : (t275.toList != t286.toList)=false:=bne_eq_false_iff_eq.mpr c46
        clear c46
        (first|rw [c46b0]|rw [c46b1]|(simp only [i64_w,i32_w];rw [c46b0])|skip)
        by_cases c47 : t276=t287
        ·rw [if_pos c47] at H
         have c47b0 : (t276 == t287)=true:=beq_iff_eq.mpr c47
         have c47b1 : (t276 != t287)=false:=bne_eq_false_iff_eq.mpr c47
         clear c47
         by_cases c48 : t277=t288
         ·rw [if_pos c48] at H
          have c48b0 : (t277 == t288)=true:=beq_iff_eq.mpr c48
          have c48b1 : (t277 != t288)=false:=bne_eq_false_iff_eq.mpr c48
          clear c48
          replace H:=Option.bind_eq_some_iff.mp H
          obtain ⟨t289,A490,H⟩:=H
          replace H : (Zj.j1 kj5 a2 (!t289) a0_0 a0_1 a0_2 a0_3 a0_4 a0_5 a0_6 a0_7)=some r:=H
          have A49:=Zf.mk A490
          clear A490
          have H':=Zf.mk H
          clear H
          go_wp2_with (first|(go_at_call 14;(with_reducible refine (Z5.calls kj5 _ _ y272 _ _ l1 t289 _ ?side1 ?side2 ?side3 ?side4 A49.out).mono ?_);(case side1 => repeat (first|exact (Kd.R_reads' HO274.out).2.2|(with_reducible refine Kd.C_alloc ?_ _)|(with_reducible refine Kd.C_drewN ?_ _)|(with_reducible refine Kd.C_drew ?_)));(case side2 => exact (Kd.R_reads' HO274.out).2.1);(case side3 => repeat (first|exact (Kd.C_below HR1.out HB.out)|(with_reducible refine Kd.C_alloc ?_ _)|(with_reducible refine Kd.C_drewN ?_ _)|(with_reducible refine Kd.C_drew ?_)));(case side4 => exact HC1.out);rintro e w' ⟨rfl,⟨nd,rfl⟩⟩))
          go_meet
          case rel => exact ⟨_,(!t289),(by first|rfl|(simp;done)|(simp [*];done)),H',⟨by have:=HJ5.out;first|omega|exact Nat.le_refl _⟩,⟨by (with_reducible repeat (first|refine Zk ?_ _|refine Zn ?_|refine Zl ?_ _));exact BK255.out⟩,⟨by repeat (first|(with_reducible first|exact HB.out|apply Ze|apply Zc|apply Zd|refine Zg ?_ GE255.out)|exact HB.out)⟩⟩
         ·rw [if_neg c48] at H
          have c48b0 : (t277 == t288)=false:=beq_eq_false_iff_ne.mpr c48
          have c48b1 : (t277 != t288)=true:=bne_iff_ne.mpr c48
          have H':=Zf.mk H
          clear H
          go_wp2
          go_meet
          case rel => exact ⟨_,(true),(by first|rfl|(simp;done)|(simp [*];done)),H',⟨by have:=HJ5.out;first|omega|exact Nat.le_refl _⟩,⟨by (with_reducible repeat (first|refine Zk ?_ _|refine Zn ?_|refine Zl ?_ _));exact BK255.out⟩,⟨by repeat (first|(with_reducible first|exact HB.out|apply Ze|apply Zc|apply Zd|refine Zg ?_ GE255.out)|exact HB.out)⟩⟩
        ·rw [if_neg c47] at H
         have c47b0 : (t276 == t287)=false:=beq_eq_false_iff_ne.mpr c47
         have c47b1 : (t276 != t287)=true:=bne_iff_ne.mpr c47
         have H':=Zf.mk H
         clear H
         go_wp2
         go_meet
         case rel => exact ⟨_,(true),(by first|rfl|(simp;done)|(simp [*];done)),H',⟨by have:=HJ5.out;first|omega|exact Nat.le_refl _⟩,⟨by (with_reducible repeat (first|refine Zk ?_ _|refine Zn ?_|refine Zl ?_ _));exact BK255.out⟩,⟨by repeat (first|(with_reducible first|exact HB.out|apply Ze|apply Zc|apply Zd|refine Zg ?_ GE255.out)|exact HB.out)⟩⟩
       ·rw [if_neg c46] at H
        have c46b0 : (t275.toList == t286.toList)=false:=beq_eq_false_iff_ne.mpr c46
        have c46b1 : (t275.toList != t286.toList)=true:=bne_iff_ne.mpr c46
        (first|rw [c46b0]|rw [c46b1]|(simp only [i64_w,i32_w];rw [c46b0])|skip)
        have H':=Zf.mk H
        clear H
        go_wp2
        go_meet
        case rel => exact ⟨_,(true),(by first|rfl|(simp;done)|(simp [*];done)),H',⟨by have:=HJ5.out;first|omega|exact Nat.le_refl _⟩,⟨by (with_reducible repeat (first|refine Zk ?_ _|refine Zn ?_|refine Zl ?_ _));exact BK255.out⟩,⟨by repeat (first|(with_reducible first|exact HB.out|apply Ze|apply Zc|apply Zd|refine Zg ?_ GE255.out)|exact HB.out)⟩⟩
      case rest =>
       clear HC36
       try clear c1
       try clear c2
       try clear p2
       try clear c3
       try clear c4
       try clear c12
       try clear c12b0
       try clear c12b1
       try clear c12b2
       try clear c18
       try clear c18b0
       try clear c18b1
       try clear c24
       try clear c25
       try clear c26
       try clear c27
       try clear c28
       try clear c31
       try clear c32
       try clear c46
       try clear c46b0
       try clear c46b1
       try clear c47
       try clear c47b0
       try clear c47b1
       try clear c48
       try clear c48b0
       try clear c48b1
       try clear hcz40_0
       try clear hcz40_1
       try clear hcz40_2
       try clear hcz40_3
       try clear hcz40_4
       try clear hcz40_5
       try clear hcz40_6
       try clear hcz40_7
       try clear hcz43_0
       try clear hcz43_1
       try clear hcz43_2
       try clear hcz43_3
       try clear hcz43_4
       try clear hcz43_5
       try clear hcz43_6
       try clear hcz43_7
       try clear hfz40_0
       try clear hfz40_1
       try clear hfz40_2
       try clear hfz40_3
       try clear hfz40_4
       try clear hfz40_5
       try clear hfz40_6
       try clear hfz40_7
       try clear hfz43_0
       try clear hfz43_1
       try clear hfz43_2
       try clear hfz43_3
       try clear hfz43_4
       try clear hfz43_5
       try clear hfz43_6
       try clear hfz43_7
       try clear p2
       obtain ⟨kq,x71_35,rfl,HA,HJ35,BK255,HB⟩:=hcut
       cases kq with
       | zero => exact absurd HA.out (by simp [Zj.j1])
       | succ kj35 =>
        have H:=HA.out
        clear HA
        simp only [Zj.j1] at H
        by_cases c50 : x71_35=true
        ·subst c50
         have H1 : (some false)=some r:=by rw [if_pos rfl] at H;exact H
         clear H
         have H:=H1
         clear H1
         obtain rfl:=Option.some.inj H
         go_wp2
         go_ret
         exact ⟨by first|rfl|(simp [Zp,Zq] <;> rfl)|(simp [*,Zp,Zq] <;> rfl),by repeat (first|(with_reducible first|exact HB.out|apply Ze|apply Zc|apply Zd|refine Zg ?_ GE255.out)|exact HB.out)⟩
        ·replace c50:=Bool.eq_false_iff.mpr c50
         subst c50
         have H1 : ((puny_DecodeBy.f a0_0 a0_1 a0_2 a0_3 a0_4 a0_5 a0_6 a0_7 a2).bind fun bt290 => ((Z8.f a0_0 a0_1 a0_2 a0_3 a0_4 a0_5 a0_6 a0_7).bind fun bt295 => ((Zi.f kj35 bt295.1 bt295.2.1 bt295.2.2.1 bt295.2.2.2.1 bt295.2.2.2.2.1 bt295.2.2.2.2.2.1 bt295.2.2.2.2.2.2.1 bt295.2.2.2.2.2.2.2 a2).bind fun bt303 => ((Z5.f kj35 bt290.1 bt303.1).bind fun t308 => (if t308=true then (if bt290.2.1=bt303.2.1 then (some (bt290.2.2 == bt303.2.2)) else (some false)) else (some false))))))=some r:=by rw [if_neg (show ¬ (false=true) by decide)] at H;exact H
         clear H
         have H:=H1
         clear H1
         replace H:=Option.bind_eq_some_iff.mp H
         obtain ⟨⟨t290,t293,t294⟩,A510,H⟩:=H
         replace H : ((Z8.f a0_0 a0_1 a0_2 a0_3 a0_4 a0_5 a0_6 a0_7).bind fun bt295 => ((Zi.f kj35 bt295.1 bt295.2.1 bt295.2.2.1 bt295.2.2.2.1 bt295.2.2.2.2.1 bt295.2.2.2.2.2.1 bt295.2.2.2.2.2.2.1 bt295.2.2.2.2.2.2.2 a2).bind fun bt303 => ((Z5.f kj35 t290 bt303.1).bind fun t308 => (if t308=true then (if t293=bt303.2.1 then (some (t294 == bt303.2.2)) else (some false)) else (some false)))))=some r:=H
         have A51:=Zf.mk A510
         clear A510
         replace H:=Option.bind_eq_some_iff.mp H
         obtain ⟨⟨t295,t296,t297,t298,t299,t300,t301,t302⟩,A520,H⟩:=H
         replace H : ((Zi.f kj35 t295 t296 t297 t298 t299 t300 t301 t302 a2).bind fun bt303 => ((Z5.f kj35 t290 bt303.1).bind fun t308 => (if t308=true then (if t293=bt303.2.1 then (some (t294 == bt303.2.2)) else (some false)) else (some false))))=some r:=H
         have A52:=Zf.mk A520
         clear A520
         replace H:=Option.bind_eq_some_iff.mp H
         obtain ⟨⟨t303,t306,t307⟩,A530,H⟩:=H
         replace H : ((Z5.f kj35 t290 t303).bind fun t308 => (if t308=true then (if t293=t306 then (some (t294 == t307)) else (some false)) else (some false)))=some r:=H
         have A53:=Zf.mk A530
         clear A530
         replace H:=Option.bind_eq_some_iff.mp H
         obtain ⟨t308,A540,H⟩:=H
         replace H : (if t308=true then (if t293=t306 then (some (t294 == t307)) else (some false)) else (some false))=some r:=H
         have A54:=Zf.mk A540
         clear A540
         by_cases c55 : t308=true
         ·subst c55
          have H1 : (if t293=t306 then (some (t294 == t307)) else (some false))=some r:=by rw [if_pos rfl] at H;exact H
          clear H
          have H:=H1
          clear H1
          by_cases c56 : t293=t306
          ·rw [if_pos c56] at H
           have c56b0 : (t293 == t306)=true:=beq_iff_eq.mpr c56
           have c56b1 : (t293 != t306)=false:=bne_eq_false_iff_eq.mpr c56
           clear c56
           obtain rfl:=Option.some.inj H
           have hcz57_0 : wc.cell? ⟨gb255,0,none⟩=some (.int .i64 a0_0):=(Zb BK255.out 0).trans rfl
           have hcz57_1 : wc.cell? ⟨gb255,1,none⟩=some (.int .i64 a0_1):=(Zb BK255.out 1).trans rfl
           have hcz57_2 : wc.cell? ⟨gb255,2,none⟩=some (.int .i64 a0_2):=(Zb BK255.out 2).trans rfl
           have hcz57_3 : wc.cell? ⟨gb255,3,none⟩=some (.int .i64 a0_3):=(Zb BK255.out 3).trans rfl
           have hcz57_4 : wc.cell? ⟨gb255,4,none⟩=some (.int .i64 a0_4):=(Zb BK255.out 4).trans rfl
           have hcz57_5 : wc.cell? ⟨gb255,5,none⟩=some (.int .i64 a0_5):=(Zb BK255.out 5).trans rfl
           have hcz57_6 : wc.cell? ⟨gb255,6,none⟩=some (.int .i64 a0_6):=(Zb BK255.out 6).trans rfl
           have hcz57_7 : wc.cell? ⟨gb255,7,none⟩=some (.int .u8 a0_7):=(Zb BK255.out 7).trans rfl
           have hfz57_0:=Za BK255.out 0
           have hfz57_1:=Za BK255.out 1
           have hfz57_2:=Za BK255.out 2
           have hfz57_3:=Za BK255.out 3
           have hfz57_4:=Za BK255.out 4
           have hfz57_5:=Za BK255.out 5
           have hfz57_6:=Za BK255.out 6
           have hfz57_7:=Za BK255.out 7
           go_wp2_with (first|((with_reducible refine Z0 (f:=29) rfl ?_);refine goesL_ (some 75) rfl rfl Tryd.func29 (by kernel_rfl) rfl #[.agg #[.int .i64 a0_0,.int .i64 a0_1,.int .i64 a0_2,.int .i64 a0_3,.int .i64 a0_4,.int .i64 a0_5,.int .i64 a0_6,.int .u8 a0_7],.string a2] rfl (by (try simp only [List.map_toArray,List.map_cons,List.map_nil]);first|done|rfl|(simp only [List.length_drop,List.length_take];rfl)) ?_;(with_reducible refine (puny_DecodeBy.calls a0_0 a0_1 a0_2 a0_3 a0_4 a0_5 a0_6 a0_7 a2 t290 t293 t294 _ A51.out (by first|exact T_|exact (Utf8Tabs_below T_ (by repeat (first|(with_reducible first|exact HB.out|apply Ze|apply Zc|apply Zd|refine Zg ?_ GE255.out)|exact HB.out))))).mono ?_);rintro e w58 ⟨v291,rfl,ho0,hb⟩;refine ⟨_,rfl,?_⟩;have n0_:=Zf.mk (Kd.R_lower ho0 (Zo (by repeat (first|(with_reducible first|exact HB.out|apply Ze|apply Zc|apply Zd|refine Zg ?_ GE255.out)|exact HB.out))));have n1_:=Zf.mk (Zw (g:=gb255) (o:=.cells #[.int .i64 a0_0,.int .i64 a0_1,.int .i64 a0_2,.int .i64 a0_3,.int .i64 a0_4,.int .i64 a0_5,.int .i64 a0_6,.int .u8 a0_7] 48 (0,0)) (by (with_reducible repeat (first|refine Zk ?_ _|refine Zn ?_|refine Zl ?_ _));exact BK255.out) hb);have n2_:=Zf.mk (Zm (by repeat (first|(with_reducible first|exact HB.out|apply Ze|apply Zc|apply Zd|refine Zg ?_ GE255.out)|exact HB.out)) hb);clear BK255;clear HB;have HO292:=n0_;have BK255:=n1_;have HB:=n2_;clear n0_ n1_ n2_;(try clear hb);(try clear hb2);(try clear hk);(try clear hi);(try clear ho0);have hcz59_0 : w58.cell? ⟨gb255,0,none⟩=some (.int .i64 a0_0):=(Zb BK255.out 0).trans rfl;have hcz59_1 : w58.cell? ⟨gb255,1,none⟩=some (.int .i64 a0_1):=(Zb BK255.out 1).trans rfl;have hcz59_2 : w58.cell? ⟨gb255,2,none⟩=some (.int .i64 a0_2):=(Zb BK255.out 2).trans rfl;have hcz59_3 : w58.cell? ⟨gb255,3,none⟩=some (.int .i64 a0_3):=(Zb BK255.out 3).trans rfl;have hcz59_4 : w58.cell? ⟨gb255,4,none⟩=some (.int .i64 a0_4):=(Zb BK255.out 4).trans rfl;have hcz59_5 : w58.cell? ⟨gb255,5,none⟩=some (.int .i64 a0_5):=(Zb BK255.out 5).trans rfl;have hcz59_6 : w58.cell? ⟨gb255,6,none⟩=some (.int .i64 a0_6):=(Zb BK255.out 6).trans rfl;have hcz59_7 : w58.cell? ⟨gb255,7,none⟩=some (.int .u8 a0_7):=(Zb BK255.out 7).trans rfl;have hfz59_0:=Za BK255.out 0;have hfz59_1:=Za BK255.out 1;have hfz59_2:=Za BK255.out 2;have hfz59_3:=Za BK255.out 3;have hfz59_4:=Za BK255.out 4;have hfz59_5:=Za BK255.out 5;have hfz59_6:=Za BK255.out 6;have hfz59_7:=Za BK255.out 7)|((with_reducible refine Z0 (f:=26) rfl ?_);refine goesL_ (some 81) rfl rfl Tryd.func26 (by kernel_rfl) rfl #[.agg #[.int .i64 a0_0,.int .i64 a0_1,.int .i64 a0_2,.int .i64 a0_3,.int .i64 a0_4,.int .i64 a0_5,.int .i64 a0_6,.int .u8 a0_7]] rfl (by (try simp only [List.map_toArray,List.map_cons,List.map_nil]);first|done|rfl|(simp only [List.length_drop,List.length_take];rfl)) ?_;(with_reducible refine (Z8.calls a0_0 a0_1 a0_2 a0_3 a0_4 a0_5 a0_6 a0_7 t295 t296 t297 t298 t299 t300 t301 t302 _ A52.out).mono ?_);rintro e w60 ⟨rfl,hb⟩;refine ⟨_,rfl,?_⟩;have n0_:=Zf.mk (Kd.Z9 (by (with_reducible repeat (first|apply Kd.Zv|apply Kd.Zu|apply Kd.Zz));exact HO292.out) hb);have n1_:=Zf.mk (Zw (g:=gb255) (o:=.cells #[.int .i64 a0_0,.int .i64 a0_1,.int .i64 a0_2,.int .i64 a0_3,.int .i64 a0_4,.int .i64 a0_5,.int .i64 a0_6,.int .u8 a0_7] 48 (0,0)) (by (with_reducible repeat (first|refine Zk ?_ _|refine Zn ?_|refine Zl ?_ _));exact BK255.out) hb);have n2_:=Zf.mk (Zm (by repeat (first|(with_reducible first|exact HB.out|apply Ze|apply Zc|apply Zd|refine Zg ?_ GE255.out)|exact HB.out)) hb);clear HO292;clear BK255;clear HB;have HO292:=n0_;have BK255:=n1_;have HB:=n2_;clear n0_ n1_ n2_;(try clear hb);(try clear hb2);(try clear hk);(try clear hi))|((with_reducible refine Z0 (f:=30) rfl ?_);refine goesL_ (some 83) rfl rfl Tryd.func30 (by kernel_rfl) rfl #[.agg #[.int .i64 t295,.int .i64 t296,.int .i64 t297,.int .i64 t298,.int .i64 t299,.int .i64 t300,.int .i64 t301,.int .u8 t302],.string a2] rfl (by (try simp only [List.map_toArray,List.map_cons,List.map_nil]);first|done|rfl|(simp only [List.length_drop,List.length_take];rfl)) ?_;(with_reducible refine (Zi.calls kj35 t295 t296 t297 t298 t299 t300 t301 t302 a2 t303 t306 t307 _ A53.out).mono ?_);rintro e w61 ⟨v304,rfl,ho0,hb⟩;refine ⟨_,rfl,?_⟩;have n0_:=Zf.mk (Kd.R_elder' (by (with_reducible repeat (first|apply Kd.Zv|apply Kd.Zu|apply Kd.Zz));exact HO292.out) (Kd.R_base ho0) hb);have n1_:=Zf.mk (Kd.R_lower (Kd.R_new' ho0 (Kd.R_lt (by (with_reducible repeat (first|apply Kd.Zv|apply Kd.Zu|apply Kd.Zz));exact HO292.out))) (Zo (by repeat (first|(with_reducible first|exact HB.out|apply Ze|apply Zc|apply Zd|refine Zg ?_ GE255.out)|exact HB.out))));have n2_:=Zf.mk (Zw (g:=gb255) (o:=.cells #[.int .i64 a0_0,.int .i64 a0_1,.int .i64 a0_2,.int .i64 a0_3,.int .i64 a0_4,.int .i64 a0_5,.int .i64 a0_6,.int .u8 a0_7] 48 (0,0)) (by (with_reducible repeat (first|refine Zk ?_ _|refine Zn ?_|refine Zl ?_ _));exact BK255.out) hb);have n3_:=Zf.mk (Zm (by repeat (first|(with_reducible first|exact HB.out|apply Ze|apply Zc|apply Zd|refine Zg ?_ GE255.out)|exact HB.out)) hb);clear HO292;clear BK255;clear HB;have HO292:=n0_;have HO305:=n1_;have BK255:=n2_;have HB:=n3_;clear n0_ n1_ n2_ n3_;(try clear hb);(try clear hb2);(try clear hk);(try clear hi);(try clear ho0);obtain ⟨Ao62,co62,eo62⟩:=Kd.R_slice HO292.out;subst eo62;obtain ⟨Ao63,co63,eo63⟩:=Kd.R_slice HO305.out;subst eo63)|((with_reducible refine Z0 (f:=14) rfl ?_);refine goesL_ (some 89) rfl rfl Tryd.func14 (by kernel_rfl) rfl #[.slice Ao62 t290.length co62,.slice Ao63 t303.length co63] rfl (by (try simp only [List.map_toArray,List.map_cons,List.map_nil]);first|done|rfl|(simp only [List.length_drop,List.length_take];rfl)) ?_;(with_reducible refine (Z5.calls kj35 _ _ t290 _ _ t303 true _ ?side1 ?side2 ?side3 ?side4 A54.out).mono ?_);(case side1 => repeat (first|exact (Kd.R_reads' HO292.out).2.2|(with_reducible refine Kd.C_alloc ?_ _)|(with_reducible refine Kd.C_drewN ?_ _)|(with_reducible refine Kd.C_drew ?_)));(case side2 => exact (Kd.R_reads' HO292.out).2.1);(case side3 => repeat (first|exact (Kd.R_reads' HO305.out).2.2|(with_reducible refine Kd.C_alloc ?_ _)|(with_reducible refine Kd.C_drewN ?_ _)|(with_reducible refine Kd.C_drew ?_)));(case side4 => exact (Kd.R_reads' HO305.out).2.1);rintro e w' ⟨rfl,⟨nd,rfl⟩⟩;refine ⟨_,rfl,?_⟩))
           go_ret
           exact ⟨by first|rfl|(simp [Zp,Zq] <;> rfl)|(simp [*,Zp,Zq] <;> rfl),by repeat (first|(with_reducible first|exact HB.out|apply Ze|apply Zc|apply Zd|refine Zg ?_ GE255.out)|exact HB.out)⟩
          ·rw [if_neg c56] at H
           have c56b0 : (t293 == t306)=false:=beq_eq_false_iff_ne.mpr c56
           have c56b1 : (t293 != t306)=true:=bne_iff_ne.mpr c56
           obtain rfl:=Option.some.inj H
           have hcz64_0 : wc.cell? ⟨gb255,0,none⟩=some (.int .i64 a0_0):=(Zb BK255.out 0).trans rfl
           have hcz64_1 : wc.cell? ⟨gb255,1,none⟩=some (.int .i64 a0_1):=(Zb BK255.out 1).trans rfl
           have hcz64_2 : wc.cell? ⟨gb255,2,none⟩=some (.int .i64 a0_2):=(Zb BK255.out 2).trans rfl
           have hcz64_3 : wc.cell? ⟨gb255,3,none⟩=some (.int .i64 a0_3):=(Zb BK255.out 3).trans rfl
           have hcz64_4 : wc.cell? ⟨gb255,4,none⟩=some (.int .i64 a0_4):=(Zb BK255.out 4).trans rfl
           have hcz64_5 : wc.cell? ⟨gb255,5,none⟩=some (.int .i64 a0_5):=(Zb BK255.out 5).trans rfl
           have hcz64_6 : wc.cell? ⟨gb255,6,none⟩=some (.int .i64 a0_6):=(Zb BK255.out 6).trans rfl
           have hcz64_7 : wc.cell? ⟨gb255,7,none⟩=some (.int .u8 a0_7):=(Zb BK255.out 7).trans rfl
           have hfz64_0:=Za BK255.out 0
           have hfz64_1:=Za BK255.out 1
           have hfz64_2:=Za BK255.out 2
           have hfz64_3:=Za BK255.out 3
           have hfz64_4:=Za BK255.out 4
           have hfz64_5:=Za BK255.out 5
           have hfz64_6:=Za BK255.out 6
           have hfz64_7:=Za BK255.out 7
           go_wp2_with (first|((with_reducible refine Z0 (f:=29) rfl ?_);refine goesL_ (some 75) rfl rfl Tryd.func29 (by kernel_rfl) rfl #[.agg #[.int .i64 a0_0,.int .i64 a0_1,.int .i64 a0_2,.int .i64 a0_3,.int .i64 a0_4,.int .i64 a0_5,.int .i64 a0_6,.int .u8 a0_7],.string a2] rfl (by (try simp only [List.map_toArray,List.map_cons,List.map_nil]);first|done|rfl|(simp only [List.length_drop,List.length_take];rfl)) ?_;(with_reducible refine (puny_DecodeBy.calls a0_0 a0_1 a0_2 a0_3 a0_4 a0_5 a0_6 a0_7 a2 t290 t293 t294 _ A51.out (by first|exact T_|exact (Utf8Tabs_below T_ (by repeat (first|(with_reducible first|exact HB.out|apply Ze|apply Zc|apply Zd|refine Zg ?_ GE255.out)|exact HB.out))))).mono ?_);rintro e w65 ⟨v291,rfl,ho0,hb⟩;refine ⟨_,rfl,?_⟩;have n0_:=Zf.mk (Kd.R_lower ho0 (Zo (by repeat (first|(with_reducible first|exact HB.out|apply Ze|apply Zc|apply Zd|refine Zg ?_ GE255.out)|exact HB.out))));have n1_:=Zf.mk (Zw (g:=gb255) (o:=.cells #[.int .i64 a0_0,.int .i64 a0_1,.int .i64 a0_2,.int .i64 a0_3,.int .i64 a0_4,.int .i64 a0_5,.int .i64 a0_6,.int .u8 a0_7] 48 (0,0)) (by (with_reducible repeat (first|refine Zk ?_ _|refine Zn ?_|refine Zl ?_ _));exact BK255.out) hb);have n2_:=Zf.mk (Zm (by repeat (first|(with_reducible first|exact HB.out|apply Ze|apply Zc|apply Zd|refine Zg ?_ GE255.out)|exact HB.out)) hb);clear BK255;clear HB;have HO292:=n0_;have BK255:=n1_;have HB:=n2_;clear n0_ n1_ n2_;(try clear hb);(try clear hb2);(try clear hk);(try clear hi);(try clear ho0);have hcz66_0 : w65.cell? ⟨gb255,0,none⟩=some (.int .i64 a0_0):=(Zb BK255.out 0).trans rfl;have hcz66_1 : w65.cell? ⟨gb255,1,none⟩=some (.int .i64 a0_1):=(Zb BK255.out 1).trans rfl;have hcz66_2 : w65.cell? ⟨gb255,2,none⟩=some (.int .i64 a0_2):=(Zb BK255.out 2).trans rfl;have hcz66_3 : w65.cell? ⟨gb255,3,none⟩=some (.int .i64 a0_3):=(Zb BK255.out 3).trans rfl;have hcz66_4 : w65.cell? ⟨gb255,4,none⟩=some (.int .i64 a0_4):=(Zb BK255.out 4).trans rfl;have hcz66_5 : w65.cell? ⟨gb255,5,none⟩=some (.int .i64 a0_5):=(Zb BK255.out 5).trans rfl;have hcz66_6 : w65.cell? ⟨gb255,6,none⟩=some (.int .i64 a0_6):=(Zb BK255.out 6).trans rfl;have hcz66_7 : w65.cell? ⟨gb255,7,none⟩=some (.int .u8 a0_7):=(Zb BK255.out 7).trans rfl;have hfz66_0:=Za BK255.out 0;have hfz66_1:=Za BK255.out 1;have hfz66_2:=Za BK255.out 2;have hfz66_3:=Za BK255.out 3;have hfz66_4:=Za BK255.out 4;have hfz66_5:=Za BK255.out 5;have hfz66_6:=Za BK255.out 6;have hfz66_7:=Za BK255.out 7)|((with_reducible refine Z0 (f:=26) rfl ?_);refine goesL_ (some 81) rfl rfl Tryd.func26 (by kernel_rfl) rfl #[.agg #[.int .i64 a0_0,.int .i64 a0_1,.int .i64 a0_2,.int .i64 a0_3,.int .i64 a0_4,.int .i64 a0_5,.int .i64 a0_6,.int .u8 a0_7]] rfl (by (try simp only [List.map_toArray,List.map_cons,List.map_nil]);first|done|rfl|(simp only [List.length_drop,List.length_take];rfl)) ?_;(with_reducible refine (Z8.calls a0_0 a0_1 a0_2 a0_3 a0_4 a0_5 a0_6 a0_7 t295 t296 t297 t298 t299 t300 t301 t302 _ A52.out).mono ?_);rintro e w67 ⟨rfl,hb⟩;refine ⟨_,rfl,?_⟩;have n0_:=Zf.mk (Kd.Z9 (by (with_reducible repeat (first|apply Kd.Zv|apply Kd.Zu|apply Kd.Zz));exact HO292.out) hb);have n1_:=Zf.mk (Zw (g:=gb255) (o:=.cells #[.int .i64 a0_0,.int .i64 a0_1,.int .i64 a0_2,.int .i64 a0_3,.int .i64 a0_4,.int .i64 a0_5,.int .i64 a0_6,.int .u8 a0_7] 48 (0,0)) (by (with_reducible repeat (first|refine Zk ?_ _|refine Zn ?_|refine Zl ?_ _));exact BK255.out) hb);have n2_:=Zf.mk (Zm (by repeat (first|(with_reducible first|exact HB.out|apply Ze|apply Zc|apply Zd|refine Zg ?_ GE255.out)|exact HB.out)) hb);clear HO292;clear BK255;clear HB;have HO292:=n0_;have BK255:=n1_;have HB:=n2_;clear n0_ n1_ n2_;(try clear hb);(try clear hb2);(try clear hk);(try clear hi))|((with_reducible refine Z0 (f:=30) rfl ?_);refine goesL_ (some 83) rfl rfl Tryd.func30 (by kernel_rfl) rfl #[.agg #[.int .i64 t295,.int .i64 t296,.int .i64 t297,.int .i64 t298,.int .i64 t299,.int .i64 t300,.int .i64 t301,.int .u8 t302],.string a2] rfl (by (try simp only [List.map_toArray,List.map_cons,List.map_nil]);first|done|rfl|(simp only [List.length_drop,List.length_take];rfl)) ?_;(with_reducible refine (Zi.calls kj35 t295 t296 t297 t298 t299 t300 t301 t302 a2 t303 t306 t307 _ A53.out).mono ?_);rintro e w68 ⟨v304,rfl,ho0,hb⟩;refine ⟨_,rfl,?_⟩;have n0_:=Zf.mk (Kd.R_elder' (by (with_reducible repeat (first|apply Kd.Zv|apply Kd.Zu|apply Kd.Zz));exact HO292.out) (Kd.R_base ho0) hb);have n1_:=Zf.mk (Kd.R_lower (Kd.R_new' ho0 (Kd.R_lt (by (with_reducible repeat (first|apply Kd.Zv|apply Kd.Zu|apply Kd.Zz));exact HO292.out))) (Zo (by repeat (first|(with_reducible first|exact HB.out|apply Ze|apply Zc|apply Zd|refine Zg ?_ GE255.out)|exact HB.out))));have n2_:=Zf.mk (Zw (g:=gb255) (o:=.cells #[.int .i64 a0_0,.int .i64 a0_1,.int .i64 a0_2,.int .i64 a0_3,.int .i64 a0_4,.int .i64 a0_5,.int .i64 a0_6,.int .u8 a0_7] 48 (0,0)) (by (with_reducible repeat (first|refine Zk ?_ _|refine Zn ?_|refine Zl ?_ _));exact BK255.out) hb);have n3_:=Zf.mk (Zm (by repeat (first|(with_reducible first|exact HB.out|apply Ze|apply Zc|apply Zd|refine Zg ?_ GE255.out)|exact HB.out)) hb);clear HO292;clear BK255;clear HB;have HO292:=n0_;have HO305:=n1_;have BK255:=n2_;have HB:=n3_;clear n0_ n1_ n2_ n3_;(try clear hb);(try clear hb2);(try clear hk);(try clear hi);(try clear ho0);obtain ⟨Ao69,co69,eo69⟩:=Kd.R_slice HO292.out;subst eo69;obtain ⟨Ao70,co70,eo70⟩:=Kd.R_slice HO305.out;subst eo70)|((with_reducible refine Z0 (f:=14) rfl ?_);refine goesL_ (some 89) rfl rfl Tryd.func14 (by kernel_rfl) rfl #[.slice Ao69 t290.length co69,.slice Ao70 t303.length co70] rfl (by (try simp only [List.map_toArray,List.map_cons,List.map_nil]);first|done|rfl|(simp only [List.length_drop,List.length_take];rfl)) ?_;(with_reducible refine (Z5.calls kj35 _ _ t290 _ _ t303 true _ ?side1 ?side2 ?side3 ?side4 A54.out).mono ?_);(case side1 => repeat (first|exact (Kd.R_reads' HO292.out).2.2|(with_reducible refine Kd.C_alloc ?_ _)|(with_reducible refine Kd.C_drewN ?_ _)|(with_reducible refine Kd.C_drew ?_)));(case side2 => exact (Kd.R_reads' HO292.out).2.1);(case side3 => repeat (first|exact (Kd.R_reads' HO305.out).2.2|(with_reducible refine Kd.C_alloc ?_ _)|(with_reducible refine Kd.C_drewN ?_ _)|(with_reducible refine Kd.C_drew ?_)));(case side4 => exact (Kd.R_reads' HO305.out).2.1);rintro e w' ⟨rfl,⟨nd,rfl⟩⟩;refine ⟨_,rfl,?_⟩))
           go_ret
           exact ⟨by first|rfl|(simp [Zp,Zq] <;> rfl)|(simp [*,Zp,Zq] <;> rfl),by repeat (first|(with_reducible first|exact HB.out|apply Ze|apply Zc|apply Zd|refine Zg ?_ GE255.out)|exact HB.out)⟩
         ·replace c55:=Bool.eq_false_iff.mpr c55
          subst c55
          have H1 : (some false)=some r:=by rw [if_neg (show ¬ (false=true) by decide)] at H;exact H
          clear H
          have H:=H1
          clear H1
          obtain rfl:=Option.some.inj H
          have hcz71_0 : wc.cell? ⟨gb255,0,none⟩=some (.int .i64 a0_0):=(Zb BK255.out 0).trans rfl
          have hcz71_1 : wc.cell? ⟨gb255,1,none⟩=some (.int .i64 a0_1):=(Zb BK255.out 1).trans rfl
          have hcz71_2 : wc.cell? ⟨gb255,2,none⟩=some (.int .i64 a0_2):=(Zb BK255.out 2).trans rfl
          have hcz71_3 : wc.cell? ⟨gb255,3,none⟩=some (.int .i64 a0_3):=(Zb BK255.out 3).trans rfl
          have hcz71_4 : wc.cell? ⟨gb255,4,none⟩=some (.int .i64 a0_4):=(Zb BK255.out 4).trans rfl
          have hcz71_5 : wc.cell? ⟨gb255,5,none⟩=some (.int .i64 a0_5):=(Zb BK255.out 5).trans rfl
          have hcz71_6 : wc.cell? ⟨gb255,6,none⟩=some (.int .i64 a0_6):=(Zb BK255.out 6).trans rfl
          have hcz71_7 : wc.cell? ⟨gb255,7,none⟩=some (.int .u8 a0_7):=(Zb BK255.out 7).trans rfl
          have hfz71_0:=Za BK255.out 0
          have hfz71_1:=Za BK255.out 1
          have hfz71_2:=Za BK255.out 2
          have hfz71_3:=Za BK255.out 3
          have hfz71_4:=Za BK255.out 4
          have hfz71_5:=Za BK255.out 5
          have hfz71_6:=Za BK255.out 6
          have hfz71_7:=Za BK255.out 7
          go_wp2_with (first|((with_reducible refine Z0 (f:=29) rfl ?_);refine goesL_ (some 75) rfl rfl Tryd.func29 (by kernel_rfl) rfl #[.agg #[.int .i64 a0_0,.int .i64 a0_1,.int .i64 a0_2,.int .i64 a0_3,.int .i64 a0_4,.int .i64 a0_5,.int .i64 a0_6,.int .u8 a0_7],.string a2] rfl (by (try simp only [List.map_toArray,List.map_cons,List.map_nil]);first|done|rfl|(simp only [List.length_drop,List.length_take];rfl)) ?_;(with_reducible refine (puny_DecodeBy.calls a0_0 a0_1 a0_2 a0_3 a0_4 a0_5 a0_6 a0_7 a2 t290 t293 t294 _ A51.out (by first|exact T_|exact (Utf8Tabs_below T_ (by repeat (first|(with_reducible first|exact HB.out|apply Ze|apply Zc|apply Zd|refine Zg ?_ GE255.out)|exact HB.out))))).mono ?_);rintro e w72 ⟨v291,rfl,ho0,hb⟩;refine ⟨_,rfl,?_⟩;have n0_:=Zf.mk (Kd.R_lower ho0 (Zo (by repeat (first|(with_reducible first|exact HB.out|apply Ze|apply Zc|apply Zd|refine Zg ?_ GE255.out)|exact HB.out))));have n1_:=Zf.mk (Zw (g:=gb255) (o:=.cells #[.int .i64 a0_0,.int .i64 a0_1,.int .i64 a0_2,.int .i64 a0_3,.int .i64 a0_4,.int .i64 a0_5,.int .i64 a0_6,.int .u8 a0_7] 48 (0,0)) (by (with_reducible repeat (first|refine Zk ?_ _|refine Zn ?_|refine Zl ?_ _));exact BK255.out) hb);have n2_:=Zf.mk (Zm (by repeat (first|(with_reducible first|exact HB.out|apply Ze|apply Zc|apply Zd|refine Zg ?_ GE255.out)|exact HB.out)) hb);clear BK255;clear HB;have HO292:=n0_;have BK255:=n1_;have HB:=n2_;clear n0_ n1_ n2_;(try clear hb);(try clear hb2);(try clear hk);(try clear hi);(try clear ho0);have hcz73_0 : w72.cell? ⟨gb255,0,none⟩=some (.int .i64 a0_0):=(Zb BK255.out 0).trans rfl;have hcz73_1 : w72.cell? ⟨gb255,1,none⟩=some (.int .i64 a0_1):=(Zb BK255.out 1).trans rfl;have hcz73_2 : w72.cell? ⟨gb255,2,none⟩=some (.int .i64 a0_2):=(Zb BK255.out 2).trans rfl;have hcz73_3 : w72.cell? ⟨gb255,3,none⟩=some (.int .i64 a0_3):=(Zb BK255.out 3).trans rfl;have hcz73_4 : w72.cell? ⟨gb255,4,none⟩=some (.int .i64 a0_4):=(Zb BK255.out 4).trans rfl;have hcz73_5 : w72.cell? ⟨gb255,5,none⟩=some (.int .i64 a0_5):=(Zb BK255.out 5).trans rfl;have hcz73_6 : w72.cell? ⟨gb255,6,none⟩=some (.int .i64 a0_6):=(Zb BK255.out 6).trans rfl;have hcz73_7 : w72.cell? ⟨gb255,7,none⟩=some (.int .u8 a0_7):=(Zb BK255.out 7).trans rfl;have hfz73_0:=Za BK255.out 0;have hfz73_1:=Za BK255.out 1;have hfz73_2:=Za BK255.out 2;have hfz73_3:=Za BK255.out 3;have hfz73_4:=Za BK255.out 4;have hfz73_5:=Za BK255.out 5;have hfz73_6:=Za BK255.out 6;have hfz73_7:=Za BK255.out 7)|((with_reducible refine Z0 (f:=26) rfl ?_);refine goesL_ (some 81) rfl rfl Tryd.func26 (by kernel_rfl) rfl #[.agg #[.int .i64 a0_0,.int .i64 a0_1,.int .i64 a0_2,.int .i64 a0_3,.int .i64 a0_4,.int .i64 a0_5,.int .i64 a0_6,.int .u8 a0_7]] rfl (by (try simp only [List.map_toArray,List.map_cons,List.map_nil]);first|done|rfl|(simp only [List.length_drop,List.length_take];rfl)) ?_;(with_reducible refine (Z8.calls a0_0 a0_1 a0_2 a0_3 a0_4 a0_5 a0_6 a0_7 t295 t296 t297 t298 t299 t300 t301 t302 _ A52.out).mono ?_);rintro e w74 ⟨rfl,hb⟩;refine ⟨_,rfl,?_⟩;have n0_:=Zf.mk (Kd.Z9 (by (with_reducible repeat (first|apply Kd.Zv|apply Kd.Zu|apply Kd.Zz));exact HO292.out) hb);have n1_:=Zf.mk (Zw (g:=gb255) (o:=.cells #[.int .i64 a0_0,.int .i64 a0_1,.int .i64 a0_2,.int .i64 a0_3,.int .i64 a0_4,.int .i64 a0_5,.int .i64 a0_6,.int .u8 a0_7] 48 (0,0)) (by (with_reducible repeat (first|refine Zk ?_ _|refine Zn ?_|refine Zl ?_ _));exact BK255.out) hb);have n2_:=Zf.mk (Zm (by repeat (first|(with_reducible first|exact HB.out|apply Ze|apply Zc|apply Zd|refine Zg ?_ GE255.out)|exact HB.out)) hb);clear HO292;clear BK255;clear HB;have HO292:=n0_;have BK255:=n1_;have HB:=n2_;clear n0_ n1_ n2_;(try clear hb);(try clear hb2);(try clear hk);(try clear hi))|((with_reducible refine Z0 (f:=30) rfl ?_);refine goesL_ (some 83) rfl rfl Tryd.func30 (by kernel_rfl) rfl #[.agg #[.int .i64 t295,.int .i64 t296,.int .i64 t297,.int .i64 t298,.int .i64 t299,.int .i64 t300,.int .i64 t301,.int .u8 t302],.string a2] rfl (by (try simp only [List.map_toArray,List.map_cons,List.map_nil]);first|done|rfl|(simp only [List.length_drop,List.length_take];rfl)) ?_;(with_reducible refine (Zi.calls kj35 t295 t296 t297 t298 t299 t300 t301 t302 a2 t303 t306 t307 _ A53.out).mono ?_);rintro e w75 ⟨v304,rfl,ho0,hb⟩;refine ⟨_,rfl,?_⟩;have n0_:=Zf.mk (Kd.R_elder' (by (with_reducible repeat (first|apply Kd.Zv|apply Kd.Zu|apply Kd.Zz));exact HO292.out) (Kd.R_base ho0) hb);have n1_:=Zf.mk (Kd.R_lower (Kd.R_new' ho0 (Kd.R_lt (by (with_reducible repeat (first|apply Kd.Zv|apply Kd.Zu|apply Kd.Zz));exact HO292.out))) (Zo (by repeat (first|(with_reducible first|exact HB.out|apply Ze|apply Zc|apply Zd|refine Zg ?_ GE255.out)|exact HB.out))));have n2_:=Zf.mk (Zw (g:=gb255) (o:=.cells #[.int .i64 a0_0,.int .i64 a0_1,.int .i64 a0_2,.int .i64 a0_3,.int .i64 a0_4,.int .i64 a0_5,.int .i64 a0_6,.int .u8 a0_7] 48 (0,0)) (by (with_reducible repeat (first|refine Zk ?_ _|refine Zn ?_|refine Zl ?_ _));exact BK255.out) hb);have n3_:=Zf.mk (Zm (by repeat (first|(with_reducible first|exact HB.out|apply Ze|apply Zc|apply Zd|refine Zg ?_ GE255.out)|exact HB.out)) hb);clear HO292;clear BK255;clear HB;have HO292:=n0_;have HO305:=n1_;have BK255:=n2_;have HB:=n3_;clear n0_ n1_ n2_ n3_;(try clear hb);(try clear hb2);(try clear hk);(try clear hi);(try clear ho0);obtain ⟨Ao76,co76,eo76⟩:=Kd.R_slice HO292.out;subst eo76;obtain ⟨Ao77,co77,eo77⟩:=Kd.R_slice HO305.out;subst eo77)|((with_reducible refine Z0 (f:=14) rfl ?_);refine goesL_ (some 89) rfl rfl Tryd.func14 (by kernel_rfl) rfl #[.slice Ao76 t290.length co76,.slice Ao77 t303.length co77] rfl (by (try simp only [List.map_toArray,List.map_cons,List.map_nil]);first|done|rfl|(simp only [List.length_drop,List.length_take];rfl)) ?_;(with_reducible refine (Z5.calls kj35 _ _ t290 _ _ t303 false _ ?side1 ?side2 ?side3 ?side4 A54.out).mono ?_);(case side1 => repeat (first|exact (Kd.R_reads' HO292.out).2.2|(with_reducible refine Kd.C_alloc ?_ _)|(with_reducible refine Kd.C_drewN ?_ _)|(with_reducible refine Kd.C_drew ?_)));(case side2 => exact (Kd.R_reads' HO292.out).2.1);(case side3 => repeat (first|exact (Kd.R_reads' HO305.out).2.2|(with_reducible refine Kd.C_alloc ?_ _)|(with_reducible refine Kd.C_drewN ?_ _)|(with_reducible refine Kd.C_drew ?_)));(case side4 => exact (Kd.R_reads' HO305.out).2.1);rintro e w' ⟨rfl,⟨nd,rfl⟩⟩;refine ⟨_,rfl,?_⟩))
          go_ret
          exact ⟨by first|rfl|(simp [Zp,Zq] <;> rfl)|(simp [*,Zp,Zq] <;> rfl),by repeat (first|(with_reducible first|exact HB.out|apply Ze|apply Zc|apply Zd|refine Zg ?_ GE255.out)|exact HB.out)⟩
     ·rw [if_neg c32] at H
      exact absurd H (by simp)
 ·replace c5:=Bool.eq_false_iff.mpr c5
  subst c5
  have H1 : (some false)=some r:=by rw [if_neg (show ¬ (false=true) by decide)] at H;exact H
  clear H
  have H:=H1
  clear H1
  obtain rfl:=Option.some.inj H
  go_enter Tryd.func9,Tryd.ntmps9
  go_wp2_with (first|((with_reducible refine Yh (N:=3) rfl ?_);refine Ym ?hg (N:=3) ?hd (cs:=#[.int .i64 a0_0,.int .i64 a0_1,.int .i64 a0_2,.int .i64 a0_3,.int .i64 a0_4,.int .i64 a0_5,.int .i64 a0_6,.int .u8 a0_7]) (t:=48) ?hr ?_;(case hd => rfl);(case hg => rfl);(case hr => first|(go_simp;done)|(go_simp;rfl));intro gb255 hg w78 hbox hb;have n0_:=Zf.mk (Zm (by repeat (first|(with_reducible first|exact HB.out|apply Ze|apply Zc|apply Zd)|exact HB.out)) hb);have n1_:=Zf.mk (hbox);have n2_:=Zf.mk ((by rw [hg];exact (Zo (by repeat (first|(with_reducible first|exact HB.out|apply Ze|apply Zc|apply Zd)|exact HB.out))) : w.heap.size≤gb255));have n3_:=Zf.mk ((by rw [hg];exact (Zo (by repeat (first|(with_reducible first|exact HB.out|apply Ze|apply Zc|apply Zd)|exact HB.out))) : w.heap.size≤gb255));clear HB;have HB:=n0_;have BK255:=n1_;have GW255:=n2_;have GE255:=n3_;clear n0_ n1_ n2_ n3_;clear hb hbox hg)|((with_reducible refine Z0 (f:=11) rfl ?_);refine goesL_ (some 16) rfl rfl Tryd.func11 (by kernel_rfl) rfl #[] rfl (by (try simp only [List.map_toArray,List.map_cons,List.map_nil]);first|done|rfl|(simp only [List.length_drop,List.length_take];rfl)) ?_;(with_reducible refine (posternlaw14_awake.calls k  false _ A4.out (by first|exact T_|exact (Utf8Tabs_below T_ (by repeat (first|(with_reducible first|exact HB.out|apply Ze|apply Zc|apply Zd|refine Zg ?_ GE255.out)|exact HB.out))))).mono ?_);rintro e w79 ⟨rfl,hb⟩;refine ⟨_,rfl,?_⟩;have n0_:=Zf.mk (Zw (g:=gb255) (o:=.cells #[.int .i64 a0_0,.int .i64 a0_1,.int .i64 a0_2,.int .i64 a0_3,.int .i64 a0_4,.int .i64 a0_5,.int .i64 a0_6,.int .u8 a0_7] 48 (0,0)) (by (with_reducible repeat (first|refine Zk ?_ _|refine Zn ?_|refine Zl ?_ _));exact BK255.out) hb);have n1_:=Zf.mk (Zm (by repeat (first|(with_reducible first|exact HB.out|apply Ze|apply Zc|apply Zd|refine Zg ?_ GE255.out)|exact HB.out)) hb);clear BK255;clear HB;have BK255:=n0_;have HB:=n1_;clear n0_ n1_;(try clear hb);(try clear hb2);(try clear hk);(try clear hi)))
  go_ret
  exact ⟨by first|rfl|(simp [Zp,Zq] <;> rfl)|(simp [*,Zp,Zq] <;> rfl),by repeat (first|(with_reducible first|exact HB.out|apply Ze|apply Zc|apply Zd|refine Zg ?_ GE255.out)|exact HB.out)⟩
end Go.Proofs.YtmjlkifmbhaiiaaDoorQ.Pw
end
