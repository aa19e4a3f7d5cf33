/- What these functions of the program compute, and that they compute it: printed by wip/tools/orac.py over the kit's print.py; merged. -/
import Derived.Test.YtmjlkifmbhaiiaaDoorQPwx0
import Derived.Test.YtmjlkifmbhaiiaaDoorQPwx4
import Derived.Test.YtmjlkifmbhaiiaaDoorQPwx5
import Derived.Test.YtmjlkifmbhaiiaaDoorQPwx6
import Derived.Test.YtmjlkifmbhaiiaaDoorQPwx7
section
namespace Go.Proofs.YtmjlkifmbhaiiaaDoorQ.Pw
open Go.RowKit Go.Proofs.YtmjlkifmbhaiiaaDoorW.PrintWords Go.Proofs.YtmjlkifmbhaiiaaDoorW.PrintLast Go.Proofs.YtmjlkifmbhaiiaaDoorW.PrintMore
attribute [local go_sem] Go.Proofs.YtmjlkifmbhaiiaaDoor.Ye
attribute [local go_sem] max2_int min2_int max_two min_two max_three min_three max_four min_four   -- for this text's walks alone
set_option linter.unusedVariables false
set_option linter.unusedSimpArgs false
/-! ### Zi: function 30 -/
mutual
def Zi.l0 : Nat→ByteArray→Int→Int→Int→Int→Int→Int→Int→Int→Int→Int→Option (List Int × Int × Int)
 | 0,_,_,_,_,_,_,_,_,_,_,_ => none
 | k + 1,x1,x7,x8,x198000,x198001,x198002,x198003,x198004,x198005,x198006,x198007 => if x8 < (x1.size : Int) then (if 0≤x8 then (if (bt x1 x8)=x198007 then (Zi.l0 k x1 x8 (wrap64 (x8 + 1)) x198000 x198001 x198002 x198003 x198004 x198005 x198006 x198007) else (Zi.l0 k x1 x7 (wrap64 (x8 + 1)) x198000 x198001 x198002 x198003 x198004 x198005 x198006 x198007)) else (none)) else (Zi.l1 k x1 x7 (([] : List Int)) 0 x198000 x198001 x198002 x198003 x198004 x198005 x198006 x198007)
def Zi.l1 : Nat→ByteArray→Int→List Int→Int→Int→Int→Int→Int→Int→Int→Int→Int→Option (List Int × Int × Int)
 | 0,_,_,_,_,_,_,_,_,_,_,_,_ => none
 | k + 1,x1,x7,x9,x10,x198000,x198001,x198002,x198003,x198004,x198005,x198006,x198007 => if x10 < x7 then (if 0≤x10 then (if x10 < (x1.size : Int) then ((Yf.f x198000 x198001 x198002 x198003 x198004 x198005 x198006 x198007 (wrap32 (bt x1 x10))).bind fun t202 => (if t202=true then (if x9.length < 35184372088832 then (Zi.l1 k x1 x7 (x9++[wrap32 (bt x1 x10)]) (wrap64 (x10 + 1)) x198000 x198001 x198002 x198003 x198004 x198005 x198006 x198007) else (none)) else (some (([] : List Int),x10,141)))) else (none)) else (none)) else (if x7 > 0 then (Zi.j2 k x1 (wrap64 (x7 + 1)) x9 x198000 x198001 x198002 x198003 x198004 x198005 x198006 x198007) else (Zi.j2 k x1 x7 x9 x198000 x198001 x198002 x198003 x198004 x198005 x198006 x198007))
def Zi.j2 : Nat→ByteArray→Int→List Int→Int→Int→Int→Int→Int→Int→Int→Int→Option (List Int × Int × Int)
 | 0,_,_,_,_,_,_,_,_,_,_,_ => none
 | k + 1,x1,x7,x9,x198000,x198001,x198002,x198003,x198004,x198005,x198006,x198007 => Zi.l2 k x1 x7 x9 x198006 0 x198005 x198000 x198001 x198002 x198003 x198004 x198005 x198006 x198007
def Zi.l2 : Nat→ByteArray→Int→List Int→Int→Int→Int→Int→Int→Int→Int→Int→Int→Int→Int→Option (List Int × Int × Int)
 | 0,_,_,_,_,_,_,_,_,_,_,_,_,_,_ => none
 | k + 1,x1,x7,x9,x11,x12,x13,x198000,x198001,x198002,x198003,x198004,x198005,x198006,x198007 => if x7 < (x1.size : Int) then (Zi.l3 k x1 x7 x9 x11 x12 x13 x12 1 x198000 x198000 x198001 x198002 x198003 x198004 x198005 x198006 x198007) else (some (x9,0,0))
def Zi.l3 : Nat→ByteArray→Int→List Int→Int→Int→Int→Int→Int→Int→Int→Int→Int→Int→Int→Int→Int→Int→Option (List Int × Int × Int)
 | 0,_,_,_,_,_,_,_,_,_,_,_,_,_,_,_,_,_ => none
 | k + 1,x1,x7,x9,x11,x12,x13,x14,x15,x16,x198000,x198001,x198002,x198003,x198004,x198005,x198006,x198007 => if x7=(x1.size : Int) then (some (([] : List Int),x7,140)) else (if 0≤x7 then (if x7 < (x1.size : Int) then ((Yd.f k (bt x1 x7) x198000).bind fun t206 => (if t206 < 0 then (some (([] : List Int),x7,140)) else (if (wrap64 (x12 + (wrap64 (t206 * x15)))) > 2147483647 then (some (([] : List Int),x7,142)) else ((Z6.f x198000 x198001 x198002 x198003 x198004 x198005 x198006 x198007 x16 x13).bind fun t207 => (if t206 < t207 then ((Zy.f k x198000 x198001 x198002 x198003 x198004 x198005 x198006 x198007 (wrap64 ((wrap64 (x12 + (wrap64 (t206 * x15)))) - x14)) (wrap64 ((x9.length : Int) + 1)) (x14 == 0)).bind fun t208 => (if (wrap64 ((x9.length : Int) + 1))=0 then (none) else (if (wrap64 (x11 + (wrap64 (Int.tdiv (wrap64 (x12 + (wrap64 (t206 * x15)))) (wrap64 ((x9.length : Int) + 1)))))) > 1114111 then (some (([] : List Int),x7,142)) else ((Yc.f (wrap32 (wrap64 (x11 + (wrap64 (Int.tdiv (wrap64 (x12 + (wrap64 (t206 * x15)))) (wrap64 ((x9.length : Int) + 1)))))))).bind fun t209 => (if t209=true then (if x9.length < 35184372088832 then ((some (x9++[0] : List Int)).bind fun y210 => (Zi.l4 k x1 x7 y210 (wrap64 (x11 + (wrap64 (Int.tdiv (wrap64 (x12 + (wrap64 (t206 * x15)))) (wrap64 ((x9.length : Int) + 1)))))) (Int.tmod (wrap64 (x12 + (wrap64 (t206 * x15)))) (wrap64 ((x9.length : Int) + 1))) t208 (wrap64 ((y210.length : Int) - 1)) x198000 x198001 x198002 x198003 x198004 x198005 x198006 x198007)) else (none)) else (some (([] : List Int),x7,143))))))) else (if (wrap64 (x15 * (wrap64 (x198000 - t207)))) > 2147483647 then (some (([] : List Int),x7,142)) else (Zi.l3 k x1 (wrap64 (x7 + 1)) x9 x11 (wrap64 (x12 + (wrap64 (t206 * x15)))) x13 x14 (wrap64 (x15 * (wrap64 (x198000 - t207)))) (wrap64 (x16 + x198000)) x198000 x198001 x198002 x198003 x198004 x198005 x198006 x198007))))))) else (none)) else (none))
def Zi.l4 : Nat→ByteArray→Int→List Int→Int→Int→Int→Int→Int→Int→Int→Int→Int→Int→Int→Int→Option (List Int × Int × Int)
 | 0,_,_,_,_,_,_,_,_,_,_,_,_,_,_,_ => none
 | k + 1,x1,x7,x9,x11,x12,x13,x20,x198000,x198001,x198002,x198003,x198004,x198005,x198006,x198007 => if x20 > x12 then (if 0≤(wrap64 (x20 - 1)) then (if (wrap64 (x20 - 1)) < (x9.length : Int) then (if 0≤x20 then (if x20 < (x9.length : Int) then (Zi.l4 k x1 x7 (x9.set (x20 : Int).toNat (rd x9 (wrap64 (x20 - 1)))) x11 x12 x13 (wrap64 (x20 - 1)) x198000 x198001 x198002 x198003 x198004 x198005 x198006 x198007) else (none)) else (none)) else (none)) else (none)) else (if 0≤x12 then (if x12 < (x9.length : Int) then (Zi.l2 k x1 (wrap64 (x7 + 1)) (x9.set (x12 : Int).toNat (wrap32 (x11))) x11 (wrap64 (x12 + 1)) x13 x198000 x198001 x198002 x198003 x198004 x198005 x198006 x198007) else (none)) else (none))
end
def Zi.f (k : Nat) (a0_0 : Int) (a0_1 : Int) (a0_2 : Int) (a0_3 : Int) (a0_4 : Int) (a0_5 : Int) (a0_6 : Int) (a0_7 : Int) (a1 : ByteArray) : Option (List Int × Int × Int):=(Zx.f k a0_0 a0_1 a0_2 a0_3 a0_4 a0_5 a0_6 a0_7).bind fun t198 => (if t198=true then (Zi.l0 k a1 0 0 a0_0 a0_1 a0_2 a0_3 a0_4 a0_5 a0_6 a0_7) else (some (([] : List Int),0,144)))
set_option maxHeartbeats 8000000 in
set_option maxRecDepth 100000 in
theorem Zi.calls (k : Nat) (a0_0 : Int) (a0_1 : Int) (a0_2 : Int) (a0_3 : Int) (a0_4 : Int) (a0_5 : Int) (a0_6 : Int) (a0_7 : Int) (a1 : ByteArray) (r1 : List Int) (r2 : Int) (r3 : Int) (w : World) (h : Zi.f k a0_0 a0_1 a0_2 a0_3 a0_4 a0_5 a0_6 a0_7 a1=some (r1,r2,r3)) :
  Calls Tryd.prog 30 #[.agg #[.int .i64 a0_0,.int .i64 a0_1,.int .i64 a0_2,.int .i64 a0_3,.int .i64 a0_4,.int .i64 a0_5,.int .i64 a0_6,.int .u8 a0_7],.string a1] w fun e w' => ∃ v0_ : Value,e=.returned (.tuple #[v0_,.int .i64 r2,.int .i64 r3])∧Kd.R (Kd.int .i32) 21 w' w.heap.size (fun _ => True) v0_ r1∧Below w.heap.size w w':=by
 have hu51:=Tryd.underlying51
 have HB:=Zf.mk (Below.refl w.heap.size w)
 have H : ((Zx.f k a0_0 a0_1 a0_2 a0_3 a0_4 a0_5 a0_6 a0_7).bind fun t198 => (if t198=true then (Zi.l0 k a1 0 0 a0_0 a0_1 a0_2 a0_3 a0_4 a0_5 a0_6 a0_7) else (some (([] : List Int),0,144))))=some (r1,r2,r3):=h
 clear h
 replace H:=Option.bind_eq_some_iff.mp H
 obtain ⟨t198,A30,H⟩:=H
 replace H : (if t198=true then (Zi.l0 k a1 0 0 a0_0 a0_1 a0_2 a0_3 a0_4 a0_5 a0_6 a0_7) else (some (([] : List Int),0,144)))=some (r1,r2,r3):=H
 have A3:=Zf.mk A30
 clear A30
 by_cases c4 : t198=true
 ·subst c4
  have H1 : (Zi.l0 k a1 0 0 a0_0 a0_1 a0_2 a0_3 a0_4 a0_5 a0_6 a0_7)=some (r1,r2,r3):=by rw [if_pos rfl] at H;exact H
  clear H
  have H:=H1
  clear H1
  have H':=Zf.mk H
  clear H
  go_enter Tryd.func30,Tryd.ntmps30
  go_wp2_with (first|((with_reducible refine Yh (N:=2) rfl ?_);refine Ym ?hg (N:=2) ?hd (cs:=#[.int .i64 a0_0,.int .i64 a0_1,.int .i64 a0_2,.int .i64 a0_3,.int .i64 a0_4,.int .i64 a0_5,.int .i64 a0_6,.int .u8 a0_7]) (t:=51) ?hr ?_;(case hd => rfl);(case hg => rfl);(case hr => first|(go_simp;done)|(go_simp;rfl));intro gb197 hg w5 hbox hb;have n0_:=Zf.mk (Zm (by repeat (first|(with_reducible first|exact HB.out|apply Ze|apply Zc|apply Zd)|exact HB.out)) hb);have n1_:=Zf.mk (hbox);have n2_:=Zf.mk ((by rw [hg];exact (Zo (by repeat (first|(with_reducible first|exact HB.out|apply Ze|apply Zc|apply Zd)|exact HB.out))) : w.heap.size≤gb197));have n3_:=Zf.mk ((by rw [hg];exact (Zo (by repeat (first|(with_reducible first|exact HB.out|apply Ze|apply Zc|apply Zd)|exact HB.out))) : w.heap.size≤gb197));clear HB;have HB:=n0_;have BK197:=n1_;have GW197:=n2_;have GE197:=n3_;clear n0_ n1_ n2_ n3_;clear hb hbox hg;have hcz6_0 : w5.cell? ⟨gb197,0,none⟩=some (.int .i64 a0_0):=(Zb BK197.out 0).trans rfl;have hcz6_1 : w5.cell? ⟨gb197,1,none⟩=some (.int .i64 a0_1):=(Zb BK197.out 1).trans rfl;have hcz6_2 : w5.cell? ⟨gb197,2,none⟩=some (.int .i64 a0_2):=(Zb BK197.out 2).trans rfl;have hcz6_3 : w5.cell? ⟨gb197,3,none⟩=some (.int .i64 a0_3):=(Zb BK197.out 3).trans rfl;have hcz6_4 : w5.cell? ⟨gb197,4,none⟩=some (.int .i64 a0_4):=(Zb BK197.out 4).trans rfl;have hcz6_5 : w5.cell? ⟨gb197,5,none⟩=some (.int .i64 a0_5):=(Zb BK197.out 5).trans rfl;have hcz6_6 : w5.cell? ⟨gb197,6,none⟩=some (.int .i64 a0_6):=(Zb BK197.out 6).trans rfl;have hcz6_7 : w5.cell? ⟨gb197,7,none⟩=some (.int .u8 a0_7):=(Zb BK197.out 7).trans rfl;have hfz6_0:=Za BK197.out 0;have hfz6_1:=Za BK197.out 1;have hfz6_2:=Za BK197.out 2;have hfz6_3:=Za BK197.out 3;have hfz6_4:=Za BK197.out 4;have hfz6_5:=Za BK197.out 5;have hfz6_6:=Za BK197.out 6;have hfz6_7:=Za BK197.out 7)|((with_reducible refine Z0 (f:=25) rfl ?_);refine goesL_ (some 22) rfl rfl Tryd.func25 (by kernel_rfl) rfl #[.agg #[.int .i64 a0_0,.int .i64 a0_1,.int .i64 a0_2,.int .i64 a0_3,.int .i64 a0_4,.int .i64 a0_5,.int .i64 a0_6,.int .u8 a0_7]] rfl (by (try simp only [List.map_toArray,List.map_cons,List.map_nil]);first|done|rfl|(simp only [List.length_drop,List.length_take];rfl)) ?_;(with_reducible refine (Zx.calls k a0_0 a0_1 a0_2 a0_3 a0_4 a0_5 a0_6 a0_7 true _ A3.out).mono ?_);rintro e w7 ⟨rfl,hb⟩;refine ⟨_,rfl,?_⟩;have n0_:=Zf.mk (Zw (g:=gb197) (o:=.cells #[.int .i64 a0_0,.int .i64 a0_1,.int .i64 a0_2,.int .i64 a0_3,.int .i64 a0_4,.int .i64 a0_5,.int .i64 a0_6,.int .u8 a0_7] 51 (0,0)) (by (with_reducible repeat (first|refine Zk ?_ _|refine Zn ?_|refine Zl ?_ _));exact BK197.out) hb);have n1_:=Zf.mk (Zm (by repeat (first|(with_reducible first|exact HB.out|apply Ze|apply Zc|apply Zd|refine Zg ?_ GE197.out)|exact HB.out)) hb);clear BK197;clear HB;have BK197:=n0_;have HB:=n1_;clear n0_ n1_;(try clear hb);(try clear hb2);(try clear hk);(try clear hi)))
  go_loopg [7,8] k (fun kq v7 v8 w' => ∃ (x7_1 : Int) (x8_1 : Int),v7=.int .i64 x7_1∧v8=.int .i64 x8_1∧Zf (Zi.l0 kq a1 x7_1 x8_1 a0_0 a0_1 a0_2 a0_3 a0_4 a0_5 a0_6 a0_7=some (r1,r2,r3))∧Zf (kq≤k)∧Zf (w'.heap[gb197]?=some (.cells #[.int .i64 a0_0,.int .i64 a0_1,.int .i64 a0_2,.int .i64 a0_3,.int .i64 a0_4,.int .i64 a0_5,.int .i64 a0_6,.int .u8 a0_7] 51 (0,0)))∧Zf (Below w.heap.size w w'))
  case atStart => exact ⟨(0),(0),(by first|rfl|(simp;done)|(simp [*];done)),(by first|rfl|(simp;done)|(simp [*];done)),H',⟨Nat.le_refl _⟩,⟨by (with_reducible repeat (first|refine Zk ?_ _|refine Zn ?_|refine Zl ?_ _));exact BK197.out⟩,⟨by repeat (first|(with_reducible first|exact HB.out|apply Ze|apply Zc|apply Zd|refine Zg ?_ GE197.out)|exact HB.out)⟩⟩
  case round =>
   clear H'
   try clear c2
   try clear p2
   try clear c3
   try clear c4
   try clear hcz6_0
   try clear hcz6_1
   try clear hcz6_2
   try clear hcz6_3
   try clear hcz6_4
   try clear hcz6_5
   try clear hcz6_6
   try clear hcz6_7
   try clear hfz6_0
   try clear hfz6_1
   try clear hfz6_2
   try clear hfz6_3
   try clear hfz6_4
   try clear hfz6_5
   try clear hfz6_6
   try clear hfz6_7
   obtain ⟨x7_1,x8_1,rfl,rfl,HA,HK1,BK197,HB⟩:=hrel
   cases gk with
   | zero => exact absurd HA.out (by simp [Zi.l0])
   | succ k1 =>
    have H:=HA.out
    clear HA
    simp only [Zi.l0] at H
    by_cases c8 : x8_1 < (a1.size : Int)
    ·rw [if_pos c8] at H
     have c8b0 : decide (x8_1 < (a1.size : Int))=true:=decide_eq_true c8
     clear c8
     by_cases c9 : 0≤x8_1
     ·rw [if_pos c9] at H
      have c9b0 : decide (0≤x8_1)=true:=decide_eq_true c9
      clear c9
      by_cases c11 : (bt a1 x8_1)=a0_7
      ·rw [if_pos c11] at H
       have c11b0 : ((bt a1 x8_1) == a0_7)=true:=beq_iff_eq.mpr c11
       have c11b1 : ((bt a1 x8_1) != a0_7)=false:=bne_eq_false_iff_eq.mpr c11
       clear c11
       have H':=Zf.mk H
       clear H
       try go_wp2
       have n0_:=Zf.mk (Zn BK197.out)
       have n1_:=Zf.mk (Zd HB.out)
       clear BK197
       clear HB
       have BK197:=n0_
       have HB:=n1_
       clear n0_ n1_
       have p10 : 0≤(x8_1 : Int):=of_decide_eq_true (by first|(with_reducible assumption)|assumption)
       have q10 : x8_1 < (a1.size : Int):=of_decide_eq_true (by first|(with_reducible assumption)|assumption)
       have hx10:=bt_at a1 x8_1
       replace p10:=eq_true p10
       replace q10:=eq_true q10
       refine start_ (n:=6) (S:=fun w' => w'.cell? ⟨gb197,0,none⟩=some (.int .i64 a0_0)∧w'.cell? ⟨gb197,1,none⟩=some (.int .i64 a0_1)∧w'.cell? ⟨gb197,2,none⟩=some (.int .i64 a0_2)∧w'.cell? ⟨gb197,3,none⟩=some (.int .i64 a0_3)∧w'.cell? ⟨gb197,4,none⟩=some (.int .i64 a0_4)∧w'.cell? ⟨gb197,5,none⟩=some (.int .i64 a0_5)∧w'.cell? ⟨gb197,6,none⟩=some (.int .i64 a0_6)∧w'.cell? ⟨gb197,7,none⟩=some (.int .u8 a0_7)) (ds:=[]) #[false,false,false,false,false,false] (by kernel_rfl) rfl rfl ⟨(Zb BK197.out 0).trans rfl,(Zb BK197.out 1).trans rfl,(Zb BK197.out 2).trans rfl,(Zb BK197.out 3).trans rfl,(Zb BK197.out 4).trans rfl,(Zb BK197.out 5).trans rfl,(Zb BK197.out 6).trans rfl,(Zb BK197.out 7).trans rfl⟩ (fun hHeld => ?_)
       generalize wr.drew=w12 at BK197 HB hHeld ⊢
       refine pure_ (i:=0) (N:=some 30) (v:=?_) (a':=?_) #[true,false,false,false,false,false] rfl rfl (by kernel_rfl) (fun _ _ _ h => h) (Or.inl ⟨by rfl,?_⟩) ?_ ?_
       rotate_left
       ·intro w'
        go_simp
        with_reducible rfl
       rotate_left
       ·simp only [Act.put,List.setIfInBounds_toArray,List.set_cons_zero,List.set_cons_succ,i64_w,i32_w]
        rfl
       refine pure_ (i:=1) (N:=some 31) (v:=?_) (a':=?_) #[true,true,false,false,false,false] rfl rfl (by kernel_rfl) (fun _ _ _ h => h) (Or.inl ⟨by rfl,?_⟩) ?_ ?_
       rotate_left
       ·intro w'
        go_simp
        with_reducible rfl
       rotate_left
       ·simp only [Act.put,List.setIfInBounds_toArray,List.set_cons_zero,List.set_cons_succ,i64_w,i32_w]
        rfl
       refine pure_ (i:=3) (N:=some 33) (v:=?_) (a':=?_) #[true,true,false,true,false,false] rfl rfl (by kernel_rfl) (fun _ _ _ h => h) (Or.inl ⟨by rfl,?_⟩) ?_ ?_
       rotate_left
       ·intro w'
        go_simp
        with_reducible rfl
       rotate_left
       ·simp only [Act.put,List.setIfInBounds_toArray,List.set_cons_zero,List.set_cons_succ,i64_w,i32_w]
        rfl
       refine take_ (i:=2) (N:=some 32) (v:=?_) (a':=?_) #[true,true,true,true,false,false] rfl rfl (by kernel_rfl) (fun _ _ _ h => h) (Or.inl ⟨by rfl,?_⟩) hHeld ?_ ?_
       rotate_left
       ·rintro w' ⟨s0,s1,s2,s3,s4,s5,s6,s7⟩
        go_simp
        with_reducible rfl
       rotate_left
       ·simp only [Act.put,List.setIfInBounds_toArray,List.set_cons_zero,List.set_cons_succ,i64_w,i32_w]
        rfl
       refine take_ (i:=4) (N:=some 34) (v:=?_) (a':=?_) #[true,true,true,true,true,false] rfl rfl (by kernel_rfl) (fun _ _ _ h => h) (Or.inl ⟨by rfl,?_⟩) hHeld ?_ ?_
       rotate_left
       ·rintro w' ⟨s0,s1,s2,s3,s4,s5,s6,s7⟩
        go_simp
        with_reducible rfl
       rotate_left
       ·simp only [Act.put,List.setIfInBounds_toArray,List.set_cons_zero,List.set_cons_succ,i64_w,i32_w]
        rfl
       refine pure_ (i:=5) (N:=some 35) (v:=?_) (a':=?_) #[true,true,true,true,true,true] rfl rfl (by kernel_rfl) (fun _ _ _ h => h) (Or.inl ⟨by rfl,?_⟩) ?_ ?_
       rotate_left
       ·intro w'
        go_simp
        with_reducible rfl
       rotate_left
       ·simp only [Act.put,List.setIfInBounds_toArray,List.set_cons_zero,List.set_cons_succ,i64_w,i32_w]
        rfl
       refine done_ (by kernel_rfl) ?_
       try go_wp2
       go_roundg k1
       case measure => have:=HK1.out;omega
       case rel => exact ⟨(x8_1),(wrap64 (x8_1 + 1)),(by first|rfl|(simp;done)|(simp [*];done)),(by first|rfl|(simp;done)|(simp [*];done)),H',⟨by have:=HK1.out;omega⟩,⟨by (with_reducible repeat (first|refine Zk ?_ _|refine Zn ?_|refine Zl ?_ _));exact BK197.out⟩,⟨by repeat (first|(with_reducible first|exact HB.out|apply Ze|apply Zc|apply Zd|refine Zg ?_ GE197.out)|exact HB.out)⟩⟩
      ·rw [if_neg c11] at H
       have c11b0 : ((bt a1 x8_1) == a0_7)=false:=beq_eq_false_iff_ne.mpr c11
       have c11b1 : ((bt a1 x8_1) != a0_7)=true:=bne_iff_ne.mpr c11
       have H':=Zf.mk H
       clear H
       try go_wp2
       have n0_:=Zf.mk (Zn BK197.out)
       have n1_:=Zf.mk (Zd HB.out)
       clear BK197
       clear HB
       have BK197:=n0_
       have HB:=n1_
       clear n0_ n1_
       have p10 : 0≤(x8_1 : Int):=of_decide_eq_true (by first|(with_reducible assumption)|assumption)
       have q10 : x8_1 < (a1.size : Int):=of_decide_eq_true (by first|(with_reducible assumption)|assumption)
       have hx10:=bt_at a1 x8_1
       replace p10:=eq_true p10
       replace q10:=eq_true q10
       refine start_ (n:=6) (S:=fun w' => w'.cell? ⟨gb197,0,none⟩=some (.int .i64 a0_0)∧w'.cell? ⟨gb197,1,none⟩=some (.int .i64 a0_1)∧w'.cell? ⟨gb197,2,none⟩=some (.int .i64 a0_2)∧w'.cell? ⟨gb197,3,none⟩=some (.int .i64 a0_3)∧w'.cell? ⟨gb197,4,none⟩=some (.int .i64 a0_4)∧w'.cell? ⟨gb197,5,none⟩=some (.int .i64 a0_5)∧w'.cell? ⟨gb197,6,none⟩=some (.int .i64 a0_6)∧w'.cell? ⟨gb197,7,none⟩=some (.int .u8 a0_7)) (ds:=[]) #[false,false,false,false,false,false] (by kernel_rfl) rfl rfl ⟨(Zb BK197.out 0).trans rfl,(Zb BK197.out 1).trans rfl,(Zb BK197.out 2).trans rfl,(Zb BK197.out 3).trans rfl,(Zb BK197.out 4).trans rfl,(Zb BK197.out 5).trans rfl,(Zb BK197.out 6).trans rfl,(Zb BK197.out 7).trans rfl⟩ (fun hHeld => ?_)
       generalize wr.drew=w13 at BK197 HB hHeld ⊢
       refine pure_ (i:=0) (N:=some 30) (v:=?_) (a':=?_) #[true,false,false,false,false,false] rfl rfl (by kernel_rfl) (fun _ _ _ h => h) (Or.inl ⟨by rfl,?_⟩) ?_ ?_
       rotate_left
       ·intro w'
        go_simp
        with_reducible rfl
       rotate_left
       ·simp only [Act.put,List.setIfInBounds_toArray,List.set_cons_zero,List.set_cons_succ,i64_w,i32_w]
        rfl
       refine pure_ (i:=1) (N:=some 31) (v:=?_) (a':=?_) #[true,true,false,false,false,false] rfl rfl (by kernel_rfl) (fun _ _ _ h => h) (Or.inl ⟨by rfl,?_⟩) ?_ ?_
       rotate_left
       ·intro w'
        go_simp
        with_reducible rfl
       rotate_left
       ·simp only [Act.put,List.setIfInBounds_toArray,List.set_cons_zero,List.set_cons_succ,i64_w,i32_w]
        rfl
       refine pure_ (i:=3) (N:=some 33) (v:=?_) (a':=?_) #[true,true,false,true,false,false] rfl rfl (by kernel_rfl) (fun _ _ _ h => h) (Or.inl ⟨by rfl,?_⟩) ?_ ?_
       rotate_left
       ·intro w'
        go_simp
        with_reducible rfl
       rotate_left
       ·simp only [Act.put,List.setIfInBounds_toArray,List.set_cons_zero,List.set_cons_succ,i64_w,i32_w]
        rfl
       refine take_ (i:=2) (N:=some 32) (v:=?_) (a':=?_) #[true,true,true,true,false,false] rfl rfl (by kernel_rfl) (fun _ _ _ h => h) (Or.inl ⟨by rfl,?_⟩) hHeld ?_ ?_
       rotate_left
       ·rintro w' ⟨s0,s1,s2,s3,s4,s5,s6,s7⟩
        go_simp
        with_reducible rfl
       rotate_left
       ·simp only [Act.put,List.setIfInBounds_toArray,List.set_cons_zero,List.set_cons_succ,i64_w,i32_w]
        rfl
       refine take_ (i:=4) (N:=some 34) (v:=?_) (a':=?_) #[true,true,true,true,true,false] rfl rfl (by kernel_rfl) (fun _ _ _ h => h) (Or.inl ⟨by rfl,?_⟩) hHeld ?_ ?_
       rotate_left
       ·rintro w' ⟨s0,s1,s2,s3,s4,s5,s6,s7⟩
        go_simp
        with_reducible rfl
       rotate_left
       ·simp only [Act.put,List.setIfInBounds_toArray,List.set_cons_zero,List.set_cons_succ,i64_w,i32_w]
        rfl
       refine pure_ (i:=5) (N:=some 35) (v:=?_) (a':=?_) #[true,true,true,true,true,true] rfl rfl (by kernel_rfl) (fun _ _ _ h => h) (Or.inl ⟨by rfl,?_⟩) ?_ ?_
       rotate_left
       ·intro w'
        go_simp
        with_reducible rfl
       rotate_left
       ·simp only [Act.put,List.setIfInBounds_toArray,List.set_cons_zero,List.set_cons_succ,i64_w,i32_w]
        rfl
       refine done_ (by kernel_rfl) ?_
       try go_wp2
       go_roundg k1
       case measure => have:=HK1.out;omega
       case rel => exact ⟨(x7_1),(wrap64 (x8_1 + 1)),(by first|rfl|(simp;done)|(simp [*];done)),(by first|rfl|(simp;done)|(simp [*];done)),H',⟨by have:=HK1.out;omega⟩,⟨by (with_reducible repeat (first|refine Zk ?_ _|refine Zn ?_|refine Zl ?_ _));exact BK197.out⟩,⟨by repeat (first|(with_reducible first|exact HB.out|apply Ze|apply Zc|apply Zd|refine Zg ?_ GE197.out)|exact HB.out)⟩⟩
     ·rw [if_neg c9] at H
      exact absurd H (by simp)
    ·rw [if_neg c8] at H
     have c8b0 : decide (x8_1 < (a1.size : Int))=false:=decide_eq_false c8
     clear c8
     obtain ⟨y199,hy199⟩ : ∃ y_ : List Int,y_=(([] : List Int)):=⟨_,rfl⟩
     replace H : (Zi.l1 k1 a1 x7_1 y199 0 a0_0 a0_1 a0_2 a0_3 a0_4 a0_5 a0_6 a0_7)=some (r1,r2,r3):=by first|(rw [hy199];with_reducible exact H)|(have H2_:=(Option.bind_some _ _).symm.trans H;rw [hy199];with_reducible exact H2_)|(have H2_:=(Option.bind_some _ _).symm.trans H;with_reducible exact H2_)|with_reducible exact H|(rw [hy199];exact H)|exact H
     have Ny199:=Zf.mk hy199
     clear hy199
     have H':=Zf.mk H
     clear H
     go_wp2_with (first|((with_reducible refine Yh (N:=37) rfl ?_);refine Kd.R_lit (Kd.int .i32) _ 21 ?hg (N:=37) ?hd (xs:=([] : List Int)) (inner:=[]) (ok:=fun _ => True) (okp:=fun _ => True) ?hr ?hp (fun _ hk => hk) trivial (Below.refl _ _) (Nat.le_refl _) (by simp) ?_;(case hd => rfl);(case hg => rfl);(case hr => first|(go_simp;done)|(go_simp;rfl));(case hp => exact (Reps.none _ _));intro v200 w14 ho15 hb hg_ hnew_;clear hg_ hnew_;(first|rw [← Ny199.out] at ho15|(simp only [Int.reduceToNat] at ho15;rw [← Ny199.out] at ho15));have n0_:=Zf.mk (Kd.R_lower ho15 (Zo (by repeat (first|(with_reducible first|exact HB.out|apply Ze|apply Zc|apply Zd|refine Zg ?_ GE197.out)|exact HB.out))));have n1_:=Zf.mk (Zw (g:=gb197) (o:=.cells #[.int .i64 a0_0,.int .i64 a0_1,.int .i64 a0_2,.int .i64 a0_3,.int .i64 a0_4,.int .i64 a0_5,.int .i64 a0_6,.int .u8 a0_7] 51 (0,0)) (by (with_reducible repeat (first|refine Zk ?_ _|refine Zn ?_|refine Zl ?_ _));exact BK197.out) hb);have n2_:=Zf.mk (Zm (by repeat (first|(with_reducible first|exact HB.out|apply Ze|apply Zc|apply Zd|refine Zg ?_ GE197.out)|exact HB.out)) hb);clear BK197;clear HB;have HO201:=n0_;have BK197:=n1_;have HB:=n2_;clear n0_ n1_ n2_;clear hb ho15))
     go_loopg [9,10] k1 (fun kq v9 v10 w' => ∃ (x9_2 : List Int) (x10_2 : Int),v10=.int .i64 x10_2∧Zf (Zi.l1 kq a1 x7_1 x9_2 x10_2 a0_0 a0_1 a0_2 a0_3 a0_4 a0_5 a0_6 a0_7=some (r1,r2,r3))∧Zf (kq≤k1)∧Zf (Kd.R (Kd.int .i32) 21 w' w.heap.size (fun _ => True) v9 x9_2)∧Zf (w'.heap[gb197]?=some (.cells #[.int .i64 a0_0,.int .i64 a0_1,.int .i64 a0_2,.int .i64 a0_3,.int .i64 a0_4,.int .i64 a0_5,.int .i64 a0_6,.int .u8 a0_7] 51 (0,0)))∧Zf (Below w.heap.size w w'))
     case atStart => exact ⟨(y199),(0),(by first|rfl|(simp;done)|(simp [*];done)),H',⟨Nat.le_refl _⟩,⟨by (with_reducible repeat (first|apply Kd.Zv|apply Kd.Zu|apply Kd.Zz));exact HO201.out⟩,⟨by (with_reducible repeat (first|refine Zk ?_ _|refine Zn ?_|refine Zl ?_ _));exact BK197.out⟩,⟨by repeat (first|(with_reducible first|exact HB.out|apply Ze|apply Zc|apply Zd|refine Zg ?_ GE197.out)|exact HB.out)⟩⟩
     case round =>
      clear H'
      try clear c1
      try clear p1
      try clear q1
      try clear hx1
      try clear c2
      try clear p2
      try clear c3
      try clear c4
      try clear p6
      try clear c8
      try clear c8b0
      try clear c9
      try clear c9b0
      try clear p10
      try clear q10
      try clear hx10
      try clear c11
      try clear c11b0
      try clear c11b1
      try clear hcz6_0
      try clear hcz6_1
      try clear hcz6_2
      try clear hcz6_3
      try clear hcz6_4
      try clear hcz6_5
      try clear hcz6_6
      try clear hcz6_7
      try clear hfz6_0
      try clear hfz6_1
      try clear hfz6_2
      try clear hfz6_3
      try clear hfz6_4
      try clear hfz6_5
      try clear hfz6_6
      try clear hfz6_7
      try clear p10
      try clear p2
      try clear q10
      obtain ⟨x9_2,x10_2,rfl,HA,HK2,HO_9,BK197,HB⟩:=hrel
      cases gk with
      | zero => exact absurd HA.out (by simp [Zi.l1])
      | succ k2 =>
       have H:=HA.out
       clear HA
       simp only [Zi.l1] at H
       by_cases c16 : x10_2 < x7_1
       ·rw [if_pos c16] at H
        have c16b0 : decide (x10_2 < x7_1)=true:=decide_eq_true c16
        clear c16
        by_cases c17 : 0≤x10_2
        ·rw [if_pos c17] at H
         have c17b0 : decide (0≤x10_2)=true:=decide_eq_true c17
         clear c17
         by_cases c18 : x10_2 < (a1.size : Int)
         ·rw [if_pos c18] at H
          have c18b0 : decide (x10_2 < (a1.size : Int))=true:=decide_eq_true c18
          clear c18
          replace H:=Option.bind_eq_some_iff.mp H
          obtain ⟨t202,A200,H⟩:=H
          replace H : (if t202=true then (if x9_2.length < 35184372088832 then (Zi.l1 k2 a1 x7_1 (x9_2++[wrap32 (bt a1 x10_2)]) (wrap64 (x10_2 + 1)) a0_0 a0_1 a0_2 a0_3 a0_4 a0_5 a0_6 a0_7) else (none)) else (some (([] : List Int),x10_2,141)))=some (r1,r2,r3):=H
          have A20:=Zf.mk A200
          clear A200
          by_cases c21 : t202=true
          ·subst c21
           have H1 : (if x9_2.length < 35184372088832 then (Zi.l1 k2 a1 x7_1 (x9_2++[wrap32 (bt a1 x10_2)]) (wrap64 (x10_2 + 1)) a0_0 a0_1 a0_2 a0_3 a0_4 a0_5 a0_6 a0_7) else (none))=some (r1,r2,r3):=by rw [if_pos rfl] at H;exact H
           clear H
           have H:=H1
           clear H1
           by_cases c23 : x9_2.length < 35184372088832
           ·rw [if_pos c23] at H
            have LMc23:=Zf.mk c23
            clear c23
            obtain ⟨y203,hy203⟩ : ∃ y_ : List Int,y_=(x9_2++[wrap32 (bt a1 x10_2)]):=⟨_,rfl⟩
            replace H : (Zi.l1 k2 a1 x7_1 y203 (wrap64 (x10_2 + 1)) a0_0 a0_1 a0_2 a0_3 a0_4 a0_5 a0_6 a0_7)=some (r1,r2,r3):=by first|(rw [hy203];with_reducible exact H)|(have H2_:=(Option.bind_some _ _).symm.trans H;rw [hy203];with_reducible exact H2_)|(have H2_:=(Option.bind_some _ _).symm.trans H;with_reducible exact H2_)|with_reducible exact H|(rw [hy203];exact H)|exact H
            have Ny203:=Zf.mk hy203
            clear hy203
            have H':=Zf.mk H
            clear H
            try go_wp2
            have n0_:=Zf.mk (Kd.Zz HO_9.out)
            have n1_:=Zf.mk (Zn BK197.out)
            have n2_:=Zf.mk (Zd HB.out)
            clear HO_9
            clear BK197
            clear HB
            have HO_9:=n0_
            have BK197:=n1_
            have HB:=n2_
            clear n0_ n1_ n2_
            have p19 : 0≤(x10_2 : Int):=of_decide_eq_true (by first|(with_reducible assumption)|assumption)
            have q19 : x10_2 < (a1.size : Int):=of_decide_eq_true (by first|(with_reducible assumption)|assumption)
            have hx19:=bt_at a1 x10_2
            replace p19:=eq_true p19
            replace q19:=eq_true q19
            refine start_ (n:=7) (S:=fun w' => w'.cell? ⟨gb197,0,none⟩=some (.int .i64 a0_0)∧w'.cell? ⟨gb197,1,none⟩=some (.int .i64 a0_1)∧w'.cell? ⟨gb197,2,none⟩=some (.int .i64 a0_2)∧w'.cell? ⟨gb197,3,none⟩=some (.int .i64 a0_3)∧w'.cell? ⟨gb197,4,none⟩=some (.int .i64 a0_4)∧w'.cell? ⟨gb197,5,none⟩=some (.int .i64 a0_5)∧w'.cell? ⟨gb197,6,none⟩=some (.int .i64 a0_6)∧w'.cell? ⟨gb197,7,none⟩=some (.int .u8 a0_7)) (ds:=[]) #[false,false,false,false,false,false,false] (by kernel_rfl) rfl rfl ⟨(Zb BK197.out 0).trans rfl,(Zb BK197.out 1).trans rfl,(Zb BK197.out 2).trans rfl,(Zb BK197.out 3).trans rfl,(Zb BK197.out 4).trans rfl,(Zb BK197.out 5).trans rfl,(Zb BK197.out 6).trans rfl,(Zb BK197.out 7).trans rfl⟩ (fun hHeld => ?_)
            generalize wr.drew=w24 at HO_9 BK197 HB hHeld ⊢
            refine pure_ (i:=1) (N:=some 44) (v:=?_) (a':=?_) #[false,true,false,false,false,false,false] rfl rfl (by kernel_rfl) (fun _ _ _ h => h) (Or.inl ⟨by rfl,?_⟩) ?_ ?_
            rotate_left
            ·intro w'
             go_simp
             with_reducible rfl
            rotate_left
            ·simp only [Act.put,List.setIfInBounds_toArray,List.set_cons_zero,List.set_cons_succ,i64_w,i32_w]
             rfl
            refine pure_ (i:=2) (N:=some 45) (v:=?_) (a':=?_) #[false,true,true,false,false,false,false] rfl rfl (by kernel_rfl) (fun _ _ _ h => h) (Or.inl ⟨by rfl,?_⟩) ?_ ?_
            rotate_left
            ·intro w'
             go_simp
             with_reducible rfl
            rotate_left
            ·simp only [Act.put,List.setIfInBounds_toArray,List.set_cons_zero,List.set_cons_succ,i64_w,i32_w]
             rfl
            refine take_ (i:=0) (N:=some 43) (v:=?_) (a':=?_) #[true,true,true,false,false,false,false] rfl rfl (by kernel_rfl) (fun _ _ _ h => h) (Or.inl ⟨by rfl,?_⟩) hHeld ?_ ?_
            rotate_left
            ·rintro w' ⟨s0,s1,s2,s3,s4,s5,s6,s7⟩
             go_simp
             with_reducible rfl
            rotate_left
            ·simp only [Act.put,List.setIfInBounds_toArray,List.set_cons_zero,List.set_cons_succ,i64_w,i32_w]
             rfl
            refine take_ (i:=3) (N:=some 46) (v:=?_) (a':=?_) #[true,true,true,true,false,false,false] rfl rfl (by kernel_rfl) (fun _ _ _ h => h) (Or.inl ⟨by rfl,?_⟩) hHeld ?_ ?_
            rotate_left
            ·rintro w' ⟨s0,s1,s2,s3,s4,s5,s6,s7⟩
             go_simp
             with_reducible rfl
            rotate_left
            ·simp only [Act.put,List.setIfInBounds_toArray,List.set_cons_zero,List.set_cons_succ,i64_w,i32_w]
             rfl
            refine pure_ (i:=4) (N:=some 47) (v:=?_) (a':=?_) #[true,true,true,true,true,false,false] rfl rfl (by kernel_rfl) (fun _ _ _ h => h) (Or.inl ⟨by rfl,?_⟩) ?_ ?_
            rotate_left
            ·intro w'
             go_simp
             with_reducible rfl
            rotate_left
            ·simp only [Act.put,List.setIfInBounds_toArray,List.set_cons_zero,List.set_cons_succ,i64_w,i32_w]
             rfl
            refine one_ (i:=5) (N:=some 48) #[true,true,true,true,true,true,false] rfl rfl (by kernel_rfl) (by decide) (fun K hK => ?_)
            refine goes_ Tryd.func41 (by kernel_rfl) rfl #[.agg #[.int .i64 a0_0,.int .i64 a0_1,.int .i64 a0_2,.int .i64 a0_3,.int .i64 a0_4,.int .i64 a0_5,.int .i64 a0_6,.int .u8 a0_7],.int .i32 (wrap32 (bt a1 x10_2))] (by rfl) rfl rfl (by (try simp only [List.map_toArray,List.map_cons,List.map_nil]);first|done|rfl|(simp only [List.length_drop,List.length_take];rfl)) ?_
            with_reducible refine (Yf.calls a0_0 a0_1 a0_2 a0_3 a0_4 a0_5 a0_6 a0_7 (wrap32 (bt a1 x10_2)) true _ A20.out).mono ?_
            rintro e w25 ⟨rfl,hb⟩
            refine ⟨_,rfl,?_⟩
            have n0_:=Zf.mk (Kd.Z9 (by (with_reducible repeat (first|apply Kd.Zv|apply Kd.Zu|apply Kd.Zz));exact HO_9.out) hb)
            have n1_:=Zf.mk (Zw (g:=gb197) (o:=.cells #[.int .i64 a0_0,.int .i64 a0_1,.int .i64 a0_2,.int .i64 a0_3,.int .i64 a0_4,.int .i64 a0_5,.int .i64 a0_6,.int .u8 a0_7] 51 (0,0)) (by (with_reducible repeat (first|refine Zk ?_ _|refine Zn ?_|refine Zl ?_ _));exact BK197.out) hb)
            have n2_:=Zf.mk (Zm (by repeat (first|(with_reducible first|exact HB.out|apply Ze|apply Zc|apply Zd|refine Zg ?_ GE197.out)|exact HB.out)) hb)
            clear HO_9
            clear BK197
            clear HB
            have HO_9:=n0_
            have BK197:=n1_
            have HB:=n2_
            clear n0_ n1_ n2_
            (try clear hb)
            (try clear hb2)
            (try clear hk)
            (try clear hi)
            refine hK.out _ _ ⟨(Zb BK197.out 0).trans rfl,(Zb BK197.out 1).trans rfl,(Zb BK197.out 2).trans rfl,(Zb BK197.out 3).trans rfl,(Zb BK197.out 4).trans rfl,(Zb BK197.out 5).trans rfl,(Zb BK197.out 6).trans rfl,(Zb BK197.out 7).trans rfl⟩ (fun hHeld => ?_)
            clear hK K
            refine norm_ (a':=?_) ?_ ?_
            rotate_left
            ·show Act.put _ (some 48) _=_
             simp only [Act.put,List.setIfInBounds_toArray,List.set_cons_zero,List.set_cons_succ,i64_w,i32_w]
             rfl
            refine pure_ (i:=6) (N:=some 49) (v:=?_) (a':=?_) #[true,true,true,true,true,true,true] rfl rfl (by kernel_rfl) (fun _ _ _ h => h) (Or.inl ⟨by rfl,?_⟩) ?_ ?_
            rotate_left
            ·intro w'
             go_simp
             with_reducible rfl
            rotate_left
            ·simp only [Act.put,List.setIfInBounds_toArray,List.set_cons_zero,List.set_cons_succ,i64_w,i32_w]
             rfl
            refine done_ (by kernel_rfl) ?_
            have p22 : 0≤(x10_2 : Int):=of_decide_eq_true (by first|(with_reducible assumption)|assumption)
            have q22 : x10_2 < (a1.size : Int):=of_decide_eq_true (by first|(with_reducible assumption)|assumption)
            have hx22:=bt_at a1 x10_2
            replace p22:=eq_true p22
            replace q22:=eq_true q22
            try go_wp2_with (first|((with_reducible refine gate_builtin (b:=.append) (xs:=#[.tmp 51,.tmp 56]) rfl ?_);at_builtin;refine Kd.R_append (Kd.int .i32) (w0:=w) w.heap.size rfl (.tmp 51) (.tmp 56) 22 21 (.int .i32 0) 4 rfl Tryd.underlying22 info21 rfl (by decide) (by omega) u9 x9_2 (wrap32 (bt a1 x10_2)) [.int .i32 (wrap32 (bt a1 x10_2))] (fun _ => True) (fun _ => False) rfl rfl ?aP (fun _ hk => hk.elim) ?aF ?aO ?aB ?aS ?aL ?_;(case aP => exact rfl);(case aB => exact (by repeat (first|(with_reducible first|exact HB.out|apply Ze|apply Zc|apply Zd|refine Zg ?_ GE197.out)|exact HB.out)));(case aF => exact (fun _ _ => trivial));(case aO => exact (by (with_reducible repeat (first|apply Kd.Zv|apply Kd.Zu|apply Kd.Zz));exact HO_9.out));(case aS => exact (Zo (by repeat (first|(with_reducible first|exact HB.out|apply Ze|apply Zc|apply Zd|refine Zg ?_ GE197.out)|exact HB.out))));(case aL => have:=LMc23.out;omega);intro v204 w26 ho hb hg hat;rw [← Ny203.out] at ho;have n0_:=Zf.mk (blk_grown (g:=gb197) (o:=.cells #[.int .i64 a0_0,.int .i64 a0_1,.int .i64 a0_2,.int .i64 a0_3,.int .i64 a0_4,.int .i64 a0_5,.int .i64 a0_6,.int .u8 a0_7] 51 (0,0)) (by (with_reducible repeat (first|refine Zk ?_ _|refine Zn ?_|refine Zl ?_ _));exact BK197.out) hg (Kd.R_ne HO_9.out BK197.out (by decide)));have n1_:=Zf.mk (hb);have n2_:=Zf.mk (ho);clear BK197;clear HB;clear HO_9;have BK197:=n0_;have HB:=n1_;have HO205:=n2_;clear n0_ n1_ n2_;clear ho hb hg hat))
            go_roundg k2
            case measure => have:=HK1.out;have:=HK2.out;omega
            case rel => exact ⟨(y203),(wrap64 (x10_2 + 1)),(by first|rfl|(simp;done)|(simp [*];done)),H',⟨by have:=HK1.out;have:=HK2.out;omega⟩,⟨by (with_reducible repeat (first|apply Kd.Zv|apply Kd.Zu|apply Kd.Zz));exact HO205.out⟩,⟨by (with_reducible repeat (first|refine Zk ?_ _|refine Zn ?_|refine Zl ?_ _));exact BK197.out⟩,⟨by repeat (first|(with_reducible first|exact HB.out|apply Ze|apply Zc|apply Zd|refine Zg ?_ GE197.out)|exact HB.out)⟩⟩
           ·rw [if_neg c23] at H
            exact absurd H (by simp)
          ·replace c21:=Bool.eq_false_iff.mpr c21
           subst c21
           have H1 : (some (([] : List Int),x10_2,141))=some (r1,r2,r3):=by rw [if_neg (show ¬ (false=true) by decide)] at H;exact H
           clear H
           have H:=H1
           clear H1
           simp only [Option.some.injEq,Prod.mk.injEq] at H
           obtain ⟨rfl,rfl,rfl⟩:=H
           try go_wp2
           have n0_:=Zf.mk (Kd.Zz HO_9.out)
           have n1_:=Zf.mk (Zn BK197.out)
           have n2_:=Zf.mk (Zd HB.out)
           clear HO_9
           clear BK197
           clear HB
           have HO_9:=n0_
           have BK197:=n1_
           have HB:=n2_
           clear n0_ n1_ n2_
           have p19 : 0≤(x10_2 : Int):=of_decide_eq_true (by first|(with_reducible assumption)|assumption)
           have q19 : x10_2 < (a1.size : Int):=of_decide_eq_true (by first|(with_reducible assumption)|assumption)
           have hx19:=bt_at a1 x10_2
           replace p19:=eq_true p19
           replace q19:=eq_true q19
           refine start_ (n:=7) (S:=fun w' => w'.cell? ⟨gb197,0,none⟩=some (.int .i64 a0_0)∧w'.cell? ⟨gb197,1,none⟩=some (.int .i64 a0_1)∧w'.cell? ⟨gb197,2,none⟩=some (.int .i64 a0_2)∧w'.cell? ⟨gb197,3,none⟩=some (.int .i64 a0_3)∧w'.cell? ⟨gb197,4,none⟩=some (.int .i64 a0_4)∧w'.cell? ⟨gb197,5,none⟩=some (.int .i64 a0_5)∧w'.cell? ⟨gb197,6,none⟩=some (.int .i64 a0_6)∧w'.cell? ⟨gb197,7,none⟩=some (.int .u8 a0_7)) (ds:=[]) #[false,false,false,false,false,false,false] (by kernel_rfl) rfl rfl ⟨(Zb BK197.out 0).trans rfl,(Zb BK197.out 1).trans rfl,(Zb BK197.out 2).trans rfl,(Zb BK197.out 3).trans rfl,(Zb BK197.out 4).trans rfl,(Zb BK197.out 5).trans rfl,(Zb BK197.out 6).trans rfl,(Zb BK197.out 7).trans rfl⟩ (fun hHeld => ?_)
           generalize wr.drew=w27 at HO_9 BK197 HB hHeld ⊢
           refine pure_ (i:=1) (N:=some 44) (v:=?_) (a':=?_) #[false,true,false,false,false,false,false] rfl rfl (by kernel_rfl) (fun _ _ _ h => h) (Or.inl ⟨by rfl,?_⟩) ?_ ?_
           rotate_left
           ·intro w'
            go_simp
            with_reducible rfl
           rotate_left
           ·simp only [Act.put,List.setIfInBounds_toArray,List.set_cons_zero,List.set_cons_succ,i64_w,i32_w]
            rfl
           refine pure_ (i:=2) (N:=some 45) (v:=?_) (a':=?_) #[false,true,true,false,false,false,false] rfl rfl (by kernel_rfl) (fun _ _ _ h => h) (Or.inl ⟨by rfl,?_⟩) ?_ ?_
           rotate_left
           ·intro w'
            go_simp
            with_reducible rfl
           rotate_left
           ·simp only [Act.put,List.setIfInBounds_toArray,List.set_cons_zero,List.set_cons_succ,i64_w,i32_w]
            rfl
           refine take_ (i:=0) (N:=some 43) (v:=?_) (a':=?_) #[true,true,true,false,false,false,false] rfl rfl (by kernel_rfl) (fun _ _ _ h => h) (Or.inl ⟨by rfl,?_⟩) hHeld ?_ ?_
           rotate_left
           ·rintro w' ⟨s0,s1,s2,s3,s4,s5,s6,s7⟩
            go_simp
            with_reducible rfl
           rotate_left
           ·simp only [Act.put,List.setIfInBounds_toArray,List.set_cons_zero,List.set_cons_succ,i64_w,i32_w]
            rfl
           refine take_ (i:=3) (N:=some 46) (v:=?_) (a':=?_) #[true,true,true,true,false,false,false] rfl rfl (by kernel_rfl) (fun _ _ _ h => h) (Or.inl ⟨by rfl,?_⟩) hHeld ?_ ?_
           rotate_left
           ·rintro w' ⟨s0,s1,s2,s3,s4,s5,s6,s7⟩
            go_simp
            with_reducible rfl
           rotate_left
           ·simp only [Act.put,List.setIfInBounds_toArray,List.set_cons_zero,List.set_cons_succ,i64_w,i32_w]
            rfl
           refine pure_ (i:=4) (N:=some 47) (v:=?_) (a':=?_) #[true,true,true,true,true,false,false] rfl rfl (by kernel_rfl) (fun _ _ _ h => h) (Or.inl ⟨by rfl,?_⟩) ?_ ?_
           rotate_left
           ·intro w'
            go_simp
            with_reducible rfl
           rotate_left
           ·simp only [Act.put,List.setIfInBounds_toArray,List.set_cons_zero,List.set_cons_succ,i64_w,i32_w]
            rfl
           refine one_ (i:=5) (N:=some 48) #[true,true,true,true,true,true,false] rfl rfl (by kernel_rfl) (by decide) (fun K hK => ?_)
           refine goes_ Tryd.func41 (by kernel_rfl) rfl #[.agg #[.int .i64 a0_0,.int .i64 a0_1,.int .i64 a0_2,.int .i64 a0_3,.int .i64 a0_4,.int .i64 a0_5,.int .i64 a0_6,.int .u8 a0_7],.int .i32 (wrap32 (bt a1 x10_2))] (by rfl) rfl rfl (by (try simp only [List.map_toArray,List.map_cons,List.map_nil]);first|done|rfl|(simp only [List.length_drop,List.length_take];rfl)) ?_
           with_reducible refine (Yf.calls a0_0 a0_1 a0_2 a0_3 a0_4 a0_5 a0_6 a0_7 (wrap32 (bt a1 x10_2)) false _ A20.out).mono ?_
           rintro e w28 ⟨rfl,hb⟩
           refine ⟨_,rfl,?_⟩
           have n0_:=Zf.mk (Kd.Z9 (by (with_reducible repeat (first|apply Kd.Zv|apply Kd.Zu|apply Kd.Zz));exact HO_9.out) hb)
           have n1_:=Zf.mk (Zw (g:=gb197) (o:=.cells #[.int .i64 a0_0,.int .i64 a0_1,.int .i64 a0_2,.int .i64 a0_3,.int .i64 a0_4,.int .i64 a0_5,.int .i64 a0_6,.int .u8 a0_7] 51 (0,0)) (by (with_reducible repeat (first|refine Zk ?_ _|refine Zn ?_|refine Zl ?_ _));exact BK197.out) hb)
           have n2_:=Zf.mk (Zm (by repeat (first|(with_reducible first|exact HB.out|apply Ze|apply Zc|apply Zd|refine Zg ?_ GE197.out)|exact HB.out)) hb)
           clear HO_9
           clear BK197
           clear HB
           have HO_9:=n0_
           have BK197:=n1_
           have HB:=n2_
           clear n0_ n1_ n2_
           (try clear hb)
           (try clear hb2)
           (try clear hk)
           (try clear hi)
           refine hK.out _ _ ⟨(Zb BK197.out 0).trans rfl,(Zb BK197.out 1).trans rfl,(Zb BK197.out 2).trans rfl,(Zb BK197.out 3).trans rfl,(Zb BK197.out 4).trans rfl,(Zb BK197.out 5).trans rfl,(Zb BK197.out 6).trans rfl,(Zb BK197.out 7).trans rfl⟩ (fun hHeld => ?_)
           clear hK K
           refine norm_ (a':=?_) ?_ ?_
           rotate_left
           ·show Act.put _ (some 48) _=_
            simp only [Act.put,List.setIfInBounds_toArray,List.set_cons_zero,List.set_cons_succ,i64_w,i32_w]
            rfl
           refine pure_ (i:=6) (N:=some 49) (v:=?_) (a':=?_) #[true,true,true,true,true,true,true] rfl rfl (by kernel_rfl) (fun _ _ _ h => h) (Or.inl ⟨by rfl,?_⟩) ?_ ?_
           rotate_left
           ·intro w'
            go_simp
            with_reducible rfl
           rotate_left
           ·simp only [Act.put,List.setIfInBounds_toArray,List.set_cons_zero,List.set_cons_succ,i64_w,i32_w]
            rfl
           refine done_ (by kernel_rfl) ?_
           try go_wp2
           go_ret3
           exact ⟨_,by first|rfl|(simp [Zp,Zq] <;> rfl)|(simp [*,Zp,Zq] <;> rfl),by first|exact Kd.R_nil _ _ _ _ _|exact Kd.N_nil _ _ _ _ _|exact Kd.V_nil _ _ _ _ _|exact Kd.Q_nil _ _ _ _ _|exact Kd.S_nil _ _ _ _ _,by repeat (first|(with_reducible first|exact HB.out|apply Ze|apply Zc|apply Zd|refine Zg ?_ GE197.out)|exact HB.out)⟩
         ·rw [if_neg c18] at H
          exact absurd H (by simp)
        ·rw [if_neg c17] at H
         exact absurd H (by simp)
       ·rw [if_neg c16] at H
        have c16b0 : decide (x10_2 < x7_1)=false:=decide_eq_false c16
        clear c16
        have HC29:=Zf.mk H
        clear H
        go_upto_if 59 with (fail)
        go_cut [7] (fun v7 wc => ∃ (kq : Nat) (x7_28 : Int),v7=.int .i64 x7_28∧Zf (Zi.j2 kq a1 x7_28 x9_2 a0_0 a0_1 a0_2 a0_3 a0_4 a0_5 a0_6 a0_7=some (r1,r2,r3))∧Zf (kq≤k2)∧Zf (Kd.R (Kd.int .i32) 21 wc w.heap.size (fun _ => True) u9 x9_2)∧Zf (wc.heap[gb197]?=some (.cells #[.int .i64 a0_0,.int .i64 a0_1,.int .i64 a0_2,.int .i64 a0_3,.int .i64 a0_4,.int .i64 a0_5,.int .i64 a0_6,.int .u8 a0_7] 51 (0,0)))∧Zf (Below w.heap.size w wc))
        case first =>
         have H:=HC29.out
         clear HC29
         by_cases c30 : x7_1 > 0
         ·rw [if_pos c30] at H
          have c30b0 : decide (0 < x7_1)=true:=decide_eq_true c30
          clear c30
          (first|rw [c30b0]|rw [c30b1]|(simp only [i64_w,i32_w];rw [c30b0])|skip)
          have H':=Zf.mk H
          clear H
          go_wp2
          go_meet
          case rel => exact ⟨_,(wrap64 (x7_1 + 1)),(by first|rfl|(simp;done)|(simp [*];done)),H',⟨by have:=HK1.out;have:=HK2.out;first|omega|exact Nat.le_refl _⟩,⟨by (with_reducible repeat (first|apply Kd.Zv|apply Kd.Zu|apply Kd.Zz));exact HO_9.out⟩,⟨by (with_reducible repeat (first|refine Zk ?_ _|refine Zn ?_|refine Zl ?_ _));exact BK197.out⟩,⟨by repeat (first|(with_reducible first|exact HB.out|apply Ze|apply Zc|apply Zd|refine Zg ?_ GE197.out)|exact HB.out)⟩⟩
         ·rw [if_neg c30] at H
          have c30b0 : decide (0 < x7_1)=false:=decide_eq_false c30
          clear c30
          (first|rw [c30b0]|rw [c30b1]|(simp only [i64_w,i32_w];rw [c30b0])|skip)
          have H':=Zf.mk H
          clear H
          go_wp2
          go_meet
          case rel => exact ⟨_,(x7_1),(by first|rfl|(simp;done)|(simp [*];done)),H',⟨by have:=HK1.out;have:=HK2.out;first|omega|exact Nat.le_refl _⟩,⟨by (with_reducible repeat (first|apply Kd.Zv|apply Kd.Zu|apply Kd.Zz));exact HO_9.out⟩,⟨by (with_reducible repeat (first|refine Zk ?_ _|refine Zn ?_|refine Zl ?_ _));exact BK197.out⟩,⟨by repeat (first|(with_reducible first|exact HB.out|apply Ze|apply Zc|apply Zd|refine Zg ?_ GE197.out)|exact HB.out)⟩⟩
        case rest =>
         clear HC29
         try clear c1
         try clear p1
         try clear q1
         try clear hx1
         try clear c2
         try clear p2
         try clear q2
         try clear hx2
         try clear c3
         try clear p3
         try clear c4
         try clear p6
         try clear c8
         try clear c8b0
         try clear c9
         try clear c9b0
         try clear p10
         try clear q10
         try clear hx10
         try clear c11
         try clear c11b0
         try clear c11b1
         try clear c16
         try clear c16b0
         try clear c17
         try clear c17b0
         try clear c18
         try clear c18b0
         try clear p19
         try clear q19
         try clear hx19
         try clear c21
         try clear p22
         try clear q22
         try clear hx22
         try clear c23
         try clear c25
         try clear c30
         try clear c30b0
         try clear hcz6_0
         try clear hcz6_1
         try clear hcz6_2
         try clear hcz6_3
         try clear hcz6_4
         try clear hcz6_5
         try clear hcz6_6
         try clear hcz6_7
         try clear hfz6_0
         try clear hfz6_1
         try clear hfz6_2
         try clear hfz6_3
         try clear hfz6_4
         try clear hfz6_5
         try clear hfz6_6
         try clear hfz6_7
         try clear p1
         try clear p10
         try clear p19
         try clear p2
         try clear p22
         try clear p6
         try clear q1
         try clear q10
         try clear q19
         try clear q22
         obtain ⟨kq,x7_28,rfl,HA,HJ28,HO_9,BK197,HB⟩:=hcut
         cases kq with
         | zero => exact absurd HA.out (by simp [Zi.j2])
         | succ kj28 =>
          have H:=HA.out
          clear HA
          simp only [Zi.j2] at H
          have H':=Zf.mk H
          clear H
          try go_wp2
          have n0_:=Zf.mk (Kd.Zz HO_9.out)
          have n1_:=Zf.mk (Zn BK197.out)
          have n2_:=Zf.mk (Zd HB.out)
          clear HO_9
          clear BK197
          clear HB
          have HO_9:=n0_
          have BK197:=n1_
          have HB:=n2_
          clear n0_ n1_ n2_
          refine start_ (n:=7) (S:=fun w' => w'.cell? ⟨gb197,0,none⟩=some (.int .i64 a0_0)∧w'.cell? ⟨gb197,1,none⟩=some (.int .i64 a0_1)∧w'.cell? ⟨gb197,2,none⟩=some (.int .i64 a0_2)∧w'.cell? ⟨gb197,3,none⟩=some (.int .i64 a0_3)∧w'.cell? ⟨gb197,4,none⟩=some (.int .i64 a0_4)∧w'.cell? ⟨gb197,5,none⟩=some (.int .i64 a0_5)∧w'.cell? ⟨gb197,6,none⟩=some (.int .i64 a0_6)∧w'.cell? ⟨gb197,7,none⟩=some (.int .u8 a0_7)) (ds:=[]) #[false,false,false,false,false,false,false] (by kernel_rfl) rfl rfl ⟨(Zb BK197.out 0).trans rfl,(Zb BK197.out 1).trans rfl,(Zb BK197.out 2).trans rfl,(Zb BK197.out 3).trans rfl,(Zb BK197.out 4).trans rfl,(Zb BK197.out 5).trans rfl,(Zb BK197.out 6).trans rfl,(Zb BK197.out 7).trans rfl⟩ (fun hHeld => ?_)
          generalize wc.drew=w31 at HO_9 BK197 HB hHeld ⊢
          refine pure_ (i:=0) (N:=some 62) (v:=?_) (a':=?_) #[true,false,false,false,false,false,false] rfl rfl (by kernel_rfl) (fun _ _ _ h => h) (Or.inl ⟨by rfl,?_⟩) ?_ ?_
          rotate_left
          ·intro w'
           go_simp
           with_reducible rfl
          rotate_left
          ·simp only [Act.put,List.setIfInBounds_toArray,List.set_cons_zero,List.set_cons_succ,i64_w,i32_w]
           rfl
          refine pure_ (i:=2) (N:=some 64) (v:=?_) (a':=?_) #[true,false,true,false,false,false,false] rfl rfl (by kernel_rfl) (fun _ _ _ h => h) (Or.inl ⟨by rfl,?_⟩) ?_ ?_
          rotate_left
          ·intro w'
           go_simp
           with_reducible rfl
          rotate_left
          ·simp only [Act.put,List.setIfInBounds_toArray,List.set_cons_zero,List.set_cons_succ,i64_w,i32_w]
           rfl
          refine take_ (i:=1) (N:=some 63) (v:=?_) (a':=?_) #[true,true,true,false,false,false,false] rfl rfl (by kernel_rfl) (fun _ _ _ h => h) (Or.inl ⟨by rfl,?_⟩) hHeld ?_ ?_
          rotate_left
          ·rintro w' ⟨s0,s1,s2,s3,s4,s5,s6,s7⟩
           go_simp
           with_reducible rfl
          rotate_left
          ·simp only [Act.put,List.setIfInBounds_toArray,List.set_cons_zero,List.set_cons_succ,i64_w,i32_w]
           rfl
          refine pure_ (i:=4) (N:=some 11) (v:=?_) (a':=?_) #[true,true,true,false,true,false,false] rfl rfl (by kernel_rfl) (fun _ _ _ h => h) (Or.inl ⟨by rfl,?_⟩) ?_ ?_
          rotate_left
          ·intro w'
           go_simp
           with_reducible rfl
          rotate_left
          ·simp only [Act.put,List.setIfInBounds_toArray,List.set_cons_zero,List.set_cons_succ,i64_w,i32_w]
           rfl
          refine pure_ (i:=5) (N:=some 12) (v:=?_) (a':=?_) #[true,true,true,false,true,true,false] rfl rfl (by kernel_rfl) (fun _ _ _ h => h) (Or.inl ⟨by rfl,?_⟩) ?_ ?_
          rotate_left
          ·intro w'
           go_simp
           with_reducible rfl
          rotate_left
          ·simp only [Act.put,List.setIfInBounds_toArray,List.set_cons_zero,List.set_cons_succ,i64_w,i32_w]
           rfl
          refine take_ (i:=3) (N:=some 65) (v:=?_) (a':=?_) #[true,true,true,true,true,true,false] rfl rfl (by kernel_rfl) (fun _ _ _ h => h) (Or.inl ⟨by rfl,?_⟩) hHeld ?_ ?_
          rotate_left
          ·rintro w' ⟨s0,s1,s2,s3,s4,s5,s6,s7⟩
           go_simp
           with_reducible rfl
          rotate_left
          ·simp only [Act.put,List.setIfInBounds_toArray,List.set_cons_zero,List.set_cons_succ,i64_w,i32_w]
           rfl
          refine pure_ (i:=6) (N:=some 13) (v:=?_) (a':=?_) #[true,true,true,true,true,true,true] rfl rfl (by kernel_rfl) (fun _ _ _ h => h) (Or.inl ⟨by rfl,?_⟩) ?_ ?_
          rotate_left
          ·intro w'
           go_simp
           with_reducible rfl
          rotate_left
          ·simp only [Act.put,List.setIfInBounds_toArray,List.set_cons_zero,List.set_cons_succ,i64_w,i32_w]
           rfl
          refine done_ (by kernel_rfl) ?_
          try go_wp2
          go_loopg [7,9,11,12,13] kj28 (fun kq v7 v9 v11 v12 v13 w' => ∃ (x7_4 : Int) (x9_4 : List Int) (x11_4 : Int) (x12_4 : Int) (x13_4 : Int),v7=.int .i64 x7_4∧v11=.int .i64 x11_4∧v12=.int .i64 x12_4∧v13=.int .i64 x13_4∧Zf (Zi.l2 kq a1 x7_4 x9_4 x11_4 x12_4 x13_4 a0_0 a0_1 a0_2 a0_3 a0_4 a0_5 a0_6 a0_7=some (r1,r2,r3))∧Zf (kq≤kj28)∧Zf (Kd.R (Kd.int .i32) 21 w' w.heap.size (fun _ => True) v9 x9_4)∧Zf (w'.heap[gb197]?=some (.cells #[.int .i64 a0_0,.int .i64 a0_1,.int .i64 a0_2,.int .i64 a0_3,.int .i64 a0_4,.int .i64 a0_5,.int .i64 a0_6,.int .u8 a0_7] 51 (0,0)))∧Zf (Below w.heap.size w w'))
          case atStart => exact ⟨(x7_28),(x9_2),(a0_6),(0),(a0_5),(by first|rfl|(simp;done)|(simp [*];done)),(by first|rfl|(simp;done)|(simp [*];done)),(by first|rfl|(simp;done)|(simp [*];done)),(by first|rfl|(simp;done)|(simp [*];done)),H',⟨Nat.le_refl _⟩,⟨by (with_reducible repeat (first|apply Kd.Zv|apply Kd.Zu|apply Kd.Zz));exact HO_9.out⟩,⟨by (with_reducible repeat (first|refine Zk ?_ _|refine Zn ?_|refine Zl ?_ _));exact BK197.out⟩,⟨by repeat (first|(with_reducible first|exact HB.out|apply Ze|apply Zc|apply Zd|refine Zg ?_ GE197.out)|exact HB.out)⟩⟩
          case round =>
           clear H'
           try clear c1
           try clear p1
           try clear q1
           try clear hx1
           try clear c2
           try clear p2
           try clear q2
           try clear hx2
           try clear c3
           try clear p3
           try clear c4
           try clear p6
           try clear c8
           try clear c8b0
           try clear c9
           try clear c9b0
           try clear p10
           try clear q10
           try clear hx10
           try clear c11
           try clear c11b0
           try clear c11b1
           try clear c16
           try clear c16b0
           try clear c17
           try clear c17b0
           try clear c18
           try clear c18b0
           try clear p19
           try clear q19
           try clear hx19
           try clear c21
           try clear p22
           try clear q22
           try clear hx22
           try clear c23
           try clear c25
           try clear c30
           try clear c30b0
           try clear hcz6_0
           try clear hcz6_1
           try clear hcz6_2
           try clear hcz6_3
           try clear hcz6_4
           try clear hcz6_5
           try clear hcz6_6
           try clear hcz6_7
           try clear hfz6_0
           try clear hfz6_1
           try clear hfz6_2
           try clear hfz6_3
           try clear hfz6_4
           try clear hfz6_5
           try clear hfz6_6
           try clear hfz6_7
           try clear p1
           try clear p10
           try clear p19
           try clear p2
           try clear p22
           try clear p3
           try clear p6
           try clear q1
           try clear q10
           try clear q19
           try clear q2
           try clear q22
           obtain ⟨x7_4,x9_4,x11_4,x12_4,x13_4,rfl,rfl,rfl,rfl,HA,HK4,HO_9,BK197,HB⟩:=hrel
           cases gk with
           | zero => exact absurd HA.out (by simp [Zi.l2])
           | succ k4 =>
            have H:=HA.out
            clear HA
            simp only [Zi.l2] at H
            by_cases c32 : x7_4 < (a1.size : Int)
            ·rw [if_pos c32] at H
             have c32b0 : decide (x7_4 < (a1.size : Int))=true:=decide_eq_true c32
             clear c32
             have H':=Zf.mk H
             clear H
             try go_wp2
             have n0_:=Zf.mk (Kd.Zz HO_9.out)
             have n1_:=Zf.mk (Zn BK197.out)
             have n2_:=Zf.mk (Zd HB.out)
             clear HO_9
             clear BK197
             clear HB
             have HO_9:=n0_
             have BK197:=n1_
             have HB:=n2_
             clear n0_ n1_ n2_
             refine start_ (n:=6) (S:=fun w' => w'.cell? ⟨gb197,0,none⟩=some (.int .i64 a0_0)∧w'.cell? ⟨gb197,1,none⟩=some (.int .i64 a0_1)∧w'.cell? ⟨gb197,2,none⟩=some (.int .i64 a0_2)∧w'.cell? ⟨gb197,3,none⟩=some (.int .i64 a0_3)∧w'.cell? ⟨gb197,4,none⟩=some (.int .i64 a0_4)∧w'.cell? ⟨gb197,5,none⟩=some (.int .i64 a0_5)∧w'.cell? ⟨gb197,6,none⟩=some (.int .i64 a0_6)∧w'.cell? ⟨gb197,7,none⟩=some (.int .u8 a0_7)) (ds:=[]) #[false,false,false,false,false,false] (by kernel_rfl) rfl rfl ⟨(Zb BK197.out 0).trans rfl,(Zb BK197.out 1).trans rfl,(Zb BK197.out 2).trans rfl,(Zb BK197.out 3).trans rfl,(Zb BK197.out 4).trans rfl,(Zb BK197.out 5).trans rfl,(Zb BK197.out 6).trans rfl,(Zb BK197.out 7).trans rfl⟩ (fun hHeld => ?_)
             generalize wr.drew=w33 at HO_9 BK197 HB hHeld ⊢
             refine pure_ (i:=0) (N:=some 70) (v:=?_) (a':=?_) #[true,false,false,false,false,false] rfl rfl (by kernel_rfl) (fun _ _ _ h => h) (Or.inl ⟨by rfl,?_⟩) ?_ ?_
             rotate_left
             ·intro w'
              go_simp
              with_reducible rfl
             rotate_left
             ·simp only [Act.put,List.setIfInBounds_toArray,List.set_cons_zero,List.set_cons_succ,i64_w,i32_w]
              rfl
             refine pure_ (i:=1) (N:=some 71) (v:=?_) (a':=?_) #[true,true,false,false,false,false] rfl rfl (by kernel_rfl) (fun _ _ _ h => h) (Or.inl ⟨by rfl,?_⟩) ?_ ?_
             rotate_left
             ·intro w'
              go_simp
              with_reducible rfl
             rotate_left
             ·simp only [Act.put,List.setIfInBounds_toArray,List.set_cons_zero,List.set_cons_succ,i64_w,i32_w]
              rfl
             refine pure_ (i:=3) (N:=some 14) (v:=?_) (a':=?_) #[true,true,false,true,false,false] rfl rfl (by kernel_rfl) (fun _ _ _ h => h) (Or.inl ⟨by rfl,?_⟩) ?_ ?_
             rotate_left
             ·intro w'
              go_simp
              with_reducible rfl
             rotate_left
             ·simp only [Act.put,List.setIfInBounds_toArray,List.set_cons_zero,List.set_cons_succ,i64_w,i32_w]
              rfl
             refine pure_ (i:=4) (N:=some 15) (v:=?_) (a':=?_) #[true,true,false,true,true,false] rfl rfl (by kernel_rfl) (fun _ _ _ h => h) (Or.inl ⟨by rfl,?_⟩) ?_ ?_
             rotate_left
             ·intro w'
              go_simp
              with_reducible rfl
             rotate_left
             ·simp only [Act.put,List.setIfInBounds_toArray,List.set_cons_zero,List.set_cons_succ,i64_w,i32_w]
              rfl
             refine take_ (i:=2) (N:=some 72) (v:=?_) (a':=?_) #[true,true,true,true,true,false] rfl rfl (by kernel_rfl) (fun _ _ _ h => h) (Or.inl ⟨by rfl,?_⟩) hHeld ?_ ?_
             rotate_left
             ·rintro w' ⟨s0,s1,s2,s3,s4,s5,s6,s7⟩
              go_simp
              with_reducible rfl
             rotate_left
             ·simp only [Act.put,List.setIfInBounds_toArray,List.set_cons_zero,List.set_cons_succ,i64_w,i32_w]
              rfl
             refine pure_ (i:=5) (N:=some 16) (v:=?_) (a':=?_) #[true,true,true,true,true,true] rfl rfl (by kernel_rfl) (fun _ _ _ h => h) (Or.inl ⟨by rfl,?_⟩) ?_ ?_
             rotate_left
             ·intro w'
              go_simp
              with_reducible rfl
             rotate_left
             ·simp only [Act.put,List.setIfInBounds_toArray,List.set_cons_zero,List.set_cons_succ,i64_w,i32_w]
              rfl
             refine done_ (by kernel_rfl) ?_
             try go_wp2
             go_loopg [7,12,15,16] k4 (fun kq v7 v12 v15 v16 w' => ∃ (x7_5 : Int) (x12_5 : Int) (x15_5 : Int) (x16_5 : Int),v7=.int .i64 x7_5∧v12=.int .i64 x12_5∧v15=.int .i64 x15_5∧v16=.int .i64 x16_5∧Zf (Zi.l3 kq a1 x7_5 x9_4 x11_4 x12_5 x13_4 x12_4 x15_5 x16_5 a0_0 a0_1 a0_2 a0_3 a0_4 a0_5 a0_6 a0_7=some (r1,r2,r3))∧Zf (kq≤k4)∧Zf (Kd.R (Kd.int .i32) 21 w' w.heap.size (fun _ => True) u9 x9_4)∧Zf (w'.heap[gb197]?=some (.cells #[.int .i64 a0_0,.int .i64 a0_1,.int .i64 a0_2,.int .i64 a0_3,.int .i64 a0_4,.int .i64 a0_5,.int .i64 a0_6,.int .u8 a0_7] 51 (0,0)))∧Zf (Below w.heap.size w w'))
             case atStart => exact ⟨(x7_4),(x12_4),(1),(a0_0),(by first|rfl|(simp;done)|(simp [*];done)),(by first|rfl|(simp;done)|(simp [*];done)),(by first|rfl|(simp;done)|(simp [*];done)),(by first|rfl|(simp;done)|(simp [*];done)),H',⟨Nat.le_refl _⟩,⟨by (with_reducible repeat (first|apply Kd.Zv|apply Kd.Zu|apply Kd.Zz));exact HO_9.out⟩,⟨by (with_reducible repeat (first|refine Zk ?_ _|refine Zn ?_|refine Zl ?_ _));exact BK197.out⟩,⟨by repeat (first|(with_reducible first|exact HB.out|apply Ze|apply Zc|apply Zd|refine Zg ?_ GE197.out)|exact HB.out)⟩⟩
             case round =>
              clear H'
              try clear c1
              try clear p1
              try clear q1
              try clear hx1
              try clear c2
              try clear p2
              try clear q2
              try clear hx2
              try clear c3
              try clear p3
              try clear c4
              try clear p6
              try clear c8
              try clear c8b0
              try clear c9
              try clear c9b0
              try clear p10
              try clear q10
              try clear hx10
              try clear c11
              try clear c11b0
              try clear c11b1
              try clear c16
              try clear c16b0
              try clear c17
              try clear c17b0
              try clear c18
              try clear c18b0
              try clear p19
              try clear q19
              try clear hx19
              try clear c21
              try clear p22
              try clear q22
              try clear hx22
              try clear c23
              try clear c25
              try clear c30
              try clear c30b0
              try clear c32
              try clear c32b0
              try clear p32
              try clear hcz6_0
              try clear hcz6_1
              try clear hcz6_2
              try clear hcz6_3
              try clear hcz6_4
              try clear hcz6_5
              try clear hcz6_6
              try clear hcz6_7
              try clear hfz6_0
              try clear hfz6_1
              try clear hfz6_2
              try clear hfz6_3
              try clear hfz6_4
              try clear hfz6_5
              try clear hfz6_6
              try clear hfz6_7
              try clear p1
              try clear p10
              try clear p19
              try clear p2
              try clear p22
              try clear p3
              try clear p6
              try clear q1
              try clear q10
              try clear q19
              try clear q2
              try clear q22
              obtain ⟨x7_5,x12_5,x15_5,x16_5,rfl,rfl,rfl,rfl,HA,HK5,HO_9,BK197,HB⟩:=hrel
              cases gk with
              | zero => exact absurd HA.out (by simp [Zi.l3])
              | succ k5 =>
               have H:=HA.out
               clear HA
               simp only [Zi.l3] at H
               by_cases c34 : x7_5=(a1.size : Int)
               ·rw [if_pos c34] at H
                have c34b0 : (x7_5 == (a1.size : Int))=true:=beq_iff_eq.mpr c34
                have c34b1 : (x7_5 != (a1.size : Int))=false:=bne_eq_false_iff_eq.mpr c34
                clear c34
                simp only [Option.some.injEq,Prod.mk.injEq] at H
                obtain ⟨rfl,rfl,rfl⟩:=H
                go_wp2
                go_ret3
                exact ⟨_,by first|rfl|(simp [Zp,Zq] <;> rfl)|(simp [*,Zp,Zq] <;> rfl),by first|exact Kd.R_nil _ _ _ _ _|exact Kd.N_nil _ _ _ _ _|exact Kd.V_nil _ _ _ _ _|exact Kd.Q_nil _ _ _ _ _|exact Kd.S_nil _ _ _ _ _,by repeat (first|(with_reducible first|exact HB.out|apply Ze|apply Zc|apply Zd|refine Zg ?_ GE197.out)|exact HB.out)⟩
               ·rw [if_neg c34] at H
                have c34b0 : (x7_5 == (a1.size : Int))=false:=beq_eq_false_iff_ne.mpr c34
                have c34b1 : (x7_5 != (a1.size : Int))=true:=bne_iff_ne.mpr c34
                by_cases c35 : 0≤x7_5
                ·rw [if_pos c35] at H
                 have c35b0 : decide (0≤x7_5)=true:=decide_eq_true c35
                 clear c35
                 by_cases c36 : x7_5 < (a1.size : Int)
                 ·rw [if_pos c36] at H
                  have c36b0 : decide (x7_5 < (a1.size : Int))=true:=decide_eq_true c36
                  clear c36
                  replace H:=Option.bind_eq_some_iff.mp H
                  obtain ⟨t206,A380,H⟩:=H
                  replace H : (if t206 < 0 then (some (([] : List Int),x7_5,140)) else (if (wrap64 (x12_5 + (wrap64 (t206 * x15_5)))) > 2147483647 then (some (([] : List Int),x7_5,142)) else ((Z6.f a0_0 a0_1 a0_2 a0_3 a0_4 a0_5 a0_6 a0_7 x16_5 x13_4).bind fun t207 => (if t206 < t207 then ((Zy.f k5 a0_0 a0_1 a0_2 a0_3 a0_4 a0_5 a0_6 a0_7 (wrap64 ((wrap64 (x12_5 + (wrap64 (t206 * x15_5)))) - x12_4)) (wrap64 ((x9_4.length : Int) + 1)) (x12_4 == 0)).bind fun t208 => (if (wrap64 ((x9_4.length : Int) + 1))=0 then (none) else (if (wrap64 (x11_4 + (wrap64 (Int.tdiv (wrap64 (x12_5 + (wrap64 (t206 * x15_5)))) (wrap64 ((x9_4.length : Int) + 1)))))) > 1114111 then (some (([] : List Int),x7_5,142)) else ((Yc.f (wrap32 (wrap64 (x11_4 + (wrap64 (Int.tdiv (wrap64 (x12_5 + (wrap64 (t206 * x15_5)))) (wrap64 ((x9_4.length : Int) + 1)))))))).bind fun t209 => (if t209=true then (if x9_4.length < 35184372088832 then ((some (x9_4++[0] : List Int)).bind fun y210 => (Zi.l4 k5 a1 x7_5 y210 (wrap64 (x11_4 + (wrap64 (Int.tdiv (wrap64 (x12_5 + (wrap64 (t206 * x15_5)))) (wrap64 ((x9_4.length : Int) + 1)))))) (Int.tmod (wrap64 (x12_5 + (wrap64 (t206 * x15_5)))) (wrap64 ((x9_4.length : Int) + 1))) t208 (wrap64 ((y210.length : Int) - 1)) a0_0 a0_1 a0_2 a0_3 a0_4 a0_5 a0_6 a0_7)) else (none)) else (some (([] : List Int),x7_5,143))))))) else (if (wrap64 (x15_5 * (wrap64 (a0_0 - t207)))) > 2147483647 then (some (([] : List Int),x7_5,142)) else (Zi.l3 k5 a1 (wrap64 (x7_5 + 1)) x9_4 x11_4 (wrap64 (x12_5 + (wrap64 (t206 * x15_5)))) x13_4 x12_4 (wrap64 (x15_5 * (wrap64 (a0_0 - t207)))) (wrap64 (x16_5 + a0_0)) a0_0 a0_1 a0_2 a0_3 a0_4 a0_5 a0_6 a0_7))))))=some (r1,r2,r3):=H
                  have A38:=Zf.mk A380
                  clear A380
                  by_cases c39 : t206 < 0
                  ·rw [if_pos c39] at H
                   have c39b0 : decide (t206 < 0)=true:=decide_eq_true c39
                   clear c39
                   simp only [Option.some.injEq,Prod.mk.injEq] at H
                   obtain ⟨rfl,rfl,rfl⟩:=H
                   try go_wp2
                   have n0_:=Zf.mk (Kd.Zz HO_9.out)
                   have n1_:=Zf.mk (Zn BK197.out)
                   have n2_:=Zf.mk (Zd HB.out)
                   clear HO_9
                   clear BK197
                   clear HB
                   have HO_9:=n0_
                   have BK197:=n1_
                   have HB:=n2_
                   clear n0_ n1_ n2_
                   have p37 : 0≤(x7_5 : Int):=of_decide_eq_true (by first|(with_reducible assumption)|assumption)
                   have q37 : x7_5 < (a1.size : Int):=of_decide_eq_true (by first|(with_reducible assumption)|assumption)
                   have hx37:=bt_at a1 x7_5
                   replace p37:=eq_true p37
                   replace q37:=eq_true q37
                   refine start_ (n:=7) (S:=fun w' => w'.cell? ⟨gb197,0,none⟩=some (.int .i64 a0_0)∧w'.cell? ⟨gb197,1,none⟩=some (.int .i64 a0_1)∧w'.cell? ⟨gb197,2,none⟩=some (.int .i64 a0_2)∧w'.cell? ⟨gb197,3,none⟩=some (.int .i64 a0_3)∧w'.cell? ⟨gb197,4,none⟩=some (.int .i64 a0_4)∧w'.cell? ⟨gb197,5,none⟩=some (.int .i64 a0_5)∧w'.cell? ⟨gb197,6,none⟩=some (.int .i64 a0_6)∧w'.cell? ⟨gb197,7,none⟩=some (.int .u8 a0_7)) (ds:=[]) #[false,false,false,false,false,false,false] (by kernel_rfl) rfl rfl ⟨(Zb BK197.out 0).trans rfl,(Zb BK197.out 1).trans rfl,(Zb BK197.out 2).trans rfl,(Zb BK197.out 3).trans rfl,(Zb BK197.out 4).trans rfl,(Zb BK197.out 5).trans rfl,(Zb BK197.out 6).trans rfl,(Zb BK197.out 7).trans rfl⟩ (fun hHeld => ?_)
                   generalize wr.drew=w40 at HO_9 BK197 HB hHeld ⊢
                   refine pure_ (i:=0) (N:=some 78) (v:=?_) (a':=?_) #[true,false,false,false,false,false,false] rfl rfl (by kernel_rfl) (fun _ _ _ h => h) (Or.inl ⟨by rfl,?_⟩) ?_ ?_
                   rotate_left
                   ·intro w'
                    go_simp
                    with_reducible rfl
                   rotate_left
                   ·simp only [Act.put,List.setIfInBounds_toArray,List.set_cons_zero,List.set_cons_succ,i64_w,i32_w]
                    rfl
                   refine pure_ (i:=1) (N:=some 79) (v:=?_) (a':=?_) #[true,true,false,false,false,false,false] rfl rfl (by kernel_rfl) (fun _ _ _ h => h) (Or.inl ⟨by rfl,?_⟩) ?_ ?_
                   rotate_left
                   ·intro w'
                    go_simp
                    with_reducible rfl
                   rotate_left
                   ·simp only [Act.put,List.setIfInBounds_toArray,List.set_cons_zero,List.set_cons_succ,i64_w,i32_w]
                    rfl
                   refine pure_ (i:=3) (N:=some 81) (v:=?_) (a':=?_) #[true,true,false,true,false,false,false] rfl rfl (by kernel_rfl) (fun _ _ _ h => h) (Or.inl ⟨by rfl,?_⟩) ?_ ?_
                   rotate_left
                   ·intro w'
                    go_simp
                    with_reducible rfl
                   rotate_left
                   ·simp only [Act.put,List.setIfInBounds_toArray,List.set_cons_zero,List.set_cons_succ,i64_w,i32_w]
                    rfl
                   refine take_ (i:=2) (N:=some 80) (v:=?_) (a':=?_) #[true,true,true,true,false,false,false] rfl rfl (by kernel_rfl) (fun _ _ _ h => h) (Or.inl ⟨by rfl,?_⟩) hHeld ?_ ?_
                   rotate_left
                   ·rintro w' ⟨s0,s1,s2,s3,s4,s5,s6,s7⟩
                    go_simp
                    with_reducible rfl
                   rotate_left
                   ·simp only [Act.put,List.setIfInBounds_toArray,List.set_cons_zero,List.set_cons_succ,i64_w,i32_w]
                    rfl
                   refine take_ (i:=4) (N:=some 82) (v:=?_) (a':=?_) #[true,true,true,true,true,false,false] rfl rfl (by kernel_rfl) (fun _ _ _ h => h) (Or.inl ⟨by rfl,?_⟩) hHeld ?_ ?_
                   rotate_left
                   ·rintro w' ⟨s0,s1,s2,s3,s4,s5,s6,s7⟩
                    go_simp
                    with_reducible rfl
                   rotate_left
                   ·simp only [Act.put,List.setIfInBounds_toArray,List.set_cons_zero,List.set_cons_succ,i64_w,i32_w]
                    rfl
                   refine one_ (i:=5) (N:=some 83) #[true,true,true,true,true,true,false] rfl rfl (by kernel_rfl) (by decide) (fun K hK => ?_)
                   refine goes_ Tryd.func40 (by kernel_rfl) rfl #[.int .u8 (bt a1 x7_5),.int .i64 a0_0] (by rfl) rfl rfl (by (try simp only [List.map_toArray,List.map_cons,List.map_nil]);first|done|rfl|(simp only [List.length_drop,List.length_take];rfl)) ?_
                   with_reducible refine (Yd.calls k5 (bt a1 x7_5) a0_0 t206 _ A38.out).mono ?_
                   rintro e w' ⟨rfl,⟨nd,rfl⟩⟩
                   refine ⟨_,rfl,?_⟩
                   refine hK.out _ _ ⟨(Zb BK197.out 0).trans rfl,(Zb BK197.out 1).trans rfl,(Zb BK197.out 2).trans rfl,(Zb BK197.out 3).trans rfl,(Zb BK197.out 4).trans rfl,(Zb BK197.out 5).trans rfl,(Zb BK197.out 6).trans rfl,(Zb BK197.out 7).trans rfl⟩ (fun hHeld => ?_)
                   clear hK K
                   refine norm_ (a':=?_) ?_ ?_
                   rotate_left
                   ·show Act.put _ (some 83) _=_
                    simp only [Act.put,List.setIfInBounds_toArray,List.set_cons_zero,List.set_cons_succ,i64_w,i32_w]
                    rfl
                   refine pure_ (i:=6) (N:=some 17) (v:=?_) (a':=?_) #[true,true,true,true,true,true,true] rfl rfl (by kernel_rfl) (fun _ _ _ h => h) (Or.inl ⟨by rfl,?_⟩) ?_ ?_
                   rotate_left
                   ·intro w'
                    go_simp
                    with_reducible rfl
                   rotate_left
                   ·simp only [Act.put,List.setIfInBounds_toArray,List.set_cons_zero,List.set_cons_succ,i64_w,i32_w]
                    rfl
                   refine done_ (by kernel_rfl) ?_
                   try go_wp2
                   go_ret3
                   exact ⟨_,by first|rfl|(simp [Zp,Zq] <;> rfl)|(simp [*,Zp,Zq] <;> rfl),by first|exact Kd.R_nil _ _ _ _ _|exact Kd.N_nil _ _ _ _ _|exact Kd.V_nil _ _ _ _ _|exact Kd.Q_nil _ _ _ _ _|exact Kd.S_nil _ _ _ _ _,by repeat (first|(with_reducible first|exact HB.out|apply Ze|apply Zc|apply Zd|refine Zg ?_ GE197.out)|exact HB.out)⟩
                  ·rw [if_neg c39] at H
                   have c39b0 : decide (t206 < 0)=false:=decide_eq_false c39
                   clear c39
                   by_cases c41 : (wrap64 (x12_5 + (wrap64 (t206 * x15_5)))) > 2147483647
                   ·rw [if_pos c41] at H
                    have c41b0 : decide (2147483647 < (wrap64 (x12_5 + (wrap64 (t206 * x15_5)))))=true:=decide_eq_true c41
                    clear c41
                    simp only [Option.some.injEq,Prod.mk.injEq] at H
                    obtain ⟨rfl,rfl,rfl⟩:=H
                    try go_wp2
                    have n0_:=Zf.mk (Kd.Zz HO_9.out)
                    have n1_:=Zf.mk (Zn BK197.out)
                    have n2_:=Zf.mk (Zd HB.out)
                    clear HO_9
                    clear BK197
                    clear HB
                    have HO_9:=n0_
                    have BK197:=n1_
                    have HB:=n2_
                    clear n0_ n1_ n2_
                    have p37 : 0≤(x7_5 : Int):=of_decide_eq_true (by first|(with_reducible assumption)|assumption)
                    have q37 : x7_5 < (a1.size : Int):=of_decide_eq_true (by first|(with_reducible assumption)|assumption)
                    have hx37:=bt_at a1 x7_5
                    replace p37:=eq_true p37
                    replace q37:=eq_true q37
                    refine start_ (n:=7) (S:=fun w' => w'.cell? ⟨gb197,0,none⟩=some (.int .i64 a0_0)∧w'.cell? ⟨gb197,1,none⟩=some (.int .i64 a0_1)∧w'.cell? ⟨gb197,2,none⟩=some (.int .i64 a0_2)∧w'.cell? ⟨gb197,3,none⟩=some (.int .i64 a0_3)∧w'.cell? ⟨gb197,4,none⟩=some (.int .i64 a0_4)∧w'.cell? ⟨gb197,5,none⟩=some (.int .i64 a0_5)∧w'.cell? ⟨gb197,6,none⟩=some (.int .i64 a0_6)∧w'.cell? ⟨gb197,7,none⟩=some (.int .u8 a0_7)) (ds:=[]) #[false,false,false,false,false,false,false] (by kernel_rfl) rfl rfl ⟨(Zb BK197.out 0).trans rfl,(Zb BK197.out 1).trans rfl,(Zb BK197.out 2).trans rfl,(Zb BK197.out 3).trans rfl,(Zb BK197.out 4).trans rfl,(Zb BK197.out 5).trans rfl,(Zb BK197.out 6).trans rfl,(Zb BK197.out 7).trans rfl⟩ (fun hHeld => ?_)
                    generalize wr.drew=w42 at HO_9 BK197 HB hHeld ⊢
                    refine pure_ (i:=0) (N:=some 78) (v:=?_) (a':=?_) #[true,false,false,false,false,false,false] rfl rfl (by kernel_rfl) (fun _ _ _ h => h) (Or.inl ⟨by rfl,?_⟩) ?_ ?_
                    rotate_left
                    ·intro w'
                     go_simp
                     with_reducible rfl
                    rotate_left
                    ·simp only [Act.put,List.setIfInBounds_toArray,List.set_cons_zero,List.set_cons_succ,i64_w,i32_w]
                     rfl
                    refine pure_ (i:=1) (N:=some 79) (v:=?_) (a':=?_) #[true,true,false,false,false,false,false] rfl rfl (by kernel_rfl) (fun _ _ _ h => h) (Or.inl ⟨by rfl,?_⟩) ?_ ?_
                    rotate_left
                    ·intro w'
                     go_simp
                     with_reducible rfl
                    rotate_left
                    ·simp only [Act.put,List.setIfInBounds_toArray,List.set_cons_zero,List.set_cons_succ,i64_w,i32_w]
                     rfl
                    refine pure_ (i:=3) (N:=some 81) (v:=?_) (a':=?_) #[true,true,false,true,false,false,false] rfl rfl (by kernel_rfl) (fun _ _ _ h => h) (Or.inl ⟨by rfl,?_⟩) ?_ ?_
                    rotate_left
                    ·intro w'
                     go_simp
                     with_reducible rfl
                    rotate_left
                    ·simp only [Act.put,List.setIfInBounds_toArray,List.set_cons_zero,List.set_cons_succ,i64_w,i32_w]
                     rfl
                    refine take_ (i:=2) (N:=some 80) (v:=?_) (a':=?_) #[true,true,true,true,false,false,false] rfl rfl (by kernel_rfl) (fun _ _ _ h => h) (Or.inl ⟨by rfl,?_⟩) hHeld ?_ ?_
                    rotate_left
                    ·rintro w' ⟨s0,s1,s2,s3,s4,s5,s6,s7⟩
                     go_simp
                     with_reducible rfl
                    rotate_left
                    ·simp only [Act.put,List.setIfInBounds_toArray,List.set_cons_zero,List.set_cons_succ,i64_w,i32_w]
                     rfl
                    refine take_ (i:=4) (N:=some 82) (v:=?_) (a':=?_) #[true,true,true,true,true,false,false] rfl rfl (by kernel_rfl) (fun _ _ _ h => h) (Or.inl ⟨by rfl,?_⟩) hHeld ?_ ?_
                    rotate_left
                    ·rintro w' ⟨s0,s1,s2,s3,s4,s5,s6,s7⟩
                     go_simp
                     with_reducible rfl
                    rotate_left
                    ·simp only [Act.put,List.setIfInBounds_toArray,List.set_cons_zero,List.set_cons_succ,i64_w,i32_w]
                     rfl
                    refine one_ (i:=5) (N:=some 83) #[true,true,true,true,true,true,false] rfl rfl (by kernel_rfl) (by decide) (fun K hK => ?_)
                    refine goes_ Tryd.func40 (by kernel_rfl) rfl #[.int .u8 (bt a1 x7_5),.int .i64 a0_0] (by rfl) rfl rfl (by (try simp only [List.map_toArray,List.map_cons,List.map_nil]);first|done|rfl|(simp only [List.length_drop,List.length_take];rfl)) ?_
                    with_reducible refine (Yd.calls k5 (bt a1 x7_5) a0_0 t206 _ A38.out).mono ?_
                    rintro e w' ⟨rfl,⟨nd,rfl⟩⟩
                    refine ⟨_,rfl,?_⟩
                    refine hK.out _ _ ⟨(Zb BK197.out 0).trans rfl,(Zb BK197.out 1).trans rfl,(Zb BK197.out 2).trans rfl,(Zb BK197.out 3).trans rfl,(Zb BK197.out 4).trans rfl,(Zb BK197.out 5).trans rfl,(Zb BK197.out 6).trans rfl,(Zb BK197.out 7).trans rfl⟩ (fun hHeld => ?_)
                    clear hK K
                    refine norm_ (a':=?_) ?_ ?_
                    rotate_left
                    ·show Act.put _ (some 83) _=_
                     simp only [Act.put,List.setIfInBounds_toArray,List.set_cons_zero,List.set_cons_succ,i64_w,i32_w]
                     rfl
                    refine pure_ (i:=6) (N:=some 17) (v:=?_) (a':=?_) #[true,true,true,true,true,true,true] rfl rfl (by kernel_rfl) (fun _ _ _ h => h) (Or.inl ⟨by rfl,?_⟩) ?_ ?_
                    rotate_left
                    ·intro w'
                     go_simp
                     with_reducible rfl
                    rotate_left
                    ·simp only [Act.put,List.setIfInBounds_toArray,List.set_cons_zero,List.set_cons_succ,i64_w,i32_w]
                     rfl
                    refine done_ (by kernel_rfl) ?_
                    try go_wp2
                    go_ret3
                    exact ⟨_,by first|rfl|(simp [Zp,Zq] <;> rfl)|(simp [*,Zp,Zq] <;> rfl),by first|exact Kd.R_nil _ _ _ _ _|exact Kd.N_nil _ _ _ _ _|exact Kd.V_nil _ _ _ _ _|exact Kd.Q_nil _ _ _ _ _|exact Kd.S_nil _ _ _ _ _,by repeat (first|(with_reducible first|exact HB.out|apply Ze|apply Zc|apply Zd|refine Zg ?_ GE197.out)|exact HB.out)⟩
                   ·rw [if_neg c41] at H
                    have c41b0 : decide (2147483647 < (wrap64 (x12_5 + (wrap64 (t206 * x15_5)))))=false:=decide_eq_false c41
                    clear c41
                    replace H:=Option.bind_eq_some_iff.mp H
                    obtain ⟨t207,A430,H⟩:=H
                    replace H : (if t206 < t207 then ((Zy.f k5 a0_0 a0_1 a0_2 a0_3 a0_4 a0_5 a0_6 a0_7 (wrap64 ((wrap64 (x12_5 + (wrap64 (t206 * x15_5)))) - x12_4)) (wrap64 ((x9_4.length : Int) + 1)) (x12_4 == 0)).bind fun t208 => (if (wrap64 ((x9_4.length : Int) + 1))=0 then (none) else (if (wrap64 (x11_4 + (wrap64 (Int.tdiv (wrap64 (x12_5 + (wrap64 (t206 * x15_5)))) (wrap64 ((x9_4.length : Int) + 1)))))) > 1114111 then (some (([] : List Int),x7_5,142)) else ((Yc.f (wrap32 (wrap64 (x11_4 + (wrap64 (Int.tdiv (wrap64 (x12_5 + (wrap64 (t206 * x15_5)))) (wrap64 ((x9_4.length : Int) + 1)))))))).bind fun t209 => (if t209=true then (if x9_4.length < 35184372088832 then ((some (x9_4++[0] : List Int)).bind fun y210 => (Zi.l4 k5 a1 x7_5 y210 (wrap64 (x11_4 + (wrap64 (Int.tdiv (wrap64 (x12_5 + (wrap64 (t206 * x15_5)))) (wrap64 ((x9_4.length : Int) + 1)))))) (Int.tmod (wrap64 (x12_5 + (wrap64 (t206 * x15_5)))) (wrap64 ((x9_4.length : Int) + 1))) t208 (wrap64 ((y210.length : Int) - 1)) a0_0 a0_1 a0_2 a0_3 a0_4 a0_5 a0_6 a0_7)) else (none)) else (some (([] : List Int),x7_5,143))))))) else (if (wrap64 (x15_5 * (wrap64 (a0_0 - t207)))) > 2147483647 then (some (([] : List Int),x7_5,142)) else (Zi.l3 k5 a1 (wrap64 (x7_5 + 1)) x9_4 x11_4 (wrap64 (x12_5 + (wrap64 (t206 * x15_5)))) x13_4 x12_4 (wrap64 (x15_5 * (wrap64 (a0_0 - t207)))) (wrap64 (x16_5 + a0_0)) a0_0 a0_1 a0_2 a0_3 a0_4 a0_5 a0_6 a0_7)))=some (r1,r2,r3):=H
                    have A43:=Zf.mk A430
                    clear A430
                    by_cases c44 : t206 < t207
                    ·rw [if_pos c44] at H
                     have c44b0 : decide (t206 < t207)=true:=decide_eq_true c44
                     clear c44
                     replace H:=Option.bind_eq_some_iff.mp H
                     obtain ⟨t208,A450,H⟩:=H
                     replace H : (if (wrap64 ((x9_4.length : Int) + 1))=0 then (none) else (if (wrap64 (x11_4 + (wrap64 (Int.tdiv (wrap64 (x12_5 + (wrap64 (t206 * x15_5)))) (wrap64 ((x9_4.length : Int) + 1)))))) > 1114111 then (some (([] : List Int),x7_5,142)) else ((Yc.f (wrap32 (wrap64 (x11_4 + (wrap64 (Int.tdiv (wrap64 (x12_5 + (wrap64 (t206 * x15_5)))) (wrap64 ((x9_4.length : Int) + 1)))))))).bind fun t209 => (if t209=true then (if x9_4.length < 35184372088832 then ((some (x9_4++[0] : List Int)).bind fun y210 => (Zi.l4 k5 a1 x7_5 y210 (wrap64 (x11_4 + (wrap64 (Int.tdiv (wrap64 (x12_5 + (wrap64 (t206 * x15_5)))) (wrap64 ((x9_4.length : Int) + 1)))))) (Int.tmod (wrap64 (x12_5 + (wrap64 (t206 * x15_5)))) (wrap64 ((x9_4.length : Int) + 1))) t208 (wrap64 ((y210.length : Int) - 1)) a0_0 a0_1 a0_2 a0_3 a0_4 a0_5 a0_6 a0_7)) else (none)) else (some (([] : List Int),x7_5,143))))))=some (r1,r2,r3):=H
                     have A45:=Zf.mk A450
                     clear A450
                     by_cases c46 : (wrap64 ((x9_4.length : Int) + 1))=0
                     ·rw [if_pos c46] at H
                      exact absurd H (by simp)
                     ·rw [if_neg c46] at H
                      have c46b0 : ((wrap64 ((x9_4.length : Int) + 1)) == 0)=false:=beq_eq_false_iff_ne.mpr c46
                      have c46b1 : ((wrap64 ((x9_4.length : Int) + 1)) != 0)=true:=bne_iff_ne.mpr c46
                      by_cases c47 : (wrap64 (x11_4 + (wrap64 (Int.tdiv (wrap64 (x12_5 + (wrap64 (t206 * x15_5)))) (wrap64 ((x9_4.length : Int) + 1)))))) > 1114111
                      ·rw [if_pos c47] at H
                       have c47b0 : decide (1114111 < (wrap64 (x11_4 + (wrap64 (Int.tdiv (wrap64 (x12_5 + (wrap64 (t206 * x15_5)))) (wrap64 ((x9_4.length : Int) + 1)))))))=true:=decide_eq_true c47
                       clear c47
                       simp only [Option.some.injEq,Prod.mk.injEq] at H
                       obtain ⟨rfl,rfl,rfl⟩:=H
                       try go_wp2
                       have n0_:=Zf.mk (Kd.Zz HO_9.out)
                       have n1_:=Zf.mk (Zn BK197.out)
                       have n2_:=Zf.mk (Zd HB.out)
                       clear HO_9
                       clear BK197
                       clear HB
                       have HO_9:=n0_
                       have BK197:=n1_
                       have HB:=n2_
                       clear n0_ n1_ n2_
                       have p37 : 0≤(x7_5 : Int):=of_decide_eq_true (by first|(with_reducible assumption)|assumption)
                       have q37 : x7_5 < (a1.size : Int):=of_decide_eq_true (by first|(with_reducible assumption)|assumption)
                       have hx37:=bt_at a1 x7_5
                       replace p37:=eq_true p37
                       replace q37:=eq_true q37
                       refine start_ (n:=7) (S:=fun w' => w'.cell? ⟨gb197,0,none⟩=some (.int .i64 a0_0)∧w'.cell? ⟨gb197,1,none⟩=some (.int .i64 a0_1)∧w'.cell? ⟨gb197,2,none⟩=some (.int .i64 a0_2)∧w'.cell? ⟨gb197,3,none⟩=some (.int .i64 a0_3)∧w'.cell? ⟨gb197,4,none⟩=some (.int .i64 a0_4)∧w'.cell? ⟨gb197,5,none⟩=some (.int .i64 a0_5)∧w'.cell? ⟨gb197,6,none⟩=some (.int .i64 a0_6)∧w'.cell? ⟨gb197,7,none⟩=some (.int .u8 a0_7)) (ds:=[]) #[false,false,false,false,false,false,false] (by kernel_rfl) rfl rfl ⟨(Zb BK197.out 0).trans rfl,(Zb BK197.out 1).trans rfl,(Zb BK197.out 2).trans rfl,(Zb BK197.out 3).trans rfl,(Zb BK197.out 4).trans rfl,(Zb BK197.out 5).trans rfl,(Zb BK197.out 6).trans rfl,(Zb BK197.out 7).trans rfl⟩ (fun hHeld => ?_)
                       generalize wr.drew=w48 at HO_9 BK197 HB hHeld ⊢
                       refine pure_ (i:=0) (N:=some 78) (v:=?_) (a':=?_) #[true,false,false,false,false,false,false] rfl rfl (by kernel_rfl) (fun _ _ _ h => h) (Or.inl ⟨by rfl,?_⟩) ?_ ?_
                       rotate_left
                       ·intro w'
                        go_simp
                        with_reducible rfl
                       rotate_left
                       ·simp only [Act.put,List.setIfInBounds_toArray,List.set_cons_zero,List.set_cons_succ,i64_w,i32_w]
                        rfl
                       refine pure_ (i:=1) (N:=some 79) (v:=?_) (a':=?_) #[true,true,false,false,false,false,false] rfl rfl (by kernel_rfl) (fun _ _ _ h => h) (Or.inl ⟨by rfl,?_⟩) ?_ ?_
                       rotate_left
                       ·intro w'
                        go_simp
                        with_reducible rfl
                       rotate_left
                       ·simp only [Act.put,List.setIfInBounds_toArray,List.set_cons_zero,List.set_cons_succ,i64_w,i32_w]
                        rfl
                       refine pure_ (i:=3) (N:=some 81) (v:=?_) (a':=?_) #[true,true,false,true,false,false,false] rfl rfl (by kernel_rfl) (fun _ _ _ h => h) (Or.inl ⟨by rfl,?_⟩) ?_ ?_
                       rotate_left
                       ·intro w'
                        go_simp
                        with_reducible rfl
                       rotate_left
                       ·simp only [Act.put,List.setIfInBounds_toArray,List.set_cons_zero,List.set_cons_succ,i64_w,i32_w]
                        rfl
                       refine take_ (i:=2) (N:=some 80) (v:=?_) (a':=?_) #[true,true,true,true,false,false,false] rfl rfl (by kernel_rfl) (fun _ _ _ h => h) (Or.inl ⟨by rfl,?_⟩) hHeld ?_ ?_
                       rotate_left
                       ·rintro w' ⟨s0,s1,s2,s3,s4,s5,s6,s7⟩
                        go_simp
                        with_reducible rfl
                       rotate_left
                       ·simp only [Act.put,List.setIfInBounds_toArray,List.set_cons_zero,List.set_cons_succ,i64_w,i32_w]
                        rfl
                       refine take_ (i:=4) (N:=some 82) (v:=?_) (a':=?_) #[true,true,true,true,true,false,false] rfl rfl (by kernel_rfl) (fun _ _ _ h => h) (Or.inl ⟨by rfl,?_⟩) hHeld ?_ ?_
                       rotate_left
                       ·rintro w' ⟨s0,s1,s2,s3,s4,s5,s6,s7⟩
                        go_simp
                        with_reducible rfl
                       rotate_left
                       ·simp only [Act.put,List.setIfInBounds_toArray,List.set_cons_zero,List.set_cons_succ,i64_w,i32_w]
                        rfl
                       refine one_ (i:=5) (N:=some 83) #[true,true,true,true,true,true,false] rfl rfl (by kernel_rfl) (by decide) (fun K hK => ?_)
                       refine goes_ Tryd.func40 (by kernel_rfl) rfl #[.int .u8 (bt a1 x7_5),.int .i64 a0_0] (by rfl) rfl rfl (by (try simp only [List.map_toArray,List.map_cons,List.map_nil]);first|done|rfl|(simp only [List.length_drop,List.length_take];rfl)) ?_
                       with_reducible refine (Yd.calls k5 (bt a1 x7_5) a0_0 t206 _ A38.out).mono ?_
                       rintro e w' ⟨rfl,⟨nd,rfl⟩⟩
                       refine ⟨_,rfl,?_⟩
                       refine hK.out _ _ ⟨(Zb BK197.out 0).trans rfl,(Zb BK197.out 1).trans rfl,(Zb BK197.out 2).trans rfl,(Zb BK197.out 3).trans rfl,(Zb BK197.out 4).trans rfl,(Zb BK197.out 5).trans rfl,(Zb BK197.out 6).trans rfl,(Zb BK197.out 7).trans rfl⟩ (fun hHeld => ?_)
                       clear hK K
                       refine norm_ (a':=?_) ?_ ?_
                       rotate_left
                       ·show Act.put _ (some 83) _=_
                        simp only [Act.put,List.setIfInBounds_toArray,List.set_cons_zero,List.set_cons_succ,i64_w,i32_w]
                        rfl
                       refine pure_ (i:=6) (N:=some 17) (v:=?_) (a':=?_) #[true,true,true,true,true,true,true] rfl rfl (by kernel_rfl) (fun _ _ _ h => h) (Or.inl ⟨by rfl,?_⟩) ?_ ?_
                       rotate_left
                       ·intro w'
                        go_simp
                        with_reducible rfl
                       rotate_left
                       ·simp only [Act.put,List.setIfInBounds_toArray,List.set_cons_zero,List.set_cons_succ,i64_w,i32_w]
                        rfl
                       refine done_ (by kernel_rfl) ?_
                       have hcz49_0 : w48.cell? ⟨gb197,0,none⟩=some (.int .i64 a0_0):=(Zb BK197.out 0).trans rfl
                       have hcz49_1 : w48.cell? ⟨gb197,1,none⟩=some (.int .i64 a0_1):=(Zb BK197.out 1).trans rfl
                       have hcz49_2 : w48.cell? ⟨gb197,2,none⟩=some (.int .i64 a0_2):=(Zb BK197.out 2).trans rfl
                       have hcz49_3 : w48.cell? ⟨gb197,3,none⟩=some (.int .i64 a0_3):=(Zb BK197.out 3).trans rfl
                       have hcz49_4 : w48.cell? ⟨gb197,4,none⟩=some (.int .i64 a0_4):=(Zb BK197.out 4).trans rfl
                       have hcz49_5 : w48.cell? ⟨gb197,5,none⟩=some (.int .i64 a0_5):=(Zb BK197.out 5).trans rfl
                       have hcz49_6 : w48.cell? ⟨gb197,6,none⟩=some (.int .i64 a0_6):=(Zb BK197.out 6).trans rfl
                       have hcz49_7 : w48.cell? ⟨gb197,7,none⟩=some (.int .u8 a0_7):=(Zb BK197.out 7).trans rfl
                       have hfz49_0:=Za BK197.out 0
                       have hfz49_1:=Za BK197.out 1
                       have hfz49_2:=Za BK197.out 2
                       have hfz49_3:=Za BK197.out 3
                       have hfz49_4:=Za BK197.out 4
                       have hfz49_5:=Za BK197.out 5
                       have hfz49_6:=Za BK197.out 6
                       have hfz49_7:=Za BK197.out 7
                       try go_wp2_with (first|((with_reducible refine Z0 (f:=42) rfl ?_);refine goesL_ (some 98) rfl rfl Tryd.func42 (by kernel_rfl) rfl #[.agg #[.int .i64 a0_0,.int .i64 a0_1,.int .i64 a0_2,.int .i64 a0_3,.int .i64 a0_4,.int .i64 a0_5,.int .i64 a0_6,.int .u8 a0_7],.int .i64 x16_5,.int .i64 x13_4] rfl (by (try simp only [List.map_toArray,List.map_cons,List.map_nil]);first|done|rfl|(simp only [List.length_drop,List.length_take];rfl)) ?_;(with_reducible refine (Z6.calls a0_0 a0_1 a0_2 a0_3 a0_4 a0_5 a0_6 a0_7 x16_5 x13_4 t207 _ A43.out).mono ?_);rintro e w50 ⟨rfl,hb⟩;refine ⟨_,rfl,?_⟩;have n0_:=Zf.mk (Kd.Z9 (by (with_reducible repeat (first|apply Kd.Zv|apply Kd.Zu|apply Kd.Zz));exact HO_9.out) hb);have n1_:=Zf.mk (Zw (g:=gb197) (o:=.cells #[.int .i64 a0_0,.int .i64 a0_1,.int .i64 a0_2,.int .i64 a0_3,.int .i64 a0_4,.int .i64 a0_5,.int .i64 a0_6,.int .u8 a0_7] 51 (0,0)) (by (with_reducible repeat (first|refine Zk ?_ _|refine Zn ?_|refine Zl ?_ _));exact BK197.out) hb);have n2_:=Zf.mk (Zm (by repeat (first|(with_reducible first|exact HB.out|apply Ze|apply Zc|apply Zd|refine Zg ?_ GE197.out)|exact HB.out)) hb);clear HO_9;clear BK197;clear HB;have HO_9:=n0_;have BK197:=n1_;have HB:=n2_;clear n0_ n1_ n2_;(try clear hb);(try clear hb2);(try clear hk);(try clear hi);obtain ⟨Ao51,co51,eo51⟩:=Kd.R_slice HO_9.out;subst eo51;have hcz52_0 : w50.cell? ⟨gb197,0,none⟩=some (.int .i64 a0_0):=(Zb BK197.out 0).trans rfl;have hcz52_1 : w50.cell? ⟨gb197,1,none⟩=some (.int .i64 a0_1):=(Zb BK197.out 1).trans rfl;have hcz52_2 : w50.cell? ⟨gb197,2,none⟩=some (.int .i64 a0_2):=(Zb BK197.out 2).trans rfl;have hcz52_3 : w50.cell? ⟨gb197,3,none⟩=some (.int .i64 a0_3):=(Zb BK197.out 3).trans rfl;have hcz52_4 : w50.cell? ⟨gb197,4,none⟩=some (.int .i64 a0_4):=(Zb BK197.out 4).trans rfl;have hcz52_5 : w50.cell? ⟨gb197,5,none⟩=some (.int .i64 a0_5):=(Zb BK197.out 5).trans rfl;have hcz52_6 : w50.cell? ⟨gb197,6,none⟩=some (.int .i64 a0_6):=(Zb BK197.out 6).trans rfl;have hcz52_7 : w50.cell? ⟨gb197,7,none⟩=some (.int .u8 a0_7):=(Zb BK197.out 7).trans rfl;have hfz52_0:=Za BK197.out 0;have hfz52_1:=Za BK197.out 1;have hfz52_2:=Za BK197.out 2;have hfz52_3:=Za BK197.out 3;have hfz52_4:=Za BK197.out 4;have hfz52_5:=Za BK197.out 5;have hfz52_6:=Za BK197.out 6;have hfz52_7:=Za BK197.out 7)|((with_reducible refine Z0 (f:=43) rfl ?_);refine goesL_ (some 127) rfl rfl Tryd.func43 (by kernel_rfl) rfl #[.agg #[.int .i64 a0_0,.int .i64 a0_1,.int .i64 a0_2,.int .i64 a0_3,.int .i64 a0_4,.int .i64 a0_5,.int .i64 a0_6,.int .u8 a0_7],.int .i64 (wrap64 ((wrap64 (x12_5 + (wrap64 (t206 * x15_5)))) - x12_4)),.int .i64 (wrap64 ((x9_4.length : Int) + 1)),.bool (x12_4 == 0)] rfl (by (try simp only [List.map_toArray,List.map_cons,List.map_nil]);first|done|rfl|(simp only [List.length_drop,List.length_take];rfl)) ?_;(with_reducible refine (Zy.calls k5 a0_0 a0_1 a0_2 a0_3 a0_4 a0_5 a0_6 a0_7 (wrap64 ((wrap64 (x12_5 + (wrap64 (t206 * x15_5)))) - x12_4)) (wrap64 ((x9_4.length : Int) + 1)) (x12_4 == 0) t208 _ A45.out).mono ?_);rintro e w53 ⟨rfl,hb⟩;refine ⟨_,rfl,?_⟩;have n0_:=Zf.mk (Kd.Z9 (by (with_reducible repeat (first|apply Kd.Zv|apply Kd.Zu|apply Kd.Zz));exact HO_9.out) hb);have n1_:=Zf.mk (Zw (g:=gb197) (o:=.cells #[.int .i64 a0_0,.int .i64 a0_1,.int .i64 a0_2,.int .i64 a0_3,.int .i64 a0_4,.int .i64 a0_5,.int .i64 a0_6,.int .u8 a0_7] 51 (0,0)) (by (with_reducible repeat (first|refine Zk ?_ _|refine Zn ?_|refine Zl ?_ _));exact BK197.out) hb);have n2_:=Zf.mk (Zm (by repeat (first|(with_reducible first|exact HB.out|apply Ze|apply Zc|apply Zd|refine Zg ?_ GE197.out)|exact HB.out)) hb);clear HO_9;clear BK197;clear HB;have HO_9:=n0_;have BK197:=n1_;have HB:=n2_;clear n0_ n1_ n2_;(try clear hb);(try clear hb2);(try clear hk);(try clear hi)))
                       go_ret3
                       exact ⟨_,by first|rfl|(simp [Zp,Zq] <;> rfl)|(simp [*,Zp,Zq] <;> rfl),by first|exact Kd.R_nil _ _ _ _ _|exact Kd.N_nil _ _ _ _ _|exact Kd.V_nil _ _ _ _ _|exact Kd.Q_nil _ _ _ _ _|exact Kd.S_nil _ _ _ _ _,by repeat (first|(with_reducible first|exact HB.out|apply Ze|apply Zc|apply Zd|refine Zg ?_ GE197.out)|exact HB.out)⟩
                      ·rw [if_neg c47] at H
                       have c47b0 : decide (1114111 < (wrap64 (x11_4 + (wrap64 (Int.tdiv (wrap64 (x12_5 + (wrap64 (t206 * x15_5)))) (wrap64 ((x9_4.length : Int) + 1)))))))=false:=decide_eq_false c47
                       clear c47
                       replace H:=Option.bind_eq_some_iff.mp H
                       obtain ⟨t209,A540,H⟩:=H
                       replace H : (if t209=true then (if x9_4.length < 35184372088832 then ((some (x9_4++[0] : List Int)).bind fun y210 => (Zi.l4 k5 a1 x7_5 y210 (wrap64 (x11_4 + (wrap64 (Int.tdiv (wrap64 (x12_5 + (wrap64 (t206 * x15_5)))) (wrap64 ((x9_4.length : Int) + 1)))))) (Int.tmod (wrap64 (x12_5 + (wrap64 (t206 * x15_5)))) (wrap64 ((x9_4.length : Int) + 1))) t208 (wrap64 ((y210.length : Int) - 1)) a0_0 a0_1 a0_2 a0_3 a0_4 a0_5 a0_6 a0_7)) else (none)) else (some (([] : List Int),x7_5,143)))=some (r1,r2,r3):=H
                       have A54:=Zf.mk A540
                       clear A540
                       by_cases c55 : t209=true
                       ·subst c55
                        have H1 : (if x9_4.length < 35184372088832 then ((some (x9_4++[0] : List Int)).bind fun y210 => (Zi.l4 k5 a1 x7_5 y210 (wrap64 (x11_4 + (wrap64 (Int.tdiv (wrap64 (x12_5 + (wrap64 (t206 * x15_5)))) (wrap64 ((x9_4.length : Int) + 1)))))) (Int.tmod (wrap64 (x12_5 + (wrap64 (t206 * x15_5)))) (wrap64 ((x9_4.length : Int) + 1))) t208 (wrap64 ((y210.length : Int) - 1)) a0_0 a0_1 a0_2 a0_3 a0_4 a0_5 a0_6 a0_7)) else (none))=some (r1,r2,r3):=by rw [if_pos rfl] at H;exact H
                        clear H
                        have H:=H1
                        clear H1
                        by_cases c56 : x9_4.length < 35184372088832
                        ·rw [if_pos c56] at H
                         have LMc56:=Zf.mk c56
                         clear c56
                         obtain ⟨y210,hy210⟩ : ∃ y_ : List Int,y_=(x9_4++[0]):=⟨_,rfl⟩
                         replace H : (Zi.l4 k5 a1 x7_5 y210 (wrap64 (x11_4 + (wrap64 (Int.tdiv (wrap64 (x12_5 + (wrap64 (t206 * x15_5)))) (wrap64 ((x9_4.length : Int) + 1)))))) (Int.tmod (wrap64 (x12_5 + (wrap64 (t206 * x15_5)))) (wrap64 ((x9_4.length : Int) + 1))) t208 (wrap64 ((y210.length : Int) - 1)) a0_0 a0_1 a0_2 a0_3 a0_4 a0_5 a0_6 a0_7)=some (r1,r2,r3):=by first|(rw [hy210];with_reducible exact H)|(have H2_:=(Option.bind_some _ _).symm.trans H;rw [hy210];with_reducible exact H2_)|(have H2_:=(Option.bind_some _ _).symm.trans H;with_reducible exact H2_)|with_reducible exact H|(rw [hy210];exact H)|exact H
                         have Ny210:=Zf.mk hy210
                         clear hy210
                         have H':=Zf.mk H
                         clear H
                         try go_wp2
                         have n0_:=Zf.mk (Kd.Zz HO_9.out)
                         have n1_:=Zf.mk (Zn BK197.out)
                         have n2_:=Zf.mk (Zd HB.out)
                         clear HO_9
                         clear BK197
                         clear HB
                         have HO_9:=n0_
                         have BK197:=n1_
                         have HB:=n2_
                         clear n0_ n1_ n2_
                         have p37 : 0≤(x7_5 : Int):=of_decide_eq_true (by first|(with_reducible assumption)|assumption)
                         have q37 : x7_5 < (a1.size : Int):=of_decide_eq_true (by first|(with_reducible assumption)|assumption)
                         have hx37:=bt_at a1 x7_5
                         replace p37:=eq_true p37
                         replace q37:=eq_true q37
                         refine start_ (n:=7) (S:=fun w' => w'.cell? ⟨gb197,0,none⟩=some (.int .i64 a0_0)∧w'.cell? ⟨gb197,1,none⟩=some (.int .i64 a0_1)∧w'.cell? ⟨gb197,2,none⟩=some (.int .i64 a0_2)∧w'.cell? ⟨gb197,3,none⟩=some (.int .i64 a0_3)∧w'.cell? ⟨gb197,4,none⟩=some (.int .i64 a0_4)∧w'.cell? ⟨gb197,5,none⟩=some (.int .i64 a0_5)∧w'.cell? ⟨gb197,6,none⟩=some (.int .i64 a0_6)∧w'.cell? ⟨gb197,7,none⟩=some (.int .u8 a0_7)) (ds:=[]) #[false,false,false,false,false,false,false] (by kernel_rfl) rfl rfl ⟨(Zb BK197.out 0).trans rfl,(Zb BK197.out 1).trans rfl,(Zb BK197.out 2).trans rfl,(Zb BK197.out 3).trans rfl,(Zb BK197.out 4).trans rfl,(Zb BK197.out 5).trans rfl,(Zb BK197.out 6).trans rfl,(Zb BK197.out 7).trans rfl⟩ (fun hHeld => ?_)
                         generalize wr.drew=w57 at HO_9 BK197 HB hHeld ⊢
                         refine pure_ (i:=0) (N:=some 78) (v:=?_) (a':=?_) #[true,false,false,false,false,false,false] rfl rfl (by kernel_rfl) (fun _ _ _ h => h) (Or.inl ⟨by rfl,?_⟩) ?_ ?_
                         rotate_left
                         ·intro w'
                          go_simp
                          with_reducible rfl
                         rotate_left
                         ·simp only [Act.put,List.setIfInBounds_toArray,List.set_cons_zero,List.set_cons_succ,i64_w,i32_w]
                          rfl
                         refine pure_ (i:=1) (N:=some 79) (v:=?_) (a':=?_) #[true,true,false,false,false,false,false] rfl rfl (by kernel_rfl) (fun _ _ _ h => h) (Or.inl ⟨by rfl,?_⟩) ?_ ?_
                         rotate_left
                         ·intro w'
                          go_simp
                          with_reducible rfl
                         rotate_left
                         ·simp only [Act.put,List.setIfInBounds_toArray,List.set_cons_zero,List.set_cons_succ,i64_w,i32_w]
                          rfl
                         refine pure_ (i:=3) (N:=some 81) (v:=?_) (a':=?_) #[true,true,false,true,false,false,false] rfl rfl (by kernel_rfl) (fun _ _ _ h => h) (Or.inl ⟨by rfl,?_⟩) ?_ ?_
                         rotate_left
                         ·intro w'
                          go_simp
                          with_reducible rfl
                         rotate_left
                         ·simp only [Act.put,List.setIfInBounds_toArray,List.set_cons_zero,List.set_cons_succ,i64_w,i32_w]
                          rfl
                         refine take_ (i:=2) (N:=some 80) (v:=?_) (a':=?_) #[true,true,true,true,false,false,false] rfl rfl (by kernel_rfl) (fun _ _ _ h => h) (Or.inl ⟨by rfl,?_⟩) hHeld ?_ ?_
                         rotate_left
                         ·rintro w' ⟨s0,s1,s2,s3,s4,s5,s6,s7⟩
                          go_simp
                          with_reducible rfl
                         rotate_left
                         ·simp only [Act.put,List.setIfInBounds_toArray,List.set_cons_zero,List.set_cons_succ,i64_w,i32_w]
                          rfl
                         refine take_ (i:=4) (N:=some 82) (v:=?_) (a':=?_) #[true,true,true,true,true,false,false] rfl rfl (by kernel_rfl) (fun _ _ _ h => h) (Or.inl ⟨by rfl,?_⟩) hHeld ?_ ?_
                         rotate_left
                         ·rintro w' ⟨s0,s1,s2,s3,s4,s5,s6,s7⟩
                          go_simp
                          with_reducible rfl
                         rotate_left
                         ·simp only [Act.put,List.setIfInBounds_toArray,List.set_cons_zero,List.set_cons_succ,i64_w,i32_w]
                          rfl
                         refine one_ (i:=5) (N:=some 83) #[true,true,true,true,true,true,false] rfl rfl (by kernel_rfl) (by decide) (fun K hK => ?_)
                         refine goes_ Tryd.func40 (by kernel_rfl) rfl #[.int .u8 (bt a1 x7_5),.int .i64 a0_0] (by rfl) rfl rfl (by (try simp only [List.map_toArray,List.map_cons,List.map_nil]);first|done|rfl|(simp only [List.length_drop,List.length_take];rfl)) ?_
                         with_reducible refine (Yd.calls k5 (bt a1 x7_5) a0_0 t206 _ A38.out).mono ?_
                         rintro e w' ⟨rfl,⟨nd,rfl⟩⟩
                         refine ⟨_,rfl,?_⟩
                         refine hK.out _ _ ⟨(Zb BK197.out 0).trans rfl,(Zb BK197.out 1).trans rfl,(Zb BK197.out 2).trans rfl,(Zb BK197.out 3).trans rfl,(Zb BK197.out 4).trans rfl,(Zb BK197.out 5).trans rfl,(Zb BK197.out 6).trans rfl,(Zb BK197.out 7).trans rfl⟩ (fun hHeld => ?_)
                         clear hK K
                         refine norm_ (a':=?_) ?_ ?_
                         rotate_left
                         ·show Act.put _ (some 83) _=_
                          simp only [Act.put,List.setIfInBounds_toArray,List.set_cons_zero,List.set_cons_succ,i64_w,i32_w]
                          rfl
                         refine pure_ (i:=6) (N:=some 17) (v:=?_) (a':=?_) #[true,true,true,true,true,true,true] rfl rfl (by kernel_rfl) (fun _ _ _ h => h) (Or.inl ⟨by rfl,?_⟩) ?_ ?_
                         rotate_left
                         ·intro w'
                          go_simp
                          with_reducible rfl
                         rotate_left
                         ·simp only [Act.put,List.setIfInBounds_toArray,List.set_cons_zero,List.set_cons_succ,i64_w,i32_w]
                          rfl
                         refine done_ (by kernel_rfl) ?_
                         have hcz58_0 : w57.cell? ⟨gb197,0,none⟩=some (.int .i64 a0_0):=(Zb BK197.out 0).trans rfl
                         have hcz58_1 : w57.cell? ⟨gb197,1,none⟩=some (.int .i64 a0_1):=(Zb BK197.out 1).trans rfl
                         have hcz58_2 : w57.cell? ⟨gb197,2,none⟩=some (.int .i64 a0_2):=(Zb BK197.out 2).trans rfl
                         have hcz58_3 : w57.cell? ⟨gb197,3,none⟩=some (.int .i64 a0_3):=(Zb BK197.out 3).trans rfl
                         have hcz58_4 : w57.cell? ⟨gb197,4,none⟩=some (.int .i64 a0_4):=(Zb BK197.out 4).trans rfl
                         have hcz58_5 : w57.cell? ⟨gb197,5,none⟩=some (.int .i64 a0_5):=(Zb BK197.out 5).trans rfl
                         have hcz58_6 : w57.cell? ⟨gb197,6,none⟩=some (.int .i64 a0_6):=(Zb BK197.out 6).trans rfl
                         have hcz58_7 : w57.cell? ⟨gb197,7,none⟩=some (.int .u8 a0_7):=(Zb BK197.out 7).trans rfl
                         have hfz58_0:=Za BK197.out 0
                         have hfz58_1:=Za BK197.out 1
                         have hfz58_2:=Za BK197.out 2
                         have hfz58_3:=Za BK197.out 3
                         have hfz58_4:=Za BK197.out 4
                         have hfz58_5:=Za BK197.out 5
                         have hfz58_6:=Za BK197.out 6
                         have hfz58_7:=Za BK197.out 7
                         try go_wp2_with (first|((with_reducible refine Z0 (f:=42) rfl ?_);refine goesL_ (some 98) rfl rfl Tryd.func42 (by kernel_rfl) rfl #[.agg #[.int .i64 a0_0,.int .i64 a0_1,.int .i64 a0_2,.int .i64 a0_3,.int .i64 a0_4,.int .i64 a0_5,.int .i64 a0_6,.int .u8 a0_7],.int .i64 x16_5,.int .i64 x13_4] rfl (by (try simp only [List.map_toArray,List.map_cons,List.map_nil]);first|done|rfl|(simp only [List.length_drop,List.length_take];rfl)) ?_;(with_reducible refine (Z6.calls a0_0 a0_1 a0_2 a0_3 a0_4 a0_5 a0_6 a0_7 x16_5 x13_4 t207 _ A43.out).mono ?_);rintro e w59 ⟨rfl,hb⟩;refine ⟨_,rfl,?_⟩;have n0_:=Zf.mk (Kd.Z9 (by (with_reducible repeat (first|apply Kd.Zv|apply Kd.Zu|apply Kd.Zz));exact HO_9.out) hb);have n1_:=Zf.mk (Zw (g:=gb197) (o:=.cells #[.int .i64 a0_0,.int .i64 a0_1,.int .i64 a0_2,.int .i64 a0_3,.int .i64 a0_4,.int .i64 a0_5,.int .i64 a0_6,.int .u8 a0_7] 51 (0,0)) (by (with_reducible repeat (first|refine Zk ?_ _|refine Zn ?_|refine Zl ?_ _));exact BK197.out) hb);have n2_:=Zf.mk (Zm (by repeat (first|(with_reducible first|exact HB.out|apply Ze|apply Zc|apply Zd|refine Zg ?_ GE197.out)|exact HB.out)) hb);clear HO_9;clear BK197;clear HB;have HO_9:=n0_;have BK197:=n1_;have HB:=n2_;clear n0_ n1_ n2_;(try clear hb);(try clear hb2);(try clear hk);(try clear hi);obtain ⟨Ao60,co60,eo60⟩:=Kd.R_slice HO_9.out;subst eo60;have hcz61_0 : w59.cell? ⟨gb197,0,none⟩=some (.int .i64 a0_0):=(Zb BK197.out 0).trans rfl;have hcz61_1 : w59.cell? ⟨gb197,1,none⟩=some (.int .i64 a0_1):=(Zb BK197.out 1).trans rfl;have hcz61_2 : w59.cell? ⟨gb197,2,none⟩=some (.int .i64 a0_2):=(Zb BK197.out 2).trans rfl;have hcz61_3 : w59.cell? ⟨gb197,3,none⟩=some (.int .i64 a0_3):=(Zb BK197.out 3).trans rfl;have hcz61_4 : w59.cell? ⟨gb197,4,none⟩=some (.int .i64 a0_4):=(Zb BK197.out 4).trans rfl;have hcz61_5 : w59.cell? ⟨gb197,5,none⟩=some (.int .i64 a0_5):=(Zb BK197.out 5).trans rfl;have hcz61_6 : w59.cell? ⟨gb197,6,none⟩=some (.int .i64 a0_6):=(Zb BK197.out 6).trans rfl;have hcz61_7 : w59.cell? ⟨gb197,7,none⟩=some (.int .u8 a0_7):=(Zb BK197.out 7).trans rfl;have hfz61_0:=Za BK197.out 0;have hfz61_1:=Za BK197.out 1;have hfz61_2:=Za BK197.out 2;have hfz61_3:=Za BK197.out 3;have hfz61_4:=Za BK197.out 4;have hfz61_5:=Za BK197.out 5;have hfz61_6:=Za BK197.out 6;have hfz61_7:=Za BK197.out 7)|((with_reducible refine Z0 (f:=43) rfl ?_);refine goesL_ (some 127) rfl rfl Tryd.func43 (by kernel_rfl) rfl #[.agg #[.int .i64 a0_0,.int .i64 a0_1,.int .i64 a0_2,.int .i64 a0_3,.int .i64 a0_4,.int .i64 a0_5,.int .i64 a0_6,.int .u8 a0_7],.int .i64 (wrap64 ((wrap64 (x12_5 + (wrap64 (t206 * x15_5)))) - x12_4)),.int .i64 (wrap64 ((x9_4.length : Int) + 1)),.bool (x12_4 == 0)] rfl (by (try simp only [List.map_toArray,List.map_cons,List.map_nil]);first|done|rfl|(simp only [List.length_drop,List.length_take];rfl)) ?_;(with_reducible refine (Zy.calls k5 a0_0 a0_1 a0_2 a0_3 a0_4 a0_5 a0_6 a0_7 (wrap64 ((wrap64 (x12_5 + (wrap64 (t206 * x15_5)))) - x12_4)) (wrap64 ((x9_4.length : Int) + 1)) (x12_4 == 0) t208 _ A45.out).mono ?_);rintro e w62 ⟨rfl,hb⟩;refine ⟨_,rfl,?_⟩;have n0_:=Zf.mk (Kd.Z9 (by (with_reducible repeat (first|apply Kd.Zv|apply Kd.Zu|apply Kd.Zz));exact HO_9.out) hb);have n1_:=Zf.mk (Zw (g:=gb197) (o:=.cells #[.int .i64 a0_0,.int .i64 a0_1,.int .i64 a0_2,.int .i64 a0_3,.int .i64 a0_4,.int .i64 a0_5,.int .i64 a0_6,.int .u8 a0_7] 51 (0,0)) (by (with_reducible repeat (first|refine Zk ?_ _|refine Zn ?_|refine Zl ?_ _));exact BK197.out) hb);have n2_:=Zf.mk (Zm (by repeat (first|(with_reducible first|exact HB.out|apply Ze|apply Zc|apply Zd|refine Zg ?_ GE197.out)|exact HB.out)) hb);clear HO_9;clear BK197;clear HB;have HO_9:=n0_;have BK197:=n1_;have HB:=n2_;clear n0_ n1_ n2_;(try clear hb);(try clear hb2);(try clear hk);(try clear hi))|((with_reducible refine Z0 (f:=33) rfl ?_);refine goesL_ (some 141) rfl rfl Tryd.func33 (by kernel_rfl) rfl #[.int .i32 (wrap32 (wrap64 (x11_4 + (wrap64 (Int.tdiv (wrap64 (x12_5 + (wrap64 (t206 * x15_5)))) (wrap64 ((x9_4.length : Int) + 1)))))))] rfl (by (try simp only [List.map_toArray,List.map_cons,List.map_nil]);first|done|rfl|(simp only [List.length_drop,List.length_take];rfl)) ?_;(with_reducible refine (Yc.calls (wrap32 (wrap64 (x11_4 + (wrap64 (Int.tdiv (wrap64 (x12_5 + (wrap64 (t206 * x15_5)))) (wrap64 ((x9_4.length : Int) + 1))))))) true _ A54.out).mono ?_);rintro e w' ⟨rfl,⟨nd,rfl⟩⟩;refine ⟨_,rfl,?_⟩)|((with_reducible refine gate_builtin (b:=.append) (xs:=#[.tmp 144,.tmp 145]) rfl ?_);at_builtin;refine Kd.R_append (Kd.int .i32) (w0:=w) w.heap.size rfl (.tmp 144) (.tmp 145) 22 21 (.int .i32 0) 4 rfl Tryd.underlying22 info21 rfl (by decide) (by omega) (.slice Ao60 x9_4.length co60) x9_4 0 [.int .i32 0] (fun _ => True) (fun _ => False) rfl rfl ?aP (fun _ hk => hk.elim) ?aF ?aO ?aB ?aS ?aL ?_;(case aP => exact rfl);(case aB => exact (by repeat (first|(with_reducible first|exact HB.out|apply Ze|apply Zc|apply Zd|refine Zg ?_ GE197.out)|exact HB.out)));(case aF => exact (fun _ _ => trivial));(case aO => exact (by (with_reducible repeat (first|apply Kd.Zv|apply Kd.Zu|apply Kd.Zz));exact HO_9.out));(case aS => exact (Zo (by repeat (first|(with_reducible first|exact HB.out|apply Ze|apply Zc|apply Zd|refine Zg ?_ GE197.out)|exact HB.out))));(case aL => have:=LMc56.out;omega);intro v211 w63 ho hb hg hat;rw [← Ny210.out] at ho;have n0_:=Zf.mk (blk_grown (g:=gb197) (o:=.cells #[.int .i64 a0_0,.int .i64 a0_1,.int .i64 a0_2,.int .i64 a0_3,.int .i64 a0_4,.int .i64 a0_5,.int .i64 a0_6,.int .u8 a0_7] 51 (0,0)) (by (with_reducible repeat (first|refine Zk ?_ _|refine Zn ?_|refine Zl ?_ _));exact BK197.out) hg (Kd.R_ne HO_9.out BK197.out (by decide)));have n1_:=Zf.mk (hb);have n2_:=Zf.mk (ho);clear BK197;clear HB;clear HO_9;have BK197:=n0_;have HB:=n1_;have HO212:=n2_;clear n0_ n1_ n2_;clear ho hb hg hat;obtain ⟨Ao64,co64,eo64⟩:=Kd.R_slice HO212.out;subst eo64))
                         go_loopg [20] k5 (fun kq v20 w' => ∃ (x9_6 : List Int) (x20_6 : Int),v20=.int .i64 x20_6∧Zf (Zi.l4 kq a1 x7_5 x9_6 (wrap64 (x11_4 + (wrap64 (Int.tdiv (wrap64 (x12_5 + (wrap64 (t206 * x15_5)))) (wrap64 ((x9_4.length : Int) + 1)))))) (Int.tmod (wrap64 (x12_5 + (wrap64 (t206 * x15_5)))) (wrap64 ((x9_4.length : Int) + 1))) t208 x20_6 a0_0 a0_1 a0_2 a0_3 a0_4 a0_5 a0_6 a0_7=some (r1,r2,r3))∧Zf (kq≤k5)∧Zf (Kd.R (Kd.int .i32) 21 w' w.heap.size (fun _ => True) (.slice Ao64 y210.length co64) x9_6)∧Zf (w'.heap[gb197]?=some (.cells #[.int .i64 a0_0,.int .i64 a0_1,.int .i64 a0_2,.int .i64 a0_3,.int .i64 a0_4,.int .i64 a0_5,.int .i64 a0_6,.int .u8 a0_7] 51 (0,0)))∧Zf (Below w.heap.size w w'))
                         case atStart => exact ⟨(y210),(wrap64 ((y210.length : Int) - 1)),(by first|rfl|(simp;done)|(simp [*];done)),H',⟨Nat.le_refl _⟩,⟨by (with_reducible repeat (first|apply Kd.Zv|apply Kd.Zu|apply Kd.Zz));exact HO212.out⟩,⟨by (with_reducible repeat (first|refine Zk ?_ _|refine Zn ?_|refine Zl ?_ _));exact BK197.out⟩,⟨by repeat (first|(with_reducible first|exact HB.out|apply Ze|apply Zc|apply Zd|refine Zg ?_ GE197.out)|exact HB.out)⟩⟩
                         case round =>
                          clear H'
                          try clear c1
                          try clear p1
                          try clear q1
                          try clear hx1
                          try clear c2
                          try clear p2
                          try clear q2
                          try clear hx2
                          try clear c3
                          try clear p3
                          try clear q3
                          try clear hx3
                          try clear c4
                          try clear c5
                          try clear p6
                          try clear c8
                          try clear c8b0
                          try clear c9
                          try clear c9b0
                          try clear p10
                          try clear q10
                          try clear hx10
                          try clear c11
                          try clear c11b0
                          try clear c11b1
                          try clear c16
                          try clear c16b0
                          try clear c17
                          try clear c17b0
                          try clear c18
                          try clear c18b0
                          try clear p19
                          try clear q19
                          try clear hx19
                          try clear c21
                          try clear p22
                          try clear q22
                          try clear hx22
                          try clear c23
                          try clear c25
                          try clear c30
                          try clear c30b0
                          try clear c32
                          try clear c32b0
                          try clear p32
                          try clear c33
                          try clear c34
                          try clear c34b0
                          try clear c34b1
                          try clear c35
                          try clear c35b0
                          try clear c36
                          try clear c36b0
                          try clear p37
                          try clear q37
                          try clear hx37
                          try clear c39
                          try clear c39b0
                          try clear c40
                          try clear c41
                          try clear c41b0
                          try clear c42
                          try clear c43
                          try clear c44
                          try clear c44b0
                          try clear c46
                          try clear c46b0
                          try clear c46b1
                          try clear c47
                          try clear c47b0
                          try clear c55
                          try clear c56
                          try clear p64
                          try clear hcz49_0
                          try clear hcz49_1
                          try clear hcz49_2
                          try clear hcz49_3
                          try clear hcz49_4
                          try clear hcz49_5
                          try clear hcz49_6
                          try clear hcz49_7
                          try clear hcz52_0
                          try clear hcz52_1
                          try clear hcz52_2
                          try clear hcz52_3
                          try clear hcz52_4
                          try clear hcz52_5
                          try clear hcz52_6
                          try clear hcz52_7
                          try clear hcz58_0
                          try clear hcz58_1
                          try clear hcz58_2
                          try clear hcz58_3
                          try clear hcz58_4
                          try clear hcz58_5
                          try clear hcz58_6
                          try clear hcz58_7
                          try clear hcz61_0
                          try clear hcz61_1
                          try clear hcz61_2
                          try clear hcz61_3
                          try clear hcz61_4
                          try clear hcz61_5
                          try clear hcz61_6
                          try clear hcz61_7
                          try clear hcz6_0
                          try clear hcz6_1
                          try clear hcz6_2
                          try clear hcz6_3
                          try clear hcz6_4
                          try clear hcz6_5
                          try clear hcz6_6
                          try clear hcz6_7
                          try clear hfz49_0
                          try clear hfz49_1
                          try clear hfz49_2
                          try clear hfz49_3
                          try clear hfz49_4
                          try clear hfz49_5
                          try clear hfz49_6
                          try clear hfz49_7
                          try clear hfz52_0
                          try clear hfz52_1
                          try clear hfz52_2
                          try clear hfz52_3
                          try clear hfz52_4
                          try clear hfz52_5
                          try clear hfz52_6
                          try clear hfz52_7
                          try clear hfz58_0
                          try clear hfz58_1
                          try clear hfz58_2
                          try clear hfz58_3
                          try clear hfz58_4
                          try clear hfz58_5
                          try clear hfz58_6
                          try clear hfz58_7
                          try clear hfz61_0
                          try clear hfz61_1
                          try clear hfz61_2
                          try clear hfz61_3
                          try clear hfz61_4
                          try clear hfz61_5
                          try clear hfz61_6
                          try clear hfz61_7
                          try clear hfz6_0
                          try clear hfz6_1
                          try clear hfz6_2
                          try clear hfz6_3
                          try clear hfz6_4
                          try clear hfz6_5
                          try clear hfz6_6
                          try clear hfz6_7
                          try clear p1
                          try clear p10
                          try clear p19
                          try clear p2
                          try clear p22
                          try clear p3
                          try clear p32
                          try clear p37
                          try clear p6
                          try clear q1
                          try clear q10
                          try clear q19
                          try clear q2
                          try clear q22
                          try clear q37
                          obtain ⟨x9_6,x20_6,rfl,HA,HK6,HO_9,BK197,HB⟩:=hrel
                          have hl9_6:=(Kd.R_reads' HO_9.out).1
                          rw [hl9_6] at HO_9
                          (try simp only [hl9_6])
                          (try simp only [hl9_6] at BK197)
                          cases gk with
                          | zero => exact absurd HA.out (by simp [Zi.l4])
                          | succ k6 =>
                           have H:=HA.out
                           clear HA
                           simp only [Zi.l4] at H
                           by_cases c65 : x20_6 > (Int.tmod (wrap64 (x12_5 + (wrap64 (t206 * x15_5)))) (wrap64 ((x9_4.length : Int) + 1)))
                           ·rw [if_pos c65] at H
                            have c65b0 : decide ((Int.tmod (wrap64 (x12_5 + (wrap64 (t206 * x15_5)))) (wrap64 ((x9_4.length : Int) + 1))) < x20_6)=true:=decide_eq_true c65
                            clear c65
                            obtain ⟨ji66,hji66⟩ : ∃ j_ : Int,(wrap64 (x20_6 - 1))=j_:=⟨_,rfl⟩
                            replace H : (if 0≤(ji66) then (if (ji66) < (x9_6.length : Int) then (if 0≤x20_6 then (if x20_6 < (x9_6.length : Int) then (Zi.l4 k6 a1 x7_5 (x9_6.set (x20_6 : Int).toNat (rd x9_6 (ji66))) (wrap64 (x11_4 + (wrap64 (Int.tdiv (wrap64 (x12_5 + (wrap64 (t206 * x15_5)))) (wrap64 ((x9_4.length : Int) + 1)))))) (Int.tmod (wrap64 (x12_5 + (wrap64 (t206 * x15_5)))) (wrap64 ((x9_4.length : Int) + 1))) t208 ji66 a0_0 a0_1 a0_2 a0_3 a0_4 a0_5 a0_6 a0_7) else (none)) else (none)) else (none)) else (none))=some (r1,r2,r3):=by first|(rw [hji66] at H;exact H)|(simp only [hji66] at H ⊢;exact H)
                            have hji66w : (IntKind.i64.wrap (x20_6 - 1))=ji66:=(i64_w _).trans hji66
                            by_cases c67 : 0≤(ji66)
                            ·rw [if_pos c67] at H
                             have c67b0 : decide (0≤(ji66))=true:=decide_eq_true c67
                             clear c67
                             by_cases c68 : (ji66) < (x9_6.length : Int)
                             ·rw [if_pos c68] at H
                              have c68b0 : decide ((ji66) < (x9_6.length : Int))=true:=decide_eq_true c68
                              clear c68
                              by_cases c69 : 0≤x20_6
                              ·rw [if_pos c69] at H
                               have c69b0 : decide (0≤x20_6)=true:=decide_eq_true c69
                               clear c69
                               by_cases c70 : x20_6 < (x9_6.length : Int)
                               ·rw [if_pos c70] at H
                                have c70b0 : decide (x20_6 < (x9_6.length : Int))=true:=decide_eq_true c70
                                clear c70
                                obtain ⟨y214,hy214⟩ : ∃ y_ : List Int,y_=(x9_6.set (x20_6 : Int).toNat (rd x9_6 (ji66))):=⟨_,rfl⟩
                                replace H : (Zi.l4 k6 a1 x7_5 y214 (wrap64 (x11_4 + (wrap64 (Int.tdiv (wrap64 (x12_5 + (wrap64 (t206 * x15_5)))) (wrap64 ((x9_4.length : Int) + 1)))))) (Int.tmod (wrap64 (x12_5 + (wrap64 (t206 * x15_5)))) (wrap64 ((x9_4.length : Int) + 1))) t208 ji66 a0_0 a0_1 a0_2 a0_3 a0_4 a0_5 a0_6 a0_7)=some (r1,r2,r3):=by first|(rw [hy214];with_reducible exact H)|(have H2_:=(Option.bind_some _ _).symm.trans H;rw [hy214];with_reducible exact H2_)|(have H2_:=(Option.bind_some _ _).symm.trans H;with_reducible exact H2_)|with_reducible exact H|(rw [hy214];exact H)|exact H
                                have Ny214:=Zf.mk hy214
                                clear hy214
                                have H':=Zf.mk H
                                clear H
                                have p213 : 0≤((ji66) : Int):=of_decide_eq_true (by first|(with_reducible assumption)|assumption)
                                have q213 : (ji66) < (x9_6.length : Int):=of_decide_eq_true (by first|(with_reducible assumption)|assumption)
                                obtain ⟨ad213,e213,hx213_0⟩:=Kd.at_int (Kd.R_reads' HO_9.out).2.2 (ji66) p213 q213
                                cases e213
                                replace p213:=eq_true p213
                                replace q213:=eq_true q213
                                have p71 : 0≤(x20_6 : Int):=of_decide_eq_true (by first|(with_reducible assumption)|assumption)
                                have q71 : (x20_6 : Int) < ((x9_6.length : Int) : Int):=of_decide_eq_true (by first|(with_reducible assumption)|assumption)
                                obtain ⟨go71,co71,eo71,gb71,gl71,cl71,HG71⟩:=Kd.R_form HO_9.out (by omega)
                                (first|cases eo71|(injection eo71 with ea_ en_ ec_;(first|subst ea_|(injection ea_ with ea_;subst ea_));subst ec_;clear en_))
                                have GB71:=Zf.mk gb71
                                have GG71:=Zf.mk HG71
                                clear gb71 gl71 HG71
                                (first|simp only [add_plain] at hx213_0|skip)
                                obtain ⟨hx71_0,hf71_0⟩:=Kd.R_celln 0 HO_9.out (x20_6 : Int) p71 q71
                                replace p71:=eq_true p71
                                replace q71:=eq_true q71
                                have HP72:=Kd.R_putg HO_9.out (x20_6 : Int) (rd x9_6 (ji66))
                                go_wp2_with (first|((with_reducible refine gate_store (t:=21) (p:=162) rfl ?_);refine store_event (t:=21) (p:=162) (v:=?vo_w73) (w1:=(wr.setCell ⟨go71,(x20_6 : Int).toNat,none⟩ (.int .i32 (rd x9_6 (ji66))))) ?hg ?ho ?hn ?hr ?_;(case ho => rfl);(case hg => rfl);(case hn => rfl);(case hr => first|(go_simp;done)|(go_simp;rfl));intro w73 hw;have hg : wr.grownBy w73 (some go71):=(by rw [hw];exact HP72.2);have hp_ : Kd.R (Kd.int .i32) 21 w73 w.heap.size (fun _ => True) (.slice (some ⟨go71,0,none⟩) x9_6.length co64) y214:=(by rw [hw,Ny214.out];exact HP72.1);clear HP72;have n0_:=Zf.mk (hp_);have n1_:=Zf.mk (blk_grown (g:=gb197) (o:=.cells #[.int .i64 a0_0,.int .i64 a0_1,.int .i64 a0_2,.int .i64 a0_3,.int .i64 a0_4,.int .i64 a0_5,.int .i64 a0_6,.int .u8 a0_7] 51 (0,0)) (by (with_reducible repeat (first|refine Zk ?_ _|refine Zn ?_|refine Zl ?_ _));exact BK197.out) hg (Kd.R_ne HO_9.out BK197.out (by decide)));have n2_:=Zf.mk ((by rw [hw];exact Zg (HB.out) GB71.out : Below w.heap.size w w73));clear HO_9;clear BK197;clear HB;have HO_9:=n0_;have BK197:=n1_;have HB:=n2_;clear n0_ n1_ n2_;clear hg hw hp_))
                                (try simp only [← hl9_6])
                                go_roundg k6
                                case measure => have:=HK1.out;have:=HK2.out;have:=HJ28.out;have:=HK4.out;have:=HK5.out;have:=HK6.out;omega
                                case rel => exact ⟨(y214),(ji66),(by first|rfl|(simp;done)|(simp only [← hji66] <;> (first|rfl|simp))|(simp [*];done)),H',⟨by have:=HK1.out;have:=HK2.out;have:=HJ28.out;have:=HK4.out;have:=HK5.out;have:=HK6.out;omega⟩,⟨by (try simp only [hl9_6]);(with_reducible repeat (first|apply Kd.Zv|apply Kd.Zu|apply Kd.Zz));exact HO_9.out⟩,⟨by (try simp only [hl9_6]);(with_reducible repeat (first|refine Zk ?_ _|refine Zn ?_|refine Zl ?_ _));exact BK197.out⟩,⟨by repeat (first|(with_reducible first|exact HB.out|apply Ze|apply Zc|apply Zd|refine Zg ?_ GE197.out)|exact HB.out)⟩⟩
                               ·rw [if_neg c70] at H
                                exact absurd H (by simp)
                              ·rw [if_neg c69] at H
                               exact absurd H (by simp)
                             ·rw [if_neg c68] at H
                              exact absurd H (by simp)
                            ·rw [if_neg c67] at H
                             exact absurd H (by simp)
                           ·rw [if_neg c65] at H
                            have c65b0 : decide ((Int.tmod (wrap64 (x12_5 + (wrap64 (t206 * x15_5)))) (wrap64 ((x9_4.length : Int) + 1))) < x20_6)=false:=decide_eq_false c65
                            clear c65
                            obtain ⟨ji74,hji74⟩ : ∃ j_ : Int,(Int.tmod (wrap64 (x12_5 + (wrap64 (t206 * x15_5)))) (wrap64 ((x9_4.length : Int) + 1)))=j_:=⟨_,rfl⟩
                            replace H : (if 0≤(ji74) then (if (ji74) < (x9_6.length : Int) then (Zi.l2 k6 a1 (wrap64 (x7_5 + 1)) (x9_6.set ((ji74) : Int).toNat (wrap32 ((wrap64 (x11_4 + (wrap64 (Int.tdiv (wrap64 (x12_5 + (wrap64 (t206 * x15_5)))) (wrap64 ((x9_4.length : Int) + 1))))))))) (wrap64 (x11_4 + (wrap64 (Int.tdiv (wrap64 (x12_5 + (wrap64 (t206 * x15_5)))) (wrap64 ((x9_4.length : Int) + 1)))))) (wrap64 ((ji74) + 1)) t208 a0_0 a0_1 a0_2 a0_3 a0_4 a0_5 a0_6 a0_7) else (none)) else (none))=some (r1,r2,r3):=by first|(rw [hji74] at H;exact H)|(simp only [hji74] at H ⊢;exact H)
                            (try rw [hji74] at c65b0)
                            by_cases c75 : 0≤(ji74)
                            ·rw [if_pos c75] at H
                             have c75b0 : decide (0≤(ji74))=true:=decide_eq_true c75
                             clear c75
                             by_cases c76 : (ji74) < (x9_6.length : Int)
                             ·rw [if_pos c76] at H
                              have c76b0 : decide ((ji74) < (x9_6.length : Int))=true:=decide_eq_true c76
                              clear c76
                              obtain ⟨y215,hy215⟩ : ∃ y_ : List Int,y_=(x9_6.set ((ji74) : Int).toNat (wrap32 ((wrap64 (x11_4 + (wrap64 (Int.tdiv (wrap64 (x12_5 + (wrap64 (t206 * x15_5)))) (wrap64 ((x9_4.length : Int) + 1))))))))):=⟨_,rfl⟩
                              replace H : (Zi.l2 k6 a1 (wrap64 (x7_5 + 1)) y215 (wrap64 (x11_4 + (wrap64 (Int.tdiv (wrap64 (x12_5 + (wrap64 (t206 * x15_5)))) (wrap64 ((x9_4.length : Int) + 1)))))) (wrap64 ((ji74) + 1)) t208 a0_0 a0_1 a0_2 a0_3 a0_4 a0_5 a0_6 a0_7)=some (r1,r2,r3):=by first|(rw [hy215];with_reducible exact H)|(have H2_:=(Option.bind_some _ _).symm.trans H;rw [hy215];with_reducible exact H2_)|(have H2_:=(Option.bind_some _ _).symm.trans H;with_reducible exact H2_)|with_reducible exact H|(rw [hy215];exact H)|exact H
                              have Ny215:=Zf.mk hy215
                              clear hy215
                              have H':=Zf.mk H
                              clear H
                              have p77 : 0≤((ji74) : Int):=of_decide_eq_true (by first|(with_reducible assumption)|assumption)
                              have q77 : ((ji74) : Int) < ((x9_6.length : Int) : Int):=of_decide_eq_true (by first|(with_reducible assumption)|assumption)
                              obtain ⟨go77,co77,eo77,gb77,gl77,cl77,HG77⟩:=Kd.R_form HO_9.out (by omega)
                              (first|cases eo77|(injection eo77 with ea_ en_ ec_;(first|subst ea_|(injection ea_ with ea_;subst ea_));subst ec_;clear en_))
                              have GB77:=Zf.mk gb77
                              have GG77:=Zf.mk HG77
                              clear gb77 gl77 HG77
                              obtain ⟨hx77_0,hf77_0⟩:=Kd.R_celln 0 HO_9.out ((ji74) : Int) p77 q77
                              replace p77:=eq_true p77
                              replace q77:=eq_true q77
                              have HP78:=Kd.R_putg HO_9.out ((ji74) : Int) (wrap32 ((wrap64 (x11_4 + (wrap64 (Int.tdiv (wrap64 (x12_5 + (wrap64 (t206 * x15_5)))) (wrap64 ((x9_4.length : Int) + 1))))))))
                              go_wp2_with (first|((with_reducible refine gate_store (t:=21) (p:=167) rfl ?_);refine store_event (t:=21) (p:=167) (v:=?vo_w79) (w1:=(wr.setCell ⟨go77,((ji74) : Int).toNat,none⟩ (.int .i32 (wrap32 ((wrap64 (x11_4 + (wrap64 (Int.tdiv (wrap64 (x12_5 + (wrap64 (t206 * x15_5)))) (wrap64 ((x9_4.length : Int) + 1))))))))))) ?hg ?ho ?hn ?hr ?_;(case ho => rfl);(case hg => rfl);(case hn => rfl);(case hr => first|(go_simp;done)|(go_simp;rfl));intro w79 hw;have hg : wr.grownBy w79 (some go77):=(by rw [hw];exact HP78.2);have hp_ : Kd.R (Kd.int .i32) 21 w79 w.heap.size (fun _ => True) (.slice (some ⟨go77,0,none⟩) x9_6.length co64) y215:=(by rw [hw,Ny215.out];exact HP78.1);clear HP78;have n0_:=Zf.mk (hp_);have n1_:=Zf.mk (blk_grown (g:=gb197) (o:=.cells #[.int .i64 a0_0,.int .i64 a0_1,.int .i64 a0_2,.int .i64 a0_3,.int .i64 a0_4,.int .i64 a0_5,.int .i64 a0_6,.int .u8 a0_7] 51 (0,0)) (by (with_reducible repeat (first|refine Zk ?_ _|refine Zn ?_|refine Zl ?_ _));exact BK197.out) hg (Kd.R_ne HO_9.out BK197.out (by decide)));have n2_:=Zf.mk ((by rw [hw];exact Zg (HB.out) GB77.out : Below w.heap.size w w79));clear HO_9;clear BK197;clear HB;have HO_9:=n0_;have BK197:=n1_;have HB:=n2_;clear n0_ n1_ n2_;clear hg hw hp_))
                              (try simp only [← hl9_6])
                              go_roundg k6
                              case measure => have:=HK1.out;have:=HK2.out;have:=HJ28.out;have:=HK4.out;have:=HK5.out;have:=HK6.out;omega
                              case rel => exact ⟨(wrap64 (x7_5 + 1)),(y215),((wrap64 (x11_4 + (wrap64 (Int.tdiv (wrap64 (x12_5 + (wrap64 (t206 * x15_5)))) (wrap64 ((x9_4.length : Int) + 1))))))),(wrap64 ((ji74) + 1)),(t208),(by first|rfl|(simp;done)|(simp [*];done)),(by first|rfl|(simp;done)|(simp [*];done)),(by first|rfl|(simp;done)|(simp only [← hji74] <;> (first|rfl|simp))|(simp [*];done)),(by first|rfl|(simp;done)|(simp [*];done)),H',⟨by have:=HK1.out;have:=HK2.out;have:=HJ28.out;have:=HK4.out;have:=HK5.out;have:=HK6.out;omega⟩,⟨by (try simp only [hl9_6]);(with_reducible repeat (first|apply Kd.Zv|apply Kd.Zu|apply Kd.Zz));exact HO_9.out⟩,⟨by (try simp only [hl9_6]);(with_reducible repeat (first|refine Zk ?_ _|refine Zn ?_|refine Zl ?_ _));exact BK197.out⟩,⟨by repeat (first|(with_reducible first|exact HB.out|apply Ze|apply Zc|apply Zd|refine Zg ?_ GE197.out)|exact HB.out)⟩⟩
                             ·rw [if_neg c76] at H
                              exact absurd H (by simp)
                            ·rw [if_neg c75] at H
                             exact absurd H (by simp)
                        ·rw [if_neg c56] at H
                         exact absurd H (by simp)
                       ·replace c55:=Bool.eq_false_iff.mpr c55
                        subst c55
                        have H1 : (some (([] : List Int),x7_5,143))=some (r1,r2,r3):=by rw [if_neg (show ¬ (false=true) by decide)] at H;exact H
                        clear H
                        have H:=H1
                        clear H1
                        simp only [Option.some.injEq,Prod.mk.injEq] at H
                        obtain ⟨rfl,rfl,rfl⟩:=H
                        try go_wp2
                        have n0_:=Zf.mk (Kd.Zz HO_9.out)
                        have n1_:=Zf.mk (Zn BK197.out)
                        have n2_:=Zf.mk (Zd HB.out)
                        clear HO_9
                        clear BK197
                        clear HB
                        have HO_9:=n0_
                        have BK197:=n1_
                        have HB:=n2_
                        clear n0_ n1_ n2_
                        have p37 : 0≤(x7_5 : Int):=of_decide_eq_true (by first|(with_reducible assumption)|assumption)
                        have q37 : x7_5 < (a1.size : Int):=of_decide_eq_true (by first|(with_reducible assumption)|assumption)
                        have hx37:=bt_at a1 x7_5
                        replace p37:=eq_true p37
                        replace q37:=eq_true q37
                        refine start_ (n:=7) (S:=fun w' => w'.cell? ⟨gb197,0,none⟩=some (.int .i64 a0_0)∧w'.cell? ⟨gb197,1,none⟩=some (.int .i64 a0_1)∧w'.cell? ⟨gb197,2,none⟩=some (.int .i64 a0_2)∧w'.cell? ⟨gb197,3,none⟩=some (.int .i64 a0_3)∧w'.cell? ⟨gb197,4,none⟩=some (.int .i64 a0_4)∧w'.cell? ⟨gb197,5,none⟩=some (.int .i64 a0_5)∧w'.cell? ⟨gb197,6,none⟩=some (.int .i64 a0_6)∧w'.cell? ⟨gb197,7,none⟩=some (.int .u8 a0_7)) (ds:=[]) #[false,false,false,false,false,false,false] (by kernel_rfl) rfl rfl ⟨(Zb BK197.out 0).trans rfl,(Zb BK197.out 1).trans rfl,(Zb BK197.out 2).trans rfl,(Zb BK197.out 3).trans rfl,(Zb BK197.out 4).trans rfl,(Zb BK197.out 5).trans rfl,(Zb BK197.out 6).trans rfl,(Zb BK197.out 7).trans rfl⟩ (fun hHeld => ?_)
                        generalize wr.drew=w80 at HO_9 BK197 HB hHeld ⊢
                        refine pure_ (i:=0) (N:=some 78) (v:=?_) (a':=?_) #[true,false,false,false,false,false,false] rfl rfl (by kernel_rfl) (fun _ _ _ h => h) (Or.inl ⟨by rfl,?_⟩) ?_ ?_
                        rotate_left
                        ·intro w'
                         go_simp
                         with_reducible rfl
                        rotate_left
                        ·simp only [Act.put,List.setIfInBounds_toArray,List.set_cons_zero,List.set_cons_succ,i64_w,i32_w]
                         rfl
                        refine pure_ (i:=1) (N:=some 79) (v:=?_) (a':=?_) #[true,true,false,false,false,false,false] rfl rfl (by kernel_rfl) (fun _ _ _ h => h) (Or.inl ⟨by rfl,?_⟩) ?_ ?_
                        rotate_left
                        ·intro w'
                         go_simp
                         with_reducible rfl
                        rotate_left
                        ·simp only [Act.put,List.setIfInBounds_toArray,List.set_cons_zero,List.set_cons_succ,i64_w,i32_w]
                         rfl
                        refine pure_ (i:=3) (N:=some 81) (v:=?_) (a':=?_) #[true,true,false,true,false,false,false] rfl rfl (by kernel_rfl) (fun _ _ _ h => h) (Or.inl ⟨by rfl,?_⟩) ?_ ?_
                        rotate_left
                        ·intro w'
                         go_simp
                         with_reducible rfl
                        rotate_left
                        ·simp only [Act.put,List.setIfInBounds_toArray,List.set_cons_zero,List.set_cons_succ,i64_w,i32_w]
                         rfl
                        refine take_ (i:=2) (N:=some 80) (v:=?_) (a':=?_) #[true,true,true,true,false,false,false] rfl rfl (by kernel_rfl) (fun _ _ _ h => h) (Or.inl ⟨by rfl,?_⟩) hHeld ?_ ?_
                        rotate_left
                        ·rintro w' ⟨s0,s1,s2,s3,s4,s5,s6,s7⟩
                         go_simp
                         with_reducible rfl
                        rotate_left
                        ·simp only [Act.put,List.setIfInBounds_toArray,List.set_cons_zero,List.set_cons_succ,i64_w,i32_w]
                         rfl
                        refine take_ (i:=4) (N:=some 82) (v:=?_) (a':=?_) #[true,true,true,true,true,false,false] rfl rfl (by kernel_rfl) (fun _ _ _ h => h) (Or.inl ⟨by rfl,?_⟩) hHeld ?_ ?_
                        rotate_left
                        ·rintro w' ⟨s0,s1,s2,s3,s4,s5,s6,s7⟩
                         go_simp
                         with_reducible rfl
                        rotate_left
                        ·simp only [Act.put,List.setIfInBounds_toArray,List.set_cons_zero,List.set_cons_succ,i64_w,i32_w]
                         rfl
                        refine one_ (i:=5) (N:=some 83) #[true,true,true,true,true,true,false] rfl rfl (by kernel_rfl) (by decide) (fun K hK => ?_)
                        refine goes_ Tryd.func40 (by kernel_rfl) rfl #[.int .u8 (bt a1 x7_5),.int .i64 a0_0] (by rfl) rfl rfl (by (try simp only [List.map_toArray,List.map_cons,List.map_nil]);first|done|rfl|(simp only [List.length_drop,List.length_take];rfl)) ?_
                        with_reducible refine (Yd.calls k5 (bt a1 x7_5) a0_0 t206 _ A38.out).mono ?_
                        rintro e w' ⟨rfl,⟨nd,rfl⟩⟩
                        refine ⟨_,rfl,?_⟩
                        refine hK.out _ _ ⟨(Zb BK197.out 0).trans rfl,(Zb BK197.out 1).trans rfl,(Zb BK197.out 2).trans rfl,(Zb BK197.out 3).trans rfl,(Zb BK197.out 4).trans rfl,(Zb BK197.out 5).trans rfl,(Zb BK197.out 6).trans rfl,(Zb BK197.out 7).trans rfl⟩ (fun hHeld => ?_)
                        clear hK K
                        refine norm_ (a':=?_) ?_ ?_
                        rotate_left
                        ·show Act.put _ (some 83) _=_
                         simp only [Act.put,List.setIfInBounds_toArray,List.set_cons_zero,List.set_cons_succ,i64_w,i32_w]
                         rfl
                        refine pure_ (i:=6) (N:=some 17) (v:=?_) (a':=?_) #[true,true,true,true,true,true,true] rfl rfl (by kernel_rfl) (fun _ _ _ h => h) (Or.inl ⟨by rfl,?_⟩) ?_ ?_
                        rotate_left
                        ·intro w'
                         go_simp
                         with_reducible rfl
                        rotate_left
                        ·simp only [Act.put,List.setIfInBounds_toArray,List.set_cons_zero,List.set_cons_succ,i64_w,i32_w]
                         rfl
                        refine done_ (by kernel_rfl) ?_
                        have hcz81_0 : w80.cell? ⟨gb197,0,none⟩=some (.int .i64 a0_0):=(Zb BK197.out 0).trans rfl
                        have hcz81_1 : w80.cell? ⟨gb197,1,none⟩=some (.int .i64 a0_1):=(Zb BK197.out 1).trans rfl
                        have hcz81_2 : w80.cell? ⟨gb197,2,none⟩=some (.int .i64 a0_2):=(Zb BK197.out 2).trans rfl
                        have hcz81_3 : w80.cell? ⟨gb197,3,none⟩=some (.int .i64 a0_3):=(Zb BK197.out 3).trans rfl
                        have hcz81_4 : w80.cell? ⟨gb197,4,none⟩=some (.int .i64 a0_4):=(Zb BK197.out 4).trans rfl
                        have hcz81_5 : w80.cell? ⟨gb197,5,none⟩=some (.int .i64 a0_5):=(Zb BK197.out 5).trans rfl
                        have hcz81_6 : w80.cell? ⟨gb197,6,none⟩=some (.int .i64 a0_6):=(Zb BK197.out 6).trans rfl
                        have hcz81_7 : w80.cell? ⟨gb197,7,none⟩=some (.int .u8 a0_7):=(Zb BK197.out 7).trans rfl
                        have hfz81_0:=Za BK197.out 0
                        have hfz81_1:=Za BK197.out 1
                        have hfz81_2:=Za BK197.out 2
                        have hfz81_3:=Za BK197.out 3
                        have hfz81_4:=Za BK197.out 4
                        have hfz81_5:=Za BK197.out 5
                        have hfz81_6:=Za BK197.out 6
                        have hfz81_7:=Za BK197.out 7
                        try go_wp2_with (first|((with_reducible refine Z0 (f:=42) rfl ?_);refine goesL_ (some 98) rfl rfl Tryd.func42 (by kernel_rfl) rfl #[.agg #[.int .i64 a0_0,.int .i64 a0_1,.int .i64 a0_2,.int .i64 a0_3,.int .i64 a0_4,.int .i64 a0_5,.int .i64 a0_6,.int .u8 a0_7],.int .i64 x16_5,.int .i64 x13_4] rfl (by (try simp only [List.map_toArray,List.map_cons,List.map_nil]);first|done|rfl|(simp only [List.length_drop,List.length_take];rfl)) ?_;(with_reducible refine (Z6.calls a0_0 a0_1 a0_2 a0_3 a0_4 a0_5 a0_6 a0_7 x16_5 x13_4 t207 _ A43.out).mono ?_);rintro e w82 ⟨rfl,hb⟩;refine ⟨_,rfl,?_⟩;have n0_:=Zf.mk (Kd.Z9 (by (with_reducible repeat (first|apply Kd.Zv|apply Kd.Zu|apply Kd.Zz));exact HO_9.out) hb);have n1_:=Zf.mk (Zw (g:=gb197) (o:=.cells #[.int .i64 a0_0,.int .i64 a0_1,.int .i64 a0_2,.int .i64 a0_3,.int .i64 a0_4,.int .i64 a0_5,.int .i64 a0_6,.int .u8 a0_7] 51 (0,0)) (by (with_reducible repeat (first|refine Zk ?_ _|refine Zn ?_|refine Zl ?_ _));exact BK197.out) hb);have n2_:=Zf.mk (Zm (by repeat (first|(with_reducible first|exact HB.out|apply Ze|apply Zc|apply Zd|refine Zg ?_ GE197.out)|exact HB.out)) hb);clear HO_9;clear BK197;clear HB;have HO_9:=n0_;have BK197:=n1_;have HB:=n2_;clear n0_ n1_ n2_;(try clear hb);(try clear hb2);(try clear hk);(try clear hi);obtain ⟨Ao83,co83,eo83⟩:=Kd.R_slice HO_9.out;subst eo83;have hcz84_0 : w82.cell? ⟨gb197,0,none⟩=some (.int .i64 a0_0):=(Zb BK197.out 0).trans rfl;have hcz84_1 : w82.cell? ⟨gb197,1,none⟩=some (.int .i64 a0_1):=(Zb BK197.out 1).trans rfl;have hcz84_2 : w82.cell? ⟨gb197,2,none⟩=some (.int .i64 a0_2):=(Zb BK197.out 2).trans rfl;have hcz84_3 : w82.cell? ⟨gb197,3,none⟩=some (.int .i64 a0_3):=(Zb BK197.out 3).trans rfl;have hcz84_4 : w82.cell? ⟨gb197,4,none⟩=some (.int .i64 a0_4):=(Zb BK197.out 4).trans rfl;have hcz84_5 : w82.cell? ⟨gb197,5,none⟩=some (.int .i64 a0_5):=(Zb BK197.out 5).trans rfl;have hcz84_6 : w82.cell? ⟨gb197,6,none⟩=some (.int .i64 a0_6):=(Zb BK197.out 6).trans rfl;have hcz84_7 : w82.cell? ⟨gb197,7,none⟩=some (.int .u8 a0_7):=(Zb BK197.out 7).trans rfl;have hfz84_0:=Za BK197.out 0;have hfz84_1:=Za BK197.out 1;have hfz84_2:=Za BK197.out 2;have hfz84_3:=Za BK197.out 3;have hfz84_4:=Za BK197.out 4;have hfz84_5:=Za BK197.out 5;have hfz84_6:=Za BK197.out 6;have hfz84_7:=Za BK197.out 7)|((with_reducible refine Z0 (f:=43) rfl ?_);refine goesL_ (some 127) rfl rfl Tryd.func43 (by kernel_rfl) rfl #[.agg #[.int .i64 a0_0,.int .i64 a0_1,.int .i64 a0_2,.int .i64 a0_3,.int .i64 a0_4,.int .i64 a0_5,.int .i64 a0_6,.int .u8 a0_7],.int .i64 (wrap64 ((wrap64 (x12_5 + (wrap64 (t206 * x15_5)))) - x12_4)),.int .i64 (wrap64 ((x9_4.length : Int) + 1)),.bool (x12_4 == 0)] rfl (by (try simp only [List.map_toArray,List.map_cons,List.map_nil]);first|done|rfl|(simp only [List.length_drop,List.length_take];rfl)) ?_;(with_reducible refine (Zy.calls k5 a0_0 a0_1 a0_2 a0_3 a0_4 a0_5 a0_6 a0_7 (wrap64 ((wrap64 (x12_5 + (wrap64 (t206 * x15_5)))) - x12_4)) (wrap64 ((x9_4.length : Int) + 1)) (x12_4 == 0) t208 _ A45.out).mono ?_);rintro e w85 ⟨rfl,hb⟩;refine ⟨_,rfl,?_⟩;have n0_:=Zf.mk (Kd.Z9 (by (with_reducible repeat (first|apply Kd.Zv|apply Kd.Zu|apply Kd.Zz));exact HO_9.out) hb);have n1_:=Zf.mk (Zw (g:=gb197) (o:=.cells #[.int .i64 a0_0,.int .i64 a0_1,.int .i64 a0_2,.int .i64 a0_3,.int .i64 a0_4,.int .i64 a0_5,.int .i64 a0_6,.int .u8 a0_7] 51 (0,0)) (by (with_reducible repeat (first|refine Zk ?_ _|refine Zn ?_|refine Zl ?_ _));exact BK197.out) hb);have n2_:=Zf.mk (Zm (by repeat (first|(with_reducible first|exact HB.out|apply Ze|apply Zc|apply Zd|refine Zg ?_ GE197.out)|exact HB.out)) hb);clear HO_9;clear BK197;clear HB;have HO_9:=n0_;have BK197:=n1_;have HB:=n2_;clear n0_ n1_ n2_;(try clear hb);(try clear hb2);(try clear hk);(try clear hi))|((with_reducible refine Z0 (f:=33) rfl ?_);refine goesL_ (some 141) rfl rfl Tryd.func33 (by kernel_rfl) rfl #[.int .i32 (wrap32 (wrap64 (x11_4 + (wrap64 (Int.tdiv (wrap64 (x12_5 + (wrap64 (t206 * x15_5)))) (wrap64 ((x9_4.length : Int) + 1)))))))] rfl (by (try simp only [List.map_toArray,List.map_cons,List.map_nil]);first|done|rfl|(simp only [List.length_drop,List.length_take];rfl)) ?_;(with_reducible refine (Yc.calls (wrap32 (wrap64 (x11_4 + (wrap64 (Int.tdiv (wrap64 (x12_5 + (wrap64 (t206 * x15_5)))) (wrap64 ((x9_4.length : Int) + 1))))))) false _ A54.out).mono ?_);rintro e w' ⟨rfl,⟨nd,rfl⟩⟩;refine ⟨_,rfl,?_⟩))
                        go_ret3
                        exact ⟨_,by first|rfl|(simp [Zp,Zq] <;> rfl)|(simp [*,Zp,Zq] <;> rfl),by first|exact Kd.R_nil _ _ _ _ _|exact Kd.N_nil _ _ _ _ _|exact Kd.V_nil _ _ _ _ _|exact Kd.Q_nil _ _ _ _ _|exact Kd.S_nil _ _ _ _ _,by repeat (first|(with_reducible first|exact HB.out|apply Ze|apply Zc|apply Zd|refine Zg ?_ GE197.out)|exact HB.out)⟩
                    ·rw [if_neg c44] at H
                     have c44b0 : decide (t206 < t207)=false:=decide_eq_false c44
                     clear c44
                     by_cases c86 : (wrap64 (x15_5 * (wrap64 (a0_0 - t207)))) > 2147483647
                     ·rw [if_pos c86] at H
                      have c86b0 : decide (2147483647 < (wrap64 (x15_5 * (wrap64 (a0_0 - t207)))))=true:=decide_eq_true c86
                      clear c86
                      simp only [Option.some.injEq,Prod.mk.injEq] at H
                      obtain ⟨rfl,rfl,rfl⟩:=H
                      try go_wp2
                      have n0_:=Zf.mk (Kd.Zz HO_9.out)
                      have n1_:=Zf.mk (Zn BK197.out)
                      have n2_:=Zf.mk (Zd HB.out)
                      clear HO_9
                      clear BK197
                      clear HB
                      have HO_9:=n0_
                      have BK197:=n1_
                      have HB:=n2_
                      clear n0_ n1_ n2_
                      have p37 : 0≤(x7_5 : Int):=of_decide_eq_true (by first|(with_reducible assumption)|assumption)
                      have q37 : x7_5 < (a1.size : Int):=of_decide_eq_true (by first|(with_reducible assumption)|assumption)
                      have hx37:=bt_at a1 x7_5
                      replace p37:=eq_true p37
                      replace q37:=eq_true q37
                      refine start_ (n:=7) (S:=fun w' => w'.cell? ⟨gb197,0,none⟩=some (.int .i64 a0_0)∧w'.cell? ⟨gb197,1,none⟩=some (.int .i64 a0_1)∧w'.cell? ⟨gb197,2,none⟩=some (.int .i64 a0_2)∧w'.cell? ⟨gb197,3,none⟩=some (.int .i64 a0_3)∧w'.cell? ⟨gb197,4,none⟩=some (.int .i64 a0_4)∧w'.cell? ⟨gb197,5,none⟩=some (.int .i64 a0_5)∧w'.cell? ⟨gb197,6,none⟩=some (.int .i64 a0_6)∧w'.cell? ⟨gb197,7,none⟩=some (.int .u8 a0_7)) (ds:=[]) #[false,false,false,false,false,false,false] (by kernel_rfl) rfl rfl ⟨(Zb BK197.out 0).trans rfl,(Zb BK197.out 1).trans rfl,(Zb BK197.out 2).trans rfl,(Zb BK197.out 3).trans rfl,(Zb BK197.out 4).trans rfl,(Zb BK197.out 5).trans rfl,(Zb BK197.out 6).trans rfl,(Zb BK197.out 7).trans rfl⟩ (fun hHeld => ?_)
                      generalize wr.drew=w87 at HO_9 BK197 HB hHeld ⊢
                      refine pure_ (i:=0) (N:=some 78) (v:=?_) (a':=?_) #[true,false,false,false,false,false,false] rfl rfl (by kernel_rfl) (fun _ _ _ h => h) (Or.inl ⟨by rfl,?_⟩) ?_ ?_
                      rotate_left
                      ·intro w'
                       go_simp
                       with_reducible rfl
                      rotate_left
                      ·simp only [Act.put,List.setIfInBounds_toArray,List.set_cons_zero,List.set_cons_succ,i64_w,i32_w]
                       rfl
                      refine pure_ (i:=1) (N:=some 79) (v:=?_) (a':=?_) #[true,true,false,false,false,false,false] rfl rfl (by kernel_rfl) (fun _ _ _ h => h) (Or.inl ⟨by rfl,?_⟩) ?_ ?_
                      rotate_left
                      ·intro w'
                       go_simp
                       with_reducible rfl
                      rotate_left
                      ·simp only [Act.put,List.setIfInBounds_toArray,List.set_cons_zero,List.set_cons_succ,i64_w,i32_w]
                       rfl
                      refine pure_ (i:=3) (N:=some 81) (v:=?_) (a':=?_) #[true,true,false,true,false,false,false] rfl rfl (by kernel_rfl) (fun _ _ _ h => h) (Or.inl ⟨by rfl,?_⟩) ?_ ?_
                      rotate_left
                      ·intro w'
                       go_simp
                       with_reducible rfl
                      rotate_left
                      ·simp only [Act.put,List.setIfInBounds_toArray,List.set_cons_zero,List.set_cons_succ,i64_w,i32_w]
                       rfl
                      refine take_ (i:=2) (N:=some 80) (v:=?_) (a':=?_) #[true,true,true,true,false,false,false] rfl rfl (by kernel_rfl) (fun _ _ _ h => h) (Or.inl ⟨by rfl,?_⟩) hHeld ?_ ?_
                      rotate_left
                      ·rintro w' ⟨s0,s1,s2,s3,s4,s5,s6,s7⟩
                       go_simp
                       with_reducible rfl
                      rotate_left
                      ·simp only [Act.put,List.setIfInBounds_toArray,List.set_cons_zero,List.set_cons_succ,i64_w,i32_w]
                       rfl
                      refine take_ (i:=4) (N:=some 82) (v:=?_) (a':=?_) #[true,true,true,true,true,false,false] rfl rfl (by kernel_rfl) (fun _ _ _ h => h) (Or.inl ⟨by rfl,?_⟩) hHeld ?_ ?_
                      rotate_left
                      ·rintro w' ⟨s0,s1,s2,s3,s4,s5,s6,s7⟩
                       go_simp
                       with_reducible rfl
                      rotate_left
                      ·simp only [Act.put,List.setIfInBounds_toArray,List.set_cons_zero,List.set_cons_succ,i64_w,i32_w]
                       rfl
                      refine one_ (i:=5) (N:=some 83) #[true,true,true,true,true,true,false] rfl rfl (by kernel_rfl) (by decide) (fun K hK => ?_)
                      refine goes_ Tryd.func40 (by kernel_rfl) rfl #[.int .u8 (bt a1 x7_5),.int .i64 a0_0] (by rfl) rfl rfl (by (try simp only [List.map_toArray,List.map_cons,List.map_nil]);first|done|rfl|(simp only [List.length_drop,List.length_take];rfl)) ?_
                      with_reducible refine (Yd.calls k5 (bt a1 x7_5) a0_0 t206 _ A38.out).mono ?_
                      rintro e w' ⟨rfl,⟨nd,rfl⟩⟩
                      refine ⟨_,rfl,?_⟩
                      refine hK.out _ _ ⟨(Zb BK197.out 0).trans rfl,(Zb BK197.out 1).trans rfl,(Zb BK197.out 2).trans rfl,(Zb BK197.out 3).trans rfl,(Zb BK197.out 4).trans rfl,(Zb BK197.out 5).trans rfl,(Zb BK197.out 6).trans rfl,(Zb BK197.out 7).trans rfl⟩ (fun hHeld => ?_)
                      clear hK K
                      refine norm_ (a':=?_) ?_ ?_
                      rotate_left
                      ·show Act.put _ (some 83) _=_
                       simp only [Act.put,List.setIfInBounds_toArray,List.set_cons_zero,List.set_cons_succ,i64_w,i32_w]
                       rfl
                      refine pure_ (i:=6) (N:=some 17) (v:=?_) (a':=?_) #[true,true,true,true,true,true,true] rfl rfl (by kernel_rfl) (fun _ _ _ h => h) (Or.inl ⟨by rfl,?_⟩) ?_ ?_
                      rotate_left
                      ·intro w'
                       go_simp
                       with_reducible rfl
                      rotate_left
                      ·simp only [Act.put,List.setIfInBounds_toArray,List.set_cons_zero,List.set_cons_succ,i64_w,i32_w]
                       rfl
                      refine done_ (by kernel_rfl) ?_
                      have hcz88_0 : w87.cell? ⟨gb197,0,none⟩=some (.int .i64 a0_0):=(Zb BK197.out 0).trans rfl
                      have hcz88_1 : w87.cell? ⟨gb197,1,none⟩=some (.int .i64 a0_1):=(Zb BK197.out 1).trans rfl
                      have hcz88_2 : w87.cell? ⟨gb197,2,none⟩=some (.int .i64 a0_2):=(Zb BK197.out 2).trans rfl
                      have hcz88_3 : w87.cell? ⟨gb197,3,none⟩=some (.int .i64 a0_3):=(Zb BK197.out 3).trans rfl
                      have hcz88_4 : w87.cell? ⟨gb197,4,none⟩=some (.int .i64 a0_4):=(Zb BK197.out 4).trans rfl
                      have hcz88_5 : w87.cell? ⟨gb197,5,none⟩=some (.int .i64 a0_5):=(Zb BK197.out 5).trans rfl
                      have hcz88_6 : w87.cell? ⟨gb197,6,none⟩=some (.int .i64 a0_6):=(Zb BK197.out 6).trans rfl
                      have hcz88_7 : w87.cell? ⟨gb197,7,none⟩=some (.int .u8 a0_7):=(Zb BK197.out 7).trans rfl
                      have hfz88_0:=Za BK197.out 0
                      have hfz88_1:=Za BK197.out 1
                      have hfz88_2:=Za BK197.out 2
                      have hfz88_3:=Za BK197.out 3
                      have hfz88_4:=Za BK197.out 4
                      have hfz88_5:=Za BK197.out 5
                      have hfz88_6:=Za BK197.out 6
                      have hfz88_7:=Za BK197.out 7
                      try go_wp2_with (first|((with_reducible refine Z0 (f:=42) rfl ?_);refine goesL_ (some 98) rfl rfl Tryd.func42 (by kernel_rfl) rfl #[.agg #[.int .i64 a0_0,.int .i64 a0_1,.int .i64 a0_2,.int .i64 a0_3,.int .i64 a0_4,.int .i64 a0_5,.int .i64 a0_6,.int .u8 a0_7],.int .i64 x16_5,.int .i64 x13_4] rfl (by (try simp only [List.map_toArray,List.map_cons,List.map_nil]);first|done|rfl|(simp only [List.length_drop,List.length_take];rfl)) ?_;(with_reducible refine (Z6.calls a0_0 a0_1 a0_2 a0_3 a0_4 a0_5 a0_6 a0_7 x16_5 x13_4 t207 _ A43.out).mono ?_);rintro e w89 ⟨rfl,hb⟩;refine ⟨_,rfl,?_⟩;have n0_:=Zf.mk (Kd.Z9 (by (with_reducible repeat (first|apply Kd.Zv|apply Kd.Zu|apply Kd.Zz));exact HO_9.out) hb);have n1_:=Zf.mk (Zw (g:=gb197) (o:=.cells #[.int .i64 a0_0,.int .i64 a0_1,.int .i64 a0_2,.int .i64 a0_3,.int .i64 a0_4,.int .i64 a0_5,.int .i64 a0_6,.int .u8 a0_7] 51 (0,0)) (by (with_reducible repeat (first|refine Zk ?_ _|refine Zn ?_|refine Zl ?_ _));exact BK197.out) hb);have n2_:=Zf.mk (Zm (by repeat (first|(with_reducible first|exact HB.out|apply Ze|apply Zc|apply Zd|refine Zg ?_ GE197.out)|exact HB.out)) hb);clear HO_9;clear BK197;clear HB;have HO_9:=n0_;have BK197:=n1_;have HB:=n2_;clear n0_ n1_ n2_;(try clear hb);(try clear hb2);(try clear hk);(try clear hi);have hcz90_0 : w89.cell? ⟨gb197,0,none⟩=some (.int .i64 a0_0):=(Zb BK197.out 0).trans rfl;have hcz90_1 : w89.cell? ⟨gb197,1,none⟩=some (.int .i64 a0_1):=(Zb BK197.out 1).trans rfl;have hcz90_2 : w89.cell? ⟨gb197,2,none⟩=some (.int .i64 a0_2):=(Zb BK197.out 2).trans rfl;have hcz90_3 : w89.cell? ⟨gb197,3,none⟩=some (.int .i64 a0_3):=(Zb BK197.out 3).trans rfl;have hcz90_4 : w89.cell? ⟨gb197,4,none⟩=some (.int .i64 a0_4):=(Zb BK197.out 4).trans rfl;have hcz90_5 : w89.cell? ⟨gb197,5,none⟩=some (.int .i64 a0_5):=(Zb BK197.out 5).trans rfl;have hcz90_6 : w89.cell? ⟨gb197,6,none⟩=some (.int .i64 a0_6):=(Zb BK197.out 6).trans rfl;have hcz90_7 : w89.cell? ⟨gb197,7,none⟩=some (.int .u8 a0_7):=(Zb BK197.out 7).trans rfl;have hfz90_0:=Za BK197.out 0;have hfz90_1:=Za BK197.out 1;have hfz90_2:=Za BK197.out 2;have hfz90_3:=Za BK197.out 3;have hfz90_4:=Za BK197.out 4;have hfz90_5:=Za BK197.out 5;have hfz90_6:=Za BK197.out 6;have hfz90_7:=Za BK197.out 7))
                      go_ret3
                      exact ⟨_,by first|rfl|(simp [Zp,Zq] <;> rfl)|(simp [*,Zp,Zq] <;> rfl),by first|exact Kd.R_nil _ _ _ _ _|exact Kd.N_nil _ _ _ _ _|exact Kd.V_nil _ _ _ _ _|exact Kd.Q_nil _ _ _ _ _|exact Kd.S_nil _ _ _ _ _,by repeat (first|(with_reducible first|exact HB.out|apply Ze|apply Zc|apply Zd|refine Zg ?_ GE197.out)|exact HB.out)⟩
                     ·rw [if_neg c86] at H
                      have c86b0 : decide (2147483647 < (wrap64 (x15_5 * (wrap64 (a0_0 - t207)))))=false:=decide_eq_false c86
                      clear c86
                      have H':=Zf.mk H
                      clear H
                      try go_wp2
                      have n0_:=Zf.mk (Kd.Zz HO_9.out)
                      have n1_:=Zf.mk (Zn BK197.out)
                      have n2_:=Zf.mk (Zd HB.out)
                      clear HO_9
                      clear BK197
                      clear HB
                      have HO_9:=n0_
                      have BK197:=n1_
                      have HB:=n2_
                      clear n0_ n1_ n2_
                      have p37 : 0≤(x7_5 : Int):=of_decide_eq_true (by first|(with_reducible assumption)|assumption)
                      have q37 : x7_5 < (a1.size : Int):=of_decide_eq_true (by first|(with_reducible assumption)|assumption)
                      have hx37:=bt_at a1 x7_5
                      replace p37:=eq_true p37
                      replace q37:=eq_true q37
                      refine start_ (n:=7) (S:=fun w' => w'.cell? ⟨gb197,0,none⟩=some (.int .i64 a0_0)∧w'.cell? ⟨gb197,1,none⟩=some (.int .i64 a0_1)∧w'.cell? ⟨gb197,2,none⟩=some (.int .i64 a0_2)∧w'.cell? ⟨gb197,3,none⟩=some (.int .i64 a0_3)∧w'.cell? ⟨gb197,4,none⟩=some (.int .i64 a0_4)∧w'.cell? ⟨gb197,5,none⟩=some (.int .i64 a0_5)∧w'.cell? ⟨gb197,6,none⟩=some (.int .i64 a0_6)∧w'.cell? ⟨gb197,7,none⟩=some (.int .u8 a0_7)) (ds:=[]) #[false,false,false,false,false,false,false] (by kernel_rfl) rfl rfl ⟨(Zb BK197.out 0).trans rfl,(Zb BK197.out 1).trans rfl,(Zb BK197.out 2).trans rfl,(Zb BK197.out 3).trans rfl,(Zb BK197.out 4).trans rfl,(Zb BK197.out 5).trans rfl,(Zb BK197.out 6).trans rfl,(Zb BK197.out 7).trans rfl⟩ (fun hHeld => ?_)
                      generalize wr.drew=w91 at HO_9 BK197 HB hHeld ⊢
                      refine pure_ (i:=0) (N:=some 78) (v:=?_) (a':=?_) #[true,false,false,false,false,false,false] rfl rfl (by kernel_rfl) (fun _ _ _ h => h) (Or.inl ⟨by rfl,?_⟩) ?_ ?_
                      rotate_left
                      ·intro w'
                       go_simp
                       with_reducible rfl
                      rotate_left
                      ·simp only [Act.put,List.setIfInBounds_toArray,List.set_cons_zero,List.set_cons_succ,i64_w,i32_w]
                       rfl
                      refine pure_ (i:=1) (N:=some 79) (v:=?_) (a':=?_) #[true,true,false,false,false,false,false] rfl rfl (by kernel_rfl) (fun _ _ _ h => h) (Or.inl ⟨by rfl,?_⟩) ?_ ?_
                      rotate_left
                      ·intro w'
                       go_simp
                       with_reducible rfl
                      rotate_left
                      ·simp only [Act.put,List.setIfInBounds_toArray,List.set_cons_zero,List.set_cons_succ,i64_w,i32_w]
                       rfl
                      refine pure_ (i:=3) (N:=some 81) (v:=?_) (a':=?_) #[true,true,false,true,false,false,false] rfl rfl (by kernel_rfl) (fun _ _ _ h => h) (Or.inl ⟨by rfl,?_⟩) ?_ ?_
                      rotate_left
                      ·intro w'
                       go_simp
                       with_reducible rfl
                      rotate_left
                      ·simp only [Act.put,List.setIfInBounds_toArray,List.set_cons_zero,List.set_cons_succ,i64_w,i32_w]
                       rfl
                      refine take_ (i:=2) (N:=some 80) (v:=?_) (a':=?_) #[true,true,true,true,false,false,false] rfl rfl (by kernel_rfl) (fun _ _ _ h => h) (Or.inl ⟨by rfl,?_⟩) hHeld ?_ ?_
                      rotate_left
                      ·rintro w' ⟨s0,s1,s2,s3,s4,s5,s6,s7⟩
                       go_simp
                       with_reducible rfl
                      rotate_left
                      ·simp only [Act.put,List.setIfInBounds_toArray,List.set_cons_zero,List.set_cons_succ,i64_w,i32_w]
                       rfl
                      refine take_ (i:=4) (N:=some 82) (v:=?_) (a':=?_) #[true,true,true,true,true,false,false] rfl rfl (by kernel_rfl) (fun _ _ _ h => h) (Or.inl ⟨by rfl,?_⟩) hHeld ?_ ?_
                      rotate_left
                      ·rintro w' ⟨s0,s1,s2,s3,s4,s5,s6,s7⟩
                       go_simp
                       with_reducible rfl
                      rotate_left
                      ·simp only [Act.put,List.setIfInBounds_toArray,List.set_cons_zero,List.set_cons_succ,i64_w,i32_w]
                       rfl
                      refine one_ (i:=5) (N:=some 83) #[true,true,true,true,true,true,false] rfl rfl (by kernel_rfl) (by decide) (fun K hK => ?_)
                      refine goes_ Tryd.func40 (by kernel_rfl) rfl #[.int .u8 (bt a1 x7_5),.int .i64 a0_0] (by rfl) rfl rfl (by (try simp only [List.map_toArray,List.map_cons,List.map_nil]);first|done|rfl|(simp only [List.length_drop,List.length_take];rfl)) ?_
                      with_reducible refine (Yd.calls k5 (bt a1 x7_5) a0_0 t206 _ A38.out).mono ?_
                      rintro e w' ⟨rfl,⟨nd,rfl⟩⟩
                      refine ⟨_,rfl,?_⟩
                      refine hK.out _ _ ⟨(Zb BK197.out 0).trans rfl,(Zb BK197.out 1).trans rfl,(Zb BK197.out 2).trans rfl,(Zb BK197.out 3).trans rfl,(Zb BK197.out 4).trans rfl,(Zb BK197.out 5).trans rfl,(Zb BK197.out 6).trans rfl,(Zb BK197.out 7).trans rfl⟩ (fun hHeld => ?_)
                      clear hK K
                      refine norm_ (a':=?_) ?_ ?_
                      rotate_left
                      ·show Act.put _ (some 83) _=_
                       simp only [Act.put,List.setIfInBounds_toArray,List.set_cons_zero,List.set_cons_succ,i64_w,i32_w]
                       rfl
                      refine pure_ (i:=6) (N:=some 17) (v:=?_) (a':=?_) #[true,true,true,true,true,true,true] rfl rfl (by kernel_rfl) (fun _ _ _ h => h) (Or.inl ⟨by rfl,?_⟩) ?_ ?_
                      rotate_left
                      ·intro w'
                       go_simp
                       with_reducible rfl
                      rotate_left
                      ·simp only [Act.put,List.setIfInBounds_toArray,List.set_cons_zero,List.set_cons_succ,i64_w,i32_w]
                       rfl
                      refine done_ (by kernel_rfl) ?_
                      have hcz92_0 : w91.cell? ⟨gb197,0,none⟩=some (.int .i64 a0_0):=(Zb BK197.out 0).trans rfl
                      have hcz92_1 : w91.cell? ⟨gb197,1,none⟩=some (.int .i64 a0_1):=(Zb BK197.out 1).trans rfl
                      have hcz92_2 : w91.cell? ⟨gb197,2,none⟩=some (.int .i64 a0_2):=(Zb BK197.out 2).trans rfl
                      have hcz92_3 : w91.cell? ⟨gb197,3,none⟩=some (.int .i64 a0_3):=(Zb BK197.out 3).trans rfl
                      have hcz92_4 : w91.cell? ⟨gb197,4,none⟩=some (.int .i64 a0_4):=(Zb BK197.out 4).trans rfl
                      have hcz92_5 : w91.cell? ⟨gb197,5,none⟩=some (.int .i64 a0_5):=(Zb BK197.out 5).trans rfl
                      have hcz92_6 : w91.cell? ⟨gb197,6,none⟩=some (.int .i64 a0_6):=(Zb BK197.out 6).trans rfl
                      have hcz92_7 : w91.cell? ⟨gb197,7,none⟩=some (.int .u8 a0_7):=(Zb BK197.out 7).trans rfl
                      have hfz92_0:=Za BK197.out 0
                      have hfz92_1:=Za BK197.out 1
                      have hfz92_2:=Za BK197.out 2
                      have hfz92_3:=Za BK197.out 3
                      have hfz92_4:=Za BK197.out 4
                      have hfz92_5:=Za BK197.out 5
                      have hfz92_6:=Za BK197.out 6
                      have hfz92_7:=Za BK197.out 7
                      try go_wp2_with (first|((with_reducible refine Z0 (f:=42) rfl ?_);refine goesL_ (some 98) rfl rfl Tryd.func42 (by kernel_rfl) rfl #[.agg #[.int .i64 a0_0,.int .i64 a0_1,.int .i64 a0_2,.int .i64 a0_3,.int .i64 a0_4,.int .i64 a0_5,.int .i64 a0_6,.int .u8 a0_7],.int .i64 x16_5,.int .i64 x13_4] rfl (by (try simp only [List.map_toArray,List.map_cons,List.map_nil]);first|done|rfl|(simp only [List.length_drop,List.length_take];rfl)) ?_;(with_reducible refine (Z6.calls a0_0 a0_1 a0_2 a0_3 a0_4 a0_5 a0_6 a0_7 x16_5 x13_4 t207 _ A43.out).mono ?_);rintro e w93 ⟨rfl,hb⟩;refine ⟨_,rfl,?_⟩;have n0_:=Zf.mk (Kd.Z9 (by (with_reducible repeat (first|apply Kd.Zv|apply Kd.Zu|apply Kd.Zz));exact HO_9.out) hb);have n1_:=Zf.mk (Zw (g:=gb197) (o:=.cells #[.int .i64 a0_0,.int .i64 a0_1,.int .i64 a0_2,.int .i64 a0_3,.int .i64 a0_4,.int .i64 a0_5,.int .i64 a0_6,.int .u8 a0_7] 51 (0,0)) (by (with_reducible repeat (first|refine Zk ?_ _|refine Zn ?_|refine Zl ?_ _));exact BK197.out) hb);have n2_:=Zf.mk (Zm (by repeat (first|(with_reducible first|exact HB.out|apply Ze|apply Zc|apply Zd|refine Zg ?_ GE197.out)|exact HB.out)) hb);clear HO_9;clear BK197;clear HB;have HO_9:=n0_;have BK197:=n1_;have HB:=n2_;clear n0_ n1_ n2_;(try clear hb);(try clear hb2);(try clear hk);(try clear hi);have hcz94_0 : w93.cell? ⟨gb197,0,none⟩=some (.int .i64 a0_0):=(Zb BK197.out 0).trans rfl;have hcz94_1 : w93.cell? ⟨gb197,1,none⟩=some (.int .i64 a0_1):=(Zb BK197.out 1).trans rfl;have hcz94_2 : w93.cell? ⟨gb197,2,none⟩=some (.int .i64 a0_2):=(Zb BK197.out 2).trans rfl;have hcz94_3 : w93.cell? ⟨gb197,3,none⟩=some (.int .i64 a0_3):=(Zb BK197.out 3).trans rfl;have hcz94_4 : w93.cell? ⟨gb197,4,none⟩=some (.int .i64 a0_4):=(Zb BK197.out 4).trans rfl;have hcz94_5 : w93.cell? ⟨gb197,5,none⟩=some (.int .i64 a0_5):=(Zb BK197.out 5).trans rfl;have hcz94_6 : w93.cell? ⟨gb197,6,none⟩=some (.int .i64 a0_6):=(Zb BK197.out 6).trans rfl;have hcz94_7 : w93.cell? ⟨gb197,7,none⟩=some (.int .u8 a0_7):=(Zb BK197.out 7).trans rfl;have hfz94_0:=Za BK197.out 0;have hfz94_1:=Za BK197.out 1;have hfz94_2:=Za BK197.out 2;have hfz94_3:=Za BK197.out 3;have hfz94_4:=Za BK197.out 4;have hfz94_5:=Za BK197.out 5;have hfz94_6:=Za BK197.out 6;have hfz94_7:=Za BK197.out 7))
                      go_roundg k5
                      case measure => have:=HK1.out;have:=HK2.out;have:=HJ28.out;have:=HK4.out;have:=HK5.out;omega
                      case rel => exact ⟨(wrap64 (x7_5 + 1)),(wrap64 (x12_5 + (wrap64 (t206 * x15_5)))),(wrap64 (x15_5 * (wrap64 (a0_0 - t207)))),(wrap64 (x16_5 + a0_0)),(by first|rfl|(simp;done)|(simp [*];done)),(by first|rfl|(simp;done)|(simp [*];done)),(by first|rfl|(simp;done)|(simp [*];done)),(by first|rfl|(simp;done)|(simp [*];done)),H',⟨by have:=HK1.out;have:=HK2.out;have:=HJ28.out;have:=HK4.out;have:=HK5.out;omega⟩,⟨by (with_reducible repeat (first|apply Kd.Zv|apply Kd.Zu|apply Kd.Zz));exact HO_9.out⟩,⟨by (with_reducible repeat (first|refine Zk ?_ _|refine Zn ?_|refine Zl ?_ _));exact BK197.out⟩,⟨by repeat (first|(with_reducible first|exact HB.out|apply Ze|apply Zc|apply Zd|refine Zg ?_ GE197.out)|exact HB.out)⟩⟩
                 ·rw [if_neg c36] at H
                  exact absurd H (by simp)
                ·rw [if_neg c35] at H
                 exact absurd H (by simp)
            ·rw [if_neg c32] at H
             have c32b0 : decide (x7_4 < (a1.size : Int))=false:=decide_eq_false c32
             clear c32
             simp only [Option.some.injEq,Prod.mk.injEq] at H
             obtain ⟨rfl,rfl,rfl⟩:=H
             go_wp2
             go_ret3
             exact ⟨_,by first|rfl|(simp [Zp,Zq] <;> rfl)|(simp [*,Zp,Zq] <;> rfl),by (with_reducible repeat (first|apply Kd.Zv|apply Kd.Zu|apply Kd.Zz));exact HO_9.out,by repeat (first|(with_reducible first|exact HB.out|apply Ze|apply Zc|apply Zd|refine Zg ?_ GE197.out)|exact HB.out)⟩
 ·replace c4:=Bool.eq_false_iff.mpr c4
  subst c4
  have H1 : (some (([] : List Int),0,144))=some (r1,r2,r3):=by rw [if_neg (show ¬ (false=true) by decide)] at H;exact H
  clear H
  have H:=H1
  clear H1
  simp only [Option.some.injEq,Prod.mk.injEq] at H
  obtain ⟨rfl,rfl,rfl⟩:=H
  go_enter Tryd.func30,Tryd.ntmps30
  go_wp2_with (first|((with_reducible refine Yh (N:=2) rfl ?_);refine Ym ?hg (N:=2) ?hd (cs:=#[.int .i64 a0_0,.int .i64 a0_1,.int .i64 a0_2,.int .i64 a0_3,.int .i64 a0_4,.int .i64 a0_5,.int .i64 a0_6,.int .u8 a0_7]) (t:=51) ?hr ?_;(case hd => rfl);(case hg => rfl);(case hr => first|(go_simp;done)|(go_simp;rfl));intro gb197 hg w95 hbox hb;have n0_:=Zf.mk (Zm (by repeat (first|(with_reducible first|exact HB.out|apply Ze|apply Zc|apply Zd)|exact HB.out)) hb);have n1_:=Zf.mk (hbox);have n2_:=Zf.mk ((by rw [hg];exact (Zo (by repeat (first|(with_reducible first|exact HB.out|apply Ze|apply Zc|apply Zd)|exact HB.out))) : w.heap.size≤gb197));have n3_:=Zf.mk ((by rw [hg];exact (Zo (by repeat (first|(with_reducible first|exact HB.out|apply Ze|apply Zc|apply Zd)|exact HB.out))) : w.heap.size≤gb197));clear HB;have HB:=n0_;have BK197:=n1_;have GW197:=n2_;have GE197:=n3_;clear n0_ n1_ n2_ n3_;clear hb hbox hg;have hcz96_0 : w95.cell? ⟨gb197,0,none⟩=some (.int .i64 a0_0):=(Zb BK197.out 0).trans rfl;have hcz96_1 : w95.cell? ⟨gb197,1,none⟩=some (.int .i64 a0_1):=(Zb BK197.out 1).trans rfl;have hcz96_2 : w95.cell? ⟨gb197,2,none⟩=some (.int .i64 a0_2):=(Zb BK197.out 2).trans rfl;have hcz96_3 : w95.cell? ⟨gb197,3,none⟩=some (.int .i64 a0_3):=(Zb BK197.out 3).trans rfl;have hcz96_4 : w95.cell? ⟨gb197,4,none⟩=some (.int .i64 a0_4):=(Zb BK197.out 4).trans rfl;have hcz96_5 : w95.cell? ⟨gb197,5,none⟩=some (.int .i64 a0_5):=(Zb BK197.out 5).trans rfl;have hcz96_6 : w95.cell? ⟨gb197,6,none⟩=some (.int .i64 a0_6):=(Zb BK197.out 6).trans rfl;have hcz96_7 : w95.cell? ⟨gb197,7,none⟩=some (.int .u8 a0_7):=(Zb BK197.out 7).trans rfl;have hfz96_0:=Za BK197.out 0;have hfz96_1:=Za BK197.out 1;have hfz96_2:=Za BK197.out 2;have hfz96_3:=Za BK197.out 3;have hfz96_4:=Za BK197.out 4;have hfz96_5:=Za BK197.out 5;have hfz96_6:=Za BK197.out 6;have hfz96_7:=Za BK197.out 7)|((with_reducible refine Z0 (f:=25) rfl ?_);refine goesL_ (some 22) rfl rfl Tryd.func25 (by kernel_rfl) rfl #[.agg #[.int .i64 a0_0,.int .i64 a0_1,.int .i64 a0_2,.int .i64 a0_3,.int .i64 a0_4,.int .i64 a0_5,.int .i64 a0_6,.int .u8 a0_7]] rfl (by (try simp only [List.map_toArray,List.map_cons,List.map_nil]);first|done|rfl|(simp only [List.length_drop,List.length_take];rfl)) ?_;(with_reducible refine (Zx.calls k a0_0 a0_1 a0_2 a0_3 a0_4 a0_5 a0_6 a0_7 false _ A3.out).mono ?_);rintro e w97 ⟨rfl,hb⟩;refine ⟨_,rfl,?_⟩;have n0_:=Zf.mk (Zw (g:=gb197) (o:=.cells #[.int .i64 a0_0,.int .i64 a0_1,.int .i64 a0_2,.int .i64 a0_3,.int .i64 a0_4,.int .i64 a0_5,.int .i64 a0_6,.int .u8 a0_7] 51 (0,0)) (by (with_reducible repeat (first|refine Zk ?_ _|refine Zn ?_|refine Zl ?_ _));exact BK197.out) hb);have n1_:=Zf.mk (Zm (by repeat (first|(with_reducible first|exact HB.out|apply Ze|apply Zc|apply Zd|refine Zg ?_ GE197.out)|exact HB.out)) hb);clear BK197;clear HB;have BK197:=n0_;have HB:=n1_;clear n0_ n1_;(try clear hb);(try clear hb2);(try clear hk);(try clear hi)))
  go_ret3
  exact ⟨_,by first|rfl|(simp [Zp,Zq] <;> rfl)|(simp [*,Zp,Zq] <;> rfl),by first|exact Kd.R_nil _ _ _ _ _|exact Kd.N_nil _ _ _ _ _|exact Kd.V_nil _ _ _ _ _|exact Kd.Q_nil _ _ _ _ _|exact Kd.S_nil _ _ _ _ _,by repeat (first|(with_reducible first|exact HB.out|apply Ze|apply Zc|apply Zd|refine Zg ?_ GE197.out)|exact HB.out)⟩
end Go.Proofs.YtmjlkifmbhaiiaaDoorQ.Pw
end
