/- What these functions of the program compute, and that they compute it: printed by wip/tools/orac.py over the kit's print.py; merged. -/
import Derived.Test.YtmjlkifmbhaiiaaDoorQPwx0
import Derived.Test.YtmjlkifmbhaiiaaDoorQPwx5
import Derived.Test.YtmjlkifmbhaiiaaDoorQPwx6
import Derived.Test.YtmjlkifmbhaiiaaDoorQPwx7
import Derived.Test.YtmjlkifmbhaiiaaDoorQPwx8
section
namespace Go.Proofs.YtmjlkifmbhaiiaaDoorQ.Pw
open Go.RowKit Go.Proofs.YtmjlkifmbhaiiaaDoorW.PrintWords Go.Proofs.YtmjlkifmbhaiiaaDoorW.PrintLast Go.Proofs.YtmjlkifmbhaiiaaDoorW.PrintMore
attribute [local go_sem] Go.Proofs.YtmjlkifmbhaiiaaDoor.Ye
attribute [local go_sem] max2_int min2_int max_two min_two max_three min_three max_four min_four   -- for this text's walks alone
set_option linter.unusedVariables false
set_option linter.unusedSimpArgs false
/-! ### Zh: function 28 -/
mutual
def Zh.l0 : Nat→List Int→List Int→Int→Int→Int→Int→Int→Int→Int→Int→Int→Int→Option (ByteArray × Int × Int)
 | 0,_,_,_,_,_,_,_,_,_,_,_,_ => none
 | k + 1,x1,x31,x32,x33,x217000,x217001,x217002,x217003,x217004,x217005,x217006,x217007 => if x33 < x32 then (if 0≤x33 then (if x33 < (x31.length : Int) then ((Yc.f (rd x31 x33)).bind fun t219 => (if t219=true then (Zh.l0 k x1 x31 x32 (wrap64 (x33 + 1)) x217000 x217001 x217002 x217003 x217004 x217005 x217006 x217007) else (some ((⟨#[]⟩ : ByteArray),x33,20)))) else (none)) else (none)) else (Zh.l1 k x1 (([] : List Int)) x1 (x1.length : Int) 0 x217000 x217001 x217002 x217003 x217004 x217005 x217006 x217007)
def Zh.l1 : Nat→List Int→List Int→List Int→Int→Int→Int→Int→Int→Int→Int→Int→Int→Int→Option (ByteArray × Int × Int)
 | 0,_,_,_,_,_,_,_,_,_,_,_,_,_ => none
 | k + 1,x1,x9,x44,x45,x46,x217000,x217001,x217002,x217003,x217004,x217005,x217006,x217007 => if x46 < x45 then (if 0≤x46 then (if x46 < (x44.length : Int) then ((Yf.f x217000 x217001 x217002 x217003 x217004 x217005 x217006 x217007 (rd x44 x46)).bind fun t224 => (if t224=true then (if x9.length < 140737488355328 then (Zh.l1 k x1 (x9++[(rd x44 x46) % 256]) x44 x45 (wrap64 (x46 + 1)) x217000 x217001 x217002 x217003 x217004 x217005 x217006 x217007) else (none)) else (if (wrap64 (rd x44 x46)) < x217006 then (some ((⟨#[]⟩ : ByteArray),x46,141)) else (Zh.l1 k x1 x9 x44 x45 (wrap64 (x46 + 1)) x217000 x217001 x217002 x217003 x217004 x217005 x217006 x217007)))) else (none)) else (none)) else (if (x9.length : Int) > 0 then (if x9.length < 140737488355328 then (Zh.j2 k x1 (x9++[x217007]) (x9.length : Int) x217000 x217001 x217002 x217003 x217004 x217005 x217006 x217007) else (none)) else (Zh.j2 k x1 x9 (x9.length : Int) x217000 x217001 x217002 x217003 x217004 x217005 x217006 x217007))
def Zh.j2 : Nat→List Int→List Int→Int→Int→Int→Int→Int→Int→Int→Int→Int→Option (ByteArray × Int × Int)
 | 0,_,_,_,_,_,_,_,_,_,_,_ => none
 | k + 1,x1,x9,x12,x217000,x217001,x217002,x217003,x217004,x217005,x217006,x217007 => Zh.l2 k x1 x9 x12 x217006 0 x217005 x12 x217000 x217001 x217002 x217003 x217004 x217005 x217006 x217007
def Zh.l2 : Nat→List Int→List Int→Int→Int→Int→Int→Int→Int→Int→Int→Int→Int→Int→Int→Int→Option (ByteArray × Int × Int)
 | 0,_,_,_,_,_,_,_,_,_,_,_,_,_,_,_ => none
 | k + 1,x1,x9,x12,x13,x14,x15,x16,x217000,x217001,x217002,x217003,x217004,x217005,x217006,x217007 => if x16 < (x1.length : Int) then (Zh.l3 k x1 x9 x12 x13 x14 x15 x16 1114112 x1 (x1.length : Int) 0 x217000 x217001 x217002 x217003 x217004 x217005 x217006 x217007) else ((Zi.f k x217000 x217001 x217002 x217003 x217004 x217005 x217006 x217007 (strOfNums x9)).bind fun bt231 => (if bt231.2.2=0 then (some (strOfNums x9,0,0)) else (some ((⟨#[]⟩ : ByteArray),0,142))))
def Zh.l3 : Nat→List Int→List Int→Int→Int→Int→Int→Int→Int→List Int→Int→Int→Int→Int→Int→Int→Int→Int→Int→Int→Option (ByteArray × Int × Int)
 | 0,_,_,_,_,_,_,_,_,_,_,_,_,_,_,_,_,_,_,_ => none
 | k + 1,x1,x9,x12,x13,x14,x15,x16,x17,x84,x85,x86,x217000,x217001,x217002,x217003,x217004,x217005,x217006,x217007 => if x86 < x85 then (if 0≤x86 then (if x86 < (x84.length : Int) then (if (wrap64 (rd x84 x86)) ≥ x13 then (if (wrap64 (rd x84 x86)) < x17 then (Zh.l3 k x1 x9 x12 x13 x14 x15 x16 (wrap64 (rd x84 x86)) x84 x85 (wrap64 (x86 + 1)) x217000 x217001 x217002 x217003 x217004 x217005 x217006 x217007) else (Zh.l3 k x1 x9 x12 x13 x14 x15 x16 x17 x84 x85 (wrap64 (x86 + 1)) x217000 x217001 x217002 x217003 x217004 x217005 x217006 x217007)) else (Zh.l3 k x1 x9 x12 x13 x14 x15 x16 x17 x84 x85 (wrap64 (x86 + 1)) x217000 x217001 x217002 x217003 x217004 x217005 x217006 x217007)) else (none)) else (none)) else (if (wrap64 (x14 + (wrap64 ((wrap64 (x17 - x13)) * (wrap64 (x16 + 1)))))) > 2147483647 then (some ((⟨#[]⟩ : ByteArray),0,142)) else (Zh.l4 k x1 x9 x12 x17 (wrap64 (x14 + (wrap64 ((wrap64 (x17 - x13)) * (wrap64 (x16 + 1)))))) x15 x16 x1 (x1.length : Int) 0 x217000 x217001 x217002 x217003 x217004 x217005 x217006 x217007))
def Zh.l4 : Nat→List Int→List Int→Int→Int→Int→Int→Int→List Int→Int→Int→Int→Int→Int→Int→Int→Int→Int→Int→Option (ByteArray × Int × Int)
 | 0,_,_,_,_,_,_,_,_,_,_,_,_,_,_,_,_,_,_ => none
 | k + 1,x1,x9,x12,x13,x14,x15,x16,x114,x115,x116,x217000,x217001,x217002,x217003,x217004,x217005,x217006,x217007 => if x116 < x115 then (if 0≤x116 then (if x116 < (x114.length : Int) then (if (wrap64 (rd x114 x116)) < x13 then (if (wrap64 (x14 + 1)) > 2147483647 then (some ((⟨#[]⟩ : ByteArray),0,142)) else (Zh.j6 k x1 x9 x12 x13 (wrap64 (x14 + 1)) x15 x16 (rd x114 x116) x114 x115 x116 x217000 x217001 x217002 x217003 x217004 x217005 x217006 x217007)) else (Zh.j6 k x1 x9 x12 x13 x14 x15 x16 (rd x114 x116) x114 x115 x116 x217000 x217001 x217002 x217003 x217004 x217005 x217006 x217007)) else (none)) else (none)) else (Zh.l2 k x1 x9 x12 (wrap64 (x13 + 1)) (wrap64 (x14 + 1)) x15 x16 x217000 x217001 x217002 x217003 x217004 x217005 x217006 x217007)
def Zh.j6 : Nat→List Int→List Int→Int→Int→Int→Int→Int→Int→List Int→Int→Int→Int→Int→Int→Int→Int→Int→Int→Int→Option (ByteArray × Int × Int)
 | 0,_,_,_,_,_,_,_,_,_,_,_,_,_,_,_,_,_,_,_ => none
 | k + 1,x1,x9,x12,x13,x14,x15,x16,x21,x114,x115,x116,x217000,x217001,x217002,x217003,x217004,x217005,x217006,x217007 => if (wrap64 (x21))=x13 then (Zh.l5 k x1 x9 x12 x13 x14 x15 x16 x14 x217000 x114 x115 x116 x217000 x217001 x217002 x217003 x217004 x217005 x217006 x217007) else (Zh.l4 k x1 x9 x12 x13 x14 x15 x16 x114 x115 (wrap64 (x116 + 1)) x217000 x217001 x217002 x217003 x217004 x217005 x217006 x217007)
def Zh.l5 : Nat→List Int→List Int→Int→Int→Int→Int→Int→Int→Int→List Int→Int→Int→Int→Int→Int→Int→Int→Int→Int→Int→Option (ByteArray × Int × Int)
 | 0,_,_,_,_,_,_,_,_,_,_,_,_,_,_,_,_,_,_,_,_ => none
 | k + 1,x1,x9,x12,x13,x14,x15,x16,x22,x23,x114,x115,x116,x217000,x217001,x217002,x217003,x217004,x217005,x217006,x217007 => (Z6.f x217000 x217001 x217002 x217003 x217004 x217005 x217006 x217007 x23 x15).bind fun t238 => (if x22 < t238 then ((Yk.f x22).bind fun t239 => (if x9.length < 140737488355328 then ((Zy.f k x217000 x217001 x217002 x217003 x217004 x217005 x217006 x217007 x14 (wrap64 (x16 + 1)) (x16 == x12)).bind fun t243 => (Zh.l4 k x1 (x9++[t239]) x12 x13 0 t243 (wrap64 (x16 + 1)) x114 x115 (wrap64 (x116 + 1)) x217000 x217001 x217002 x217003 x217004 x217005 x217006 x217007)) else (none))) else (if (wrap64 (x217000 - t238))=0 then (none) else ((Yk.f (wrap64 (t238 + (Int.tmod (wrap64 (x22 - t238)) (wrap64 (x217000 - t238)))))).bind fun t244 => (if x9.length < 140737488355328 then (Zh.l5 k x1 (x9++[t244]) x12 x13 x14 x15 x16 (wrap64 (Int.tdiv (wrap64 (x22 - t238)) (wrap64 (x217000 - t238)))) (wrap64 (x23 + x217000)) x114 x115 x116 x217000 x217001 x217002 x217003 x217004 x217005 x217006 x217007) else (none)))))
end
def Zh.f (k : Nat) (a0_0 : Int) (a0_1 : Int) (a0_2 : Int) (a0_3 : Int) (a0_4 : Int) (a0_5 : Int) (a0_6 : Int) (a0_7 : Int) (l1 : List Int) : Option (ByteArray × Int × Int):=(Zx.f k a0_0 a0_1 a0_2 a0_3 a0_4 a0_5 a0_6 a0_7).bind fun t217 => (if t217=true then (Zh.l0 k l1 l1 (l1.length : Int) 0 a0_0 a0_1 a0_2 a0_3 a0_4 a0_5 a0_6 a0_7) else (some ((⟨#[]⟩ : ByteArray),0,144)))
set_option maxHeartbeats 8000000 in
set_option maxRecDepth 100000 in
theorem Zh.calls (k : Nat) (a0_0 : Int) (a0_1 : Int) (a0_2 : Int) (a0_3 : Int) (a0_4 : Int) (a0_5 : Int) (a0_6 : Int) (a0_7 : Int) (A1 : Option Addr) (c1 : Nat) (l1 : List Int) (r1 : ByteArray) (r2 : Int) (r3 : Int) (w : World) (hr1 : Kd.C (Kd.int .i32) w A1 l1.length l1) (hc1 : l1.length≤c1) (h : Zh.f k a0_0 a0_1 a0_2 a0_3 a0_4 a0_5 a0_6 a0_7 l1=some (r1,r2,r3)) :
  Calls Tryd.prog 28 #[.agg #[.int .i64 a0_0,.int .i64 a0_1,.int .i64 a0_2,.int .i64 a0_3,.int .i64 a0_4,.int .i64 a0_5,.int .i64 a0_6,.int .u8 a0_7],.slice A1 l1.length c1] w fun e w' => e=.returned (.tuple #[.string r1,.int .i64 r2,.int .i64 r3])∧Below w.heap.size w w':=by
 have hu51:=Tryd.underlying51
 have HR1:=Zf.mk hr1
 have HC1:=Zf.mk hc1
 clear hr1 hc1
 have HB:=Zf.mk (Below.refl w.heap.size w)
 have H : ((Zx.f k a0_0 a0_1 a0_2 a0_3 a0_4 a0_5 a0_6 a0_7).bind fun t217 => (if t217=true then (Zh.l0 k l1 l1 (l1.length : Int) 0 a0_0 a0_1 a0_2 a0_3 a0_4 a0_5 a0_6 a0_7) else (some ((⟨#[]⟩ : ByteArray),0,144))))=some (r1,r2,r3):=h
 clear h
 replace H:=Option.bind_eq_some_iff.mp H
 obtain ⟨t217,A30,H⟩:=H
 replace H : (if t217=true then (Zh.l0 k l1 l1 (l1.length : Int) 0 a0_0 a0_1 a0_2 a0_3 a0_4 a0_5 a0_6 a0_7) else (some ((⟨#[]⟩ : ByteArray),0,144)))=some (r1,r2,r3):=H
 have A3:=Zf.mk A30
 clear A30
 by_cases c4 : t217=true
 ·subst c4
  have H1 : (Zh.l0 k l1 l1 (l1.length : Int) 0 a0_0 a0_1 a0_2 a0_3 a0_4 a0_5 a0_6 a0_7)=some (r1,r2,r3):=by rw [if_pos rfl] at H;exact H
  clear H
  have H:=H1
  clear H1
  have H':=Zf.mk H
  clear H
  go_enter Tryd.func28,Tryd.ntmps28
  go_wp2_with (first|((with_reducible refine Yh (N:=2) rfl ?_);refine Ym ?hg (N:=2) ?hd (cs:=#[.int .i64 a0_0,.int .i64 a0_1,.int .i64 a0_2,.int .i64 a0_3,.int .i64 a0_4,.int .i64 a0_5,.int .i64 a0_6,.int .u8 a0_7]) (t:=51) ?hr ?_;(case hd => rfl);(case hg => rfl);(case hr => first|(go_simp;done)|(go_simp;rfl));intro gb216 hg w5 hbox hb;have n0_:=Zf.mk (Zm (by repeat (first|(with_reducible first|exact HB.out|apply Ze|apply Zc|apply Zd)|exact HB.out)) hb);have n1_:=Zf.mk (hbox);have n2_:=Zf.mk ((by rw [hg];exact (Zo (by repeat (first|(with_reducible first|exact HB.out|apply Ze|apply Zc|apply Zd)|exact HB.out))) : w.heap.size≤gb216));have n3_:=Zf.mk ((by rw [hg];exact (Zo (by repeat (first|(with_reducible first|exact HB.out|apply Ze|apply Zc|apply Zd)|exact HB.out))) : w.heap.size≤gb216));clear HB;have HB:=n0_;have BK216:=n1_;have GW216:=n2_;have GE216:=n3_;clear n0_ n1_ n2_ n3_;clear hb hbox hg;have hcz6_0 : w5.cell? ⟨gb216,0,none⟩=some (.int .i64 a0_0):=(Zb BK216.out 0).trans rfl;have hcz6_1 : w5.cell? ⟨gb216,1,none⟩=some (.int .i64 a0_1):=(Zb BK216.out 1).trans rfl;have hcz6_2 : w5.cell? ⟨gb216,2,none⟩=some (.int .i64 a0_2):=(Zb BK216.out 2).trans rfl;have hcz6_3 : w5.cell? ⟨gb216,3,none⟩=some (.int .i64 a0_3):=(Zb BK216.out 3).trans rfl;have hcz6_4 : w5.cell? ⟨gb216,4,none⟩=some (.int .i64 a0_4):=(Zb BK216.out 4).trans rfl;have hcz6_5 : w5.cell? ⟨gb216,5,none⟩=some (.int .i64 a0_5):=(Zb BK216.out 5).trans rfl;have hcz6_6 : w5.cell? ⟨gb216,6,none⟩=some (.int .i64 a0_6):=(Zb BK216.out 6).trans rfl;have hcz6_7 : w5.cell? ⟨gb216,7,none⟩=some (.int .u8 a0_7):=(Zb BK216.out 7).trans rfl;have hfz6_0:=Za BK216.out 0;have hfz6_1:=Za BK216.out 1;have hfz6_2:=Za BK216.out 2;have hfz6_3:=Za BK216.out 3;have hfz6_4:=Za BK216.out 4;have hfz6_5:=Za BK216.out 5;have hfz6_6:=Za BK216.out 6;have hfz6_7:=Za BK216.out 7)|(go_at_call 25;(with_reducible refine (Zx.calls k a0_0 a0_1 a0_2 a0_3 a0_4 a0_5 a0_6 a0_7 true _ A3.out).mono ?_);rintro e w7 ⟨rfl,hb⟩;have n0_:=Zf.mk (Zw (g:=gb216) (o:=.cells #[.int .i64 a0_0,.int .i64 a0_1,.int .i64 a0_2,.int .i64 a0_3,.int .i64 a0_4,.int .i64 a0_5,.int .i64 a0_6,.int .u8 a0_7] 51 (0,0)) (by (with_reducible repeat (first|refine Zk ?_ _|refine Zn ?_|refine Zl ?_ _));exact BK216.out) hb);have n1_:=Zf.mk (Zm (by repeat (first|(with_reducible first|exact HB.out|apply Ze|apply Zc|apply Zd|refine Zg ?_ GE216.out)|exact HB.out)) hb);clear BK216;clear HB;have BK216:=n0_;have HB:=n1_;clear n0_ n1_;(try clear hb);(try clear hb2);(try clear hk);(try clear hi)))
  repeat (go_quiet (first|((with_reducible refine Yh (N:=2) rfl ?_);refine Ym ?hg (N:=2) ?hd (cs:=#[.int .i64 a0_0,.int .i64 a0_1,.int .i64 a0_2,.int .i64 a0_3,.int .i64 a0_4,.int .i64 a0_5,.int .i64 a0_6,.int .u8 a0_7]) (t:=51) ?hr ?_;(case hd => rfl);(case hg => rfl);(case hr => first|(go_simp;done)|(go_simp;rfl));intro gb216 hg w5 hbox hb;have n0_:=Zf.mk (Zm (by repeat (first|(with_reducible first|exact HB.out|apply Ze|apply Zc|apply Zd)|exact HB.out)) hb);have n1_:=Zf.mk (hbox);have n2_:=Zf.mk ((by rw [hg];exact (Zo (by repeat (first|(with_reducible first|exact HB.out|apply Ze|apply Zc|apply Zd)|exact HB.out))) : w.heap.size≤gb216));have n3_:=Zf.mk ((by rw [hg];exact (Zo (by repeat (first|(with_reducible first|exact HB.out|apply Ze|apply Zc|apply Zd)|exact HB.out))) : w.heap.size≤gb216));clear HB;have HB:=n0_;have BK216:=n1_;have GW216:=n2_;have GE216:=n3_;clear n0_ n1_ n2_ n3_;clear hb hbox hg;have hcz6_0 : w5.cell? ⟨gb216,0,none⟩=some (.int .i64 a0_0):=(Zb BK216.out 0).trans rfl;have hcz6_1 : w5.cell? ⟨gb216,1,none⟩=some (.int .i64 a0_1):=(Zb BK216.out 1).trans rfl;have hcz6_2 : w5.cell? ⟨gb216,2,none⟩=some (.int .i64 a0_2):=(Zb BK216.out 2).trans rfl;have hcz6_3 : w5.cell? ⟨gb216,3,none⟩=some (.int .i64 a0_3):=(Zb BK216.out 3).trans rfl;have hcz6_4 : w5.cell? ⟨gb216,4,none⟩=some (.int .i64 a0_4):=(Zb BK216.out 4).trans rfl;have hcz6_5 : w5.cell? ⟨gb216,5,none⟩=some (.int .i64 a0_5):=(Zb BK216.out 5).trans rfl;have hcz6_6 : w5.cell? ⟨gb216,6,none⟩=some (.int .i64 a0_6):=(Zb BK216.out 6).trans rfl;have hcz6_7 : w5.cell? ⟨gb216,7,none⟩=some (.int .u8 a0_7):=(Zb BK216.out 7).trans rfl;have hfz6_0:=Za BK216.out 0;have hfz6_1:=Za BK216.out 1;have hfz6_2:=Za BK216.out 2;have hfz6_3:=Za BK216.out 3;have hfz6_4:=Za BK216.out 4;have hfz6_5:=Za BK216.out 5;have hfz6_6:=Za BK216.out 6;have hfz6_7:=Za BK216.out 7)|(go_at_call 25;(with_reducible refine (Zx.calls k a0_0 a0_1 a0_2 a0_3 a0_4 a0_5 a0_6 a0_7 true _ A3.out).mono ?_);rintro e w7 ⟨rfl,hb⟩;have n0_:=Zf.mk (Zw (g:=gb216) (o:=.cells #[.int .i64 a0_0,.int .i64 a0_1,.int .i64 a0_2,.int .i64 a0_3,.int .i64 a0_4,.int .i64 a0_5,.int .i64 a0_6,.int .u8 a0_7] 51 (0,0)) (by (with_reducible repeat (first|refine Zk ?_ _|refine Zn ?_|refine Zl ?_ _));exact BK216.out) hb);have n1_:=Zf.mk (Zm (by repeat (first|(with_reducible first|exact HB.out|apply Ze|apply Zc|apply Zd|refine Zg ?_ GE216.out)|exact HB.out)) hb);clear BK216;clear HB;have BK216:=n0_;have HB:=n1_;clear n0_ n1_;(try clear hb);(try clear hb2);(try clear hk);(try clear hi)));try go_wp2_with (first|((with_reducible refine Yh (N:=2) rfl ?_);refine Ym ?hg (N:=2) ?hd (cs:=#[.int .i64 a0_0,.int .i64 a0_1,.int .i64 a0_2,.int .i64 a0_3,.int .i64 a0_4,.int .i64 a0_5,.int .i64 a0_6,.int .u8 a0_7]) (t:=51) ?hr ?_;(case hd => rfl);(case hg => rfl);(case hr => first|(go_simp;done)|(go_simp;rfl));intro gb216 hg w5 hbox hb;have n0_:=Zf.mk (Zm (by repeat (first|(with_reducible first|exact HB.out|apply Ze|apply Zc|apply Zd)|exact HB.out)) hb);have n1_:=Zf.mk (hbox);have n2_:=Zf.mk ((by rw [hg];exact (Zo (by repeat (first|(with_reducible first|exact HB.out|apply Ze|apply Zc|apply Zd)|exact HB.out))) : w.heap.size≤gb216));have n3_:=Zf.mk ((by rw [hg];exact (Zo (by repeat (first|(with_reducible first|exact HB.out|apply Ze|apply Zc|apply Zd)|exact HB.out))) : w.heap.size≤gb216));clear HB;have HB:=n0_;have BK216:=n1_;have GW216:=n2_;have GE216:=n3_;clear n0_ n1_ n2_ n3_;clear hb hbox hg;have hcz6_0 : w5.cell? ⟨gb216,0,none⟩=some (.int .i64 a0_0):=(Zb BK216.out 0).trans rfl;have hcz6_1 : w5.cell? ⟨gb216,1,none⟩=some (.int .i64 a0_1):=(Zb BK216.out 1).trans rfl;have hcz6_2 : w5.cell? ⟨gb216,2,none⟩=some (.int .i64 a0_2):=(Zb BK216.out 2).trans rfl;have hcz6_3 : w5.cell? ⟨gb216,3,none⟩=some (.int .i64 a0_3):=(Zb BK216.out 3).trans rfl;have hcz6_4 : w5.cell? ⟨gb216,4,none⟩=some (.int .i64 a0_4):=(Zb BK216.out 4).trans rfl;have hcz6_5 : w5.cell? ⟨gb216,5,none⟩=some (.int .i64 a0_5):=(Zb BK216.out 5).trans rfl;have hcz6_6 : w5.cell? ⟨gb216,6,none⟩=some (.int .i64 a0_6):=(Zb BK216.out 6).trans rfl;have hcz6_7 : w5.cell? ⟨gb216,7,none⟩=some (.int .u8 a0_7):=(Zb BK216.out 7).trans rfl;have hfz6_0:=Za BK216.out 0;have hfz6_1:=Za BK216.out 1;have hfz6_2:=Za BK216.out 2;have hfz6_3:=Za BK216.out 3;have hfz6_4:=Za BK216.out 4;have hfz6_5:=Za BK216.out 5;have hfz6_6:=Za BK216.out 6;have hfz6_7:=Za BK216.out 7)|(go_at_call 25;(with_reducible refine (Zx.calls k a0_0 a0_1 a0_2 a0_3 a0_4 a0_5 a0_6 a0_7 true _ A3.out).mono ?_);rintro e w7 ⟨rfl,hb⟩;have n0_:=Zf.mk (Zw (g:=gb216) (o:=.cells #[.int .i64 a0_0,.int .i64 a0_1,.int .i64 a0_2,.int .i64 a0_3,.int .i64 a0_4,.int .i64 a0_5,.int .i64 a0_6,.int .u8 a0_7] 51 (0,0)) (by (with_reducible repeat (first|refine Zk ?_ _|refine Zn ?_|refine Zl ?_ _));exact BK216.out) hb);have n1_:=Zf.mk (Zm (by repeat (first|(with_reducible first|exact HB.out|apply Ze|apply Zc|apply Zd|refine Zg ?_ GE216.out)|exact HB.out)) hb);clear BK216;clear HB;have BK216:=n0_;have HB:=n1_;clear n0_ n1_;(try clear hb);(try clear hb2);(try clear hk);(try clear hi))))
  go_loopg [33] k (fun kq v33 w' => ∃ (x33_1 : Int),v33=.int .i64 x33_1∧Zf (Zh.l0 kq l1 l1 (l1.length : Int) x33_1 a0_0 a0_1 a0_2 a0_3 a0_4 a0_5 a0_6 a0_7=some (r1,r2,r3))∧Zf (kq≤k)∧Zf (w'.heap[gb216]?=some (.cells #[.int .i64 a0_0,.int .i64 a0_1,.int .i64 a0_2,.int .i64 a0_3,.int .i64 a0_4,.int .i64 a0_5,.int .i64 a0_6,.int .u8 a0_7] 51 (0,0)))∧Zf (Below w.heap.size w w'))
  case atStart => exact ⟨(0),(by first|rfl|(simp;done)|(simp [*];done)),H',⟨Nat.le_refl _⟩,⟨by (with_reducible repeat (first|refine Zk ?_ _|refine Zn ?_|refine Zl ?_ _));exact BK216.out⟩,⟨by repeat (first|(with_reducible first|exact HB.out|apply Ze|apply Zc|apply Zd|refine Zg ?_ GE216.out)|exact HB.out)⟩⟩
  case round =>
   clear H'
   try clear c1
   try clear c2
   try clear p2
   try clear c4
   try clear hcz6_0
   try clear hcz6_1
   try clear hcz6_2
   try clear hcz6_3
   try clear hcz6_4
   try clear hcz6_5
   try clear hcz6_6
   try clear hcz6_7
   try clear hfz6_0
   try clear hfz6_1
   try clear hfz6_2
   try clear hfz6_3
   try clear hfz6_4
   try clear hfz6_5
   try clear hfz6_6
   try clear hfz6_7
   obtain ⟨x33_1,rfl,HA,HK1,BK216,HB⟩:=hrel
   cases gk with
   | zero => exact absurd HA.out (by simp [Zh.l0])
   | succ k1 =>
    have H:=HA.out
    clear HA
    simp only [Zh.l0] at H
    by_cases c8 : x33_1 < (l1.length : Int)
    ·rw [if_pos c8] at H
     have c8b0 : decide (x33_1 < (l1.length : Int))=true:=decide_eq_true c8
     clear c8
     by_cases c9 : 0≤x33_1
     ·rw [if_pos c9] at H
      have c9b0 : decide (0≤x33_1)=true:=decide_eq_true c9
      clear c9
      by_cases c10 : x33_1 < (l1.length : Int)
      ·rw [if_pos c10] at H
       have c10b0 : decide (x33_1 < (l1.length : Int))=true:=decide_eq_true c10
       clear c10
       replace H:=Option.bind_eq_some_iff.mp H
       obtain ⟨t219,A110,H⟩:=H
       replace H : (if t219=true then (Zh.l0 k1 l1 l1 (l1.length : Int) (wrap64 (x33_1 + 1)) a0_0 a0_1 a0_2 a0_3 a0_4 a0_5 a0_6 a0_7) else (some ((⟨#[]⟩ : ByteArray),x33_1,20)))=some (r1,r2,r3):=H
       have A11:=Zf.mk A110
       clear A110
       by_cases c12 : t219=true
       ·subst c12
        have H1 : (Zh.l0 k1 l1 l1 (l1.length : Int) (wrap64 (x33_1 + 1)) a0_0 a0_1 a0_2 a0_3 a0_4 a0_5 a0_6 a0_7)=some (r1,r2,r3):=by rw [if_pos rfl] at H;exact H
        clear H
        have H:=H1
        clear H1
        have H':=Zf.mk H
        clear H
        have p218 : 0≤(x33_1 : Int):=of_decide_eq_true (by first|(with_reducible assumption)|assumption)
        have q218 : x33_1 < (l1.length : Int):=of_decide_eq_true (by first|(with_reducible assumption)|assumption)
        obtain ⟨ad218,e218,hx218_0⟩:=Kd.at_int HR1.out x33_1 p218 q218
        cases e218
        replace hx218_0:=(HB.out.cell (World.block_lt_of_cell? w _ hx218_0)).trans hx218_0
        replace p218:=eq_true p218
        replace q218:=eq_true q218
        go_wp2_with (first|(go_at_call 33;(with_reducible refine (Yc.calls (rd l1 x33_1) true _ A11.out).mono ?_);rintro e w' ⟨rfl,⟨nd,rfl⟩⟩;(try first|exact ⟨rfl,_,World.drewN_drewN _ _ _⟩|exact ⟨rfl,_,Eq.trans (World.drewN_drewN _ _ _) (congrArg (World.drewN _) (Nat.add_assoc _ _ _))⟩)))
        repeat (go_quiet (first|(go_at_call 33;(with_reducible refine (Yc.calls (rd l1 x33_1) true _ A11.out).mono ?_);rintro e w' ⟨rfl,⟨nd,rfl⟩⟩;(try first|exact ⟨rfl,_,World.drewN_drewN _ _ _⟩|exact ⟨rfl,_,Eq.trans (World.drewN_drewN _ _ _) (congrArg (World.drewN _) (Nat.add_assoc _ _ _))⟩)));try go_wp2_with (first|(go_at_call 33;(with_reducible refine (Yc.calls (rd l1 x33_1) true _ A11.out).mono ?_);rintro e w' ⟨rfl,⟨nd,rfl⟩⟩;(try first|exact ⟨rfl,_,World.drewN_drewN _ _ _⟩|exact ⟨rfl,_,Eq.trans (World.drewN_drewN _ _ _) (congrArg (World.drewN _) (Nat.add_assoc _ _ _))⟩))))
        go_roundg k1
        case measure => have:=HK1.out;omega
        case rel => exact ⟨(wrap64 (x33_1 + 1)),(by first|rfl|(simp;done)|(simp [*];done)),H',⟨by have:=HK1.out;omega⟩,⟨by (with_reducible repeat (first|refine Zk ?_ _|refine Zn ?_|refine Zl ?_ _));exact BK216.out⟩,⟨by repeat (first|(with_reducible first|exact HB.out|apply Ze|apply Zc|apply Zd|refine Zg ?_ GE216.out)|exact HB.out)⟩⟩
       ·replace c12:=Bool.eq_false_iff.mpr c12
        subst c12
        have H1 : (some ((⟨#[]⟩ : ByteArray),x33_1,20))=some (r1,r2,r3):=by rw [if_neg (show ¬ (false=true) by decide)] at H;exact H
        clear H
        have H:=H1
        clear H1
        simp only [Option.some.injEq,Prod.mk.injEq] at H
        obtain ⟨rfl,rfl,rfl⟩:=H
        have p218 : 0≤(x33_1 : Int):=of_decide_eq_true (by first|(with_reducible assumption)|assumption)
        have q218 : x33_1 < (l1.length : Int):=of_decide_eq_true (by first|(with_reducible assumption)|assumption)
        obtain ⟨ad218,e218,hx218_0⟩:=Kd.at_int HR1.out x33_1 p218 q218
        cases e218
        replace hx218_0:=(HB.out.cell (World.block_lt_of_cell? w _ hx218_0)).trans hx218_0
        replace p218:=eq_true p218
        replace q218:=eq_true q218
        go_wp2_with (first|(go_at_call 33;(with_reducible refine (Yc.calls (rd l1 x33_1) false _ A11.out).mono ?_);rintro e w' ⟨rfl,⟨nd,rfl⟩⟩;(try first|exact ⟨rfl,_,World.drewN_drewN _ _ _⟩|exact ⟨rfl,_,Eq.trans (World.drewN_drewN _ _ _) (congrArg (World.drewN _) (Nat.add_assoc _ _ _))⟩)))
        repeat (go_quiet (first|(go_at_call 33;(with_reducible refine (Yc.calls (rd l1 x33_1) false _ A11.out).mono ?_);rintro e w' ⟨rfl,⟨nd,rfl⟩⟩;(try first|exact ⟨rfl,_,World.drewN_drewN _ _ _⟩|exact ⟨rfl,_,Eq.trans (World.drewN_drewN _ _ _) (congrArg (World.drewN _) (Nat.add_assoc _ _ _))⟩)));try go_wp2_with (first|(go_at_call 33;(with_reducible refine (Yc.calls (rd l1 x33_1) false _ A11.out).mono ?_);rintro e w' ⟨rfl,⟨nd,rfl⟩⟩;(try first|exact ⟨rfl,_,World.drewN_drewN _ _ _⟩|exact ⟨rfl,_,Eq.trans (World.drewN_drewN _ _ _) (congrArg (World.drewN _) (Nat.add_assoc _ _ _))⟩))))
        go_ret3
        exact ⟨by first|rfl|(simp [Zp,Zq] <;> rfl)|(simp [*,Zp,Zq] <;> rfl),by repeat (first|(with_reducible first|exact HB.out|apply Ze|apply Zc|apply Zd|refine Zg ?_ GE216.out)|exact HB.out)⟩
      ·rw [if_neg c10] at H
       exact absurd H (by simp)
     ·rw [if_neg c9] at H
      exact absurd H (by simp)
    ·rw [if_neg c8] at H
     have c8b0 : decide (x33_1 < (l1.length : Int))=false:=decide_eq_false c8
     clear c8
     obtain ⟨y220,hy220⟩ : ∃ y_ : List Int,y_=(([] : List Int)):=⟨_,rfl⟩
     replace H : (Zh.l1 k1 l1 y220 l1 (l1.length : Int) 0 a0_0 a0_1 a0_2 a0_3 a0_4 a0_5 a0_6 a0_7)=some (r1,r2,r3):=by first|(rw [hy220];with_reducible exact H)|(have H2_:=(Option.bind_some _ _).symm.trans H;rw [hy220];with_reducible exact H2_)|(have H2_:=(Option.bind_some _ _).symm.trans H;with_reducible exact H2_)|with_reducible exact H|(rw [hy220];exact H)|exact H
     have Ny220:=Zf.mk hy220
     clear hy220
     have H':=Zf.mk H
     clear H
     go_wp2_with (first|((with_reducible refine Yh (N:=43) rfl ?_);refine Kd.R_lit (Kd.int .u8) _ 5 ?hg (N:=43) ?hd (xs:=([] : List Int)) (inner:=[]) (ok:=fun _ => True) (okp:=fun _ => True) ?hr ?hp (fun _ hk => hk) trivial (Below.refl _ _) (Nat.le_refl _) (by simp) ?_;(case hd => rfl);(case hg => rfl);(case hr => first|(go_simp;done)|(go_simp;rfl));(case hp => exact (Reps.none _ _));intro v221 w13 ho14 hb hg_ hnew_;clear hg_ hnew_;(first|rw [← Ny220.out] at ho14|(simp only [Int.reduceToNat] at ho14;rw [← Ny220.out] at ho14));have n0_:=Zf.mk (Kd.R_lower ho14 (Zo (by repeat (first|(with_reducible first|exact HB.out|apply Ze|apply Zc|apply Zd|refine Zg ?_ GE216.out)|exact HB.out))));have n1_:=Zf.mk (Zw (g:=gb216) (o:=.cells #[.int .i64 a0_0,.int .i64 a0_1,.int .i64 a0_2,.int .i64 a0_3,.int .i64 a0_4,.int .i64 a0_5,.int .i64 a0_6,.int .u8 a0_7] 51 (0,0)) (by (with_reducible repeat (first|refine Zk ?_ _|refine Zn ?_|refine Zl ?_ _));exact BK216.out) hb);have n2_:=Zf.mk (Zm (by repeat (first|(with_reducible first|exact HB.out|apply Ze|apply Zc|apply Zd|refine Zg ?_ GE216.out)|exact HB.out)) hb);clear BK216;clear HB;have HO222:=n0_;have BK216:=n1_;have HB:=n2_;clear n0_ n1_ n2_;clear hb ho14))
     repeat (go_quiet (first|((with_reducible refine Yh (N:=43) rfl ?_);refine Kd.R_lit (Kd.int .u8) _ 5 ?hg (N:=43) ?hd (xs:=([] : List Int)) (inner:=[]) (ok:=fun _ => True) (okp:=fun _ => True) ?hr ?hp (fun _ hk => hk) trivial (Below.refl _ _) (Nat.le_refl _) (by simp) ?_;(case hd => rfl);(case hg => rfl);(case hr => first|(go_simp;done)|(go_simp;rfl));(case hp => exact (Reps.none _ _));intro v221 w13 ho14 hb hg_ hnew_;clear hg_ hnew_;(first|rw [← Ny220.out] at ho14|(simp only [Int.reduceToNat] at ho14;rw [← Ny220.out] at ho14));have n0_:=Zf.mk (Kd.R_lower ho14 (Zo (by repeat (first|(with_reducible first|exact HB.out|apply Ze|apply Zc|apply Zd|refine Zg ?_ GE216.out)|exact HB.out))));have n1_:=Zf.mk (Zw (g:=gb216) (o:=.cells #[.int .i64 a0_0,.int .i64 a0_1,.int .i64 a0_2,.int .i64 a0_3,.int .i64 a0_4,.int .i64 a0_5,.int .i64 a0_6,.int .u8 a0_7] 51 (0,0)) (by (with_reducible repeat (first|refine Zk ?_ _|refine Zn ?_|refine Zl ?_ _));exact BK216.out) hb);have n2_:=Zf.mk (Zm (by repeat (first|(with_reducible first|exact HB.out|apply Ze|apply Zc|apply Zd|refine Zg ?_ GE216.out)|exact HB.out)) hb);clear BK216;clear HB;have HO222:=n0_;have BK216:=n1_;have HB:=n2_;clear n0_ n1_ n2_;clear hb ho14));try go_wp2_with (first|((with_reducible refine Yh (N:=43) rfl ?_);refine Kd.R_lit (Kd.int .u8) _ 5 ?hg (N:=43) ?hd (xs:=([] : List Int)) (inner:=[]) (ok:=fun _ => True) (okp:=fun _ => True) ?hr ?hp (fun _ hk => hk) trivial (Below.refl _ _) (Nat.le_refl _) (by simp) ?_;(case hd => rfl);(case hg => rfl);(case hr => first|(go_simp;done)|(go_simp;rfl));(case hp => exact (Reps.none _ _));intro v221 w13 ho14 hb hg_ hnew_;clear hg_ hnew_;(first|rw [← Ny220.out] at ho14|(simp only [Int.reduceToNat] at ho14;rw [← Ny220.out] at ho14));have n0_:=Zf.mk (Kd.R_lower ho14 (Zo (by repeat (first|(with_reducible first|exact HB.out|apply Ze|apply Zc|apply Zd|refine Zg ?_ GE216.out)|exact HB.out))));have n1_:=Zf.mk (Zw (g:=gb216) (o:=.cells #[.int .i64 a0_0,.int .i64 a0_1,.int .i64 a0_2,.int .i64 a0_3,.int .i64 a0_4,.int .i64 a0_5,.int .i64 a0_6,.int .u8 a0_7] 51 (0,0)) (by (with_reducible repeat (first|refine Zk ?_ _|refine Zn ?_|refine Zl ?_ _));exact BK216.out) hb);have n2_:=Zf.mk (Zm (by repeat (first|(with_reducible first|exact HB.out|apply Ze|apply Zc|apply Zd|refine Zg ?_ GE216.out)|exact HB.out)) hb);clear BK216;clear HB;have HO222:=n0_;have BK216:=n1_;have HB:=n2_;clear n0_ n1_ n2_;clear hb ho14)))
     go_loopg [9,46] k1 (fun kq v9 v46 w' => ∃ (x9_2 : List Int) (x46_2 : Int),v46=.int .i64 x46_2∧Zf (Zh.l1 kq l1 x9_2 l1 (l1.length : Int) x46_2 a0_0 a0_1 a0_2 a0_3 a0_4 a0_5 a0_6 a0_7=some (r1,r2,r3))∧Zf (kq≤k1)∧Zf (Kd.R (Kd.int .u8) 5 w' w.heap.size (fun _ => True) v9 x9_2)∧Zf (w'.heap[gb216]?=some (.cells #[.int .i64 a0_0,.int .i64 a0_1,.int .i64 a0_2,.int .i64 a0_3,.int .i64 a0_4,.int .i64 a0_5,.int .i64 a0_6,.int .u8 a0_7] 51 (0,0)))∧Zf (Below w.heap.size w w'))
     case atStart => exact ⟨(y220),(0),(by first|rfl|(simp;done)|(simp [*];done)),H',⟨Nat.le_refl _⟩,⟨by (with_reducible repeat (first|apply Kd.Zv|apply Kd.Zu|apply Kd.Zz));exact HO222.out⟩,⟨by (with_reducible repeat (first|refine Zk ?_ _|refine Zn ?_|refine Zl ?_ _));exact BK216.out⟩,⟨by repeat (first|(with_reducible first|exact HB.out|apply Ze|apply Zc|apply Zd|refine Zg ?_ GE216.out)|exact HB.out)⟩⟩
     case round =>
      clear H'
      try clear c1
      try clear c2
      try clear p2
      try clear q2
      try clear hx2
      try clear c4
      try clear p6
      try clear c8
      try clear c8b0
      try clear c9
      try clear c9b0
      try clear c10
      try clear c10b0
      try clear c12
      try clear hcz6_0
      try clear hcz6_1
      try clear hcz6_2
      try clear hcz6_3
      try clear hcz6_4
      try clear hcz6_5
      try clear hcz6_6
      try clear hcz6_7
      try clear hfz6_0
      try clear hfz6_1
      try clear hfz6_2
      try clear hfz6_3
      try clear hfz6_4
      try clear hfz6_5
      try clear hfz6_6
      try clear hfz6_7
      try clear hx218_0
      try clear p2
      try clear p218
      try clear q218
      obtain ⟨x9_2,x46_2,rfl,HA,HK2,HO_9,BK216,HB⟩:=hrel
      cases gk with
      | zero => exact absurd HA.out (by simp [Zh.l1])
      | succ k2 =>
       have H:=HA.out
       clear HA
       simp only [Zh.l1] at H
       by_cases c15 : x46_2 < (l1.length : Int)
       ·rw [if_pos c15] at H
        have c15b0 : decide (x46_2 < (l1.length : Int))=true:=decide_eq_true c15
        clear c15
        by_cases c16 : 0≤x46_2
        ·rw [if_pos c16] at H
         have c16b0 : decide (0≤x46_2)=true:=decide_eq_true c16
         clear c16
         by_cases c17 : x46_2 < (l1.length : Int)
         ·rw [if_pos c17] at H
          have c17b0 : decide (x46_2 < (l1.length : Int))=true:=decide_eq_true c17
          clear c17
          replace H:=Option.bind_eq_some_iff.mp H
          obtain ⟨t224,A180,H⟩:=H
          replace H : (if t224=true then (if x9_2.length < 140737488355328 then (Zh.l1 k2 l1 (x9_2++[(rd l1 x46_2) % 256]) l1 (l1.length : Int) (wrap64 (x46_2 + 1)) a0_0 a0_1 a0_2 a0_3 a0_4 a0_5 a0_6 a0_7) else (none)) else (if (wrap64 (rd l1 x46_2)) < a0_6 then (some ((⟨#[]⟩ : ByteArray),x46_2,141)) else (Zh.l1 k2 l1 x9_2 l1 (l1.length : Int) (wrap64 (x46_2 + 1)) a0_0 a0_1 a0_2 a0_3 a0_4 a0_5 a0_6 a0_7)))=some (r1,r2,r3):=H
          have A18:=Zf.mk A180
          clear A180
          by_cases c19 : t224=true
          ·subst c19
           have H1 : (if x9_2.length < 140737488355328 then (Zh.l1 k2 l1 (x9_2++[(rd l1 x46_2) % 256]) l1 (l1.length : Int) (wrap64 (x46_2 + 1)) a0_0 a0_1 a0_2 a0_3 a0_4 a0_5 a0_6 a0_7) else (none))=some (r1,r2,r3):=by rw [if_pos rfl] at H;exact H
           clear H
           have H:=H1
           clear H1
           by_cases c20 : x9_2.length < 140737488355328
           ·rw [if_pos c20] at H
            have LMc20:=Zf.mk c20
            clear c20
            obtain ⟨y225,hy225⟩ : ∃ y_ : List Int,y_=(x9_2++[(rd l1 x46_2) % 256]):=⟨_,rfl⟩
            replace H : (Zh.l1 k2 l1 y225 l1 (l1.length : Int) (wrap64 (x46_2 + 1)) a0_0 a0_1 a0_2 a0_3 a0_4 a0_5 a0_6 a0_7)=some (r1,r2,r3):=by first|(rw [hy225];with_reducible exact H)|(have H2_:=(Option.bind_some _ _).symm.trans H;rw [hy225];with_reducible exact H2_)|(have H2_:=(Option.bind_some _ _).symm.trans H;with_reducible exact H2_)|with_reducible exact H|(rw [hy225];exact H)|exact H
            have Ny225:=Zf.mk hy225
            clear hy225
            have H':=Zf.mk H
            clear H
            have p223 : 0≤(x46_2 : Int):=of_decide_eq_true (by first|(with_reducible assumption)|assumption)
            have q223 : x46_2 < (l1.length : Int):=of_decide_eq_true (by first|(with_reducible assumption)|assumption)
            obtain ⟨ad223,e223,hx223_0⟩:=Kd.at_int HR1.out x46_2 p223 q223
            cases e223
            replace hx223_0:=(HB.out.cell (World.block_lt_of_cell? w _ hx223_0)).trans hx223_0
            replace p223:=eq_true p223
            replace q223:=eq_true q223
            have hcz21_0 : wr.cell? ⟨gb216,0,none⟩=some (.int .i64 a0_0):=(Zb BK216.out 0).trans rfl
            have hcz21_1 : wr.cell? ⟨gb216,1,none⟩=some (.int .i64 a0_1):=(Zb BK216.out 1).trans rfl
            have hcz21_2 : wr.cell? ⟨gb216,2,none⟩=some (.int .i64 a0_2):=(Zb BK216.out 2).trans rfl
            have hcz21_3 : wr.cell? ⟨gb216,3,none⟩=some (.int .i64 a0_3):=(Zb BK216.out 3).trans rfl
            have hcz21_4 : wr.cell? ⟨gb216,4,none⟩=some (.int .i64 a0_4):=(Zb BK216.out 4).trans rfl
            have hcz21_5 : wr.cell? ⟨gb216,5,none⟩=some (.int .i64 a0_5):=(Zb BK216.out 5).trans rfl
            have hcz21_6 : wr.cell? ⟨gb216,6,none⟩=some (.int .i64 a0_6):=(Zb BK216.out 6).trans rfl
            have hcz21_7 : wr.cell? ⟨gb216,7,none⟩=some (.int .u8 a0_7):=(Zb BK216.out 7).trans rfl
            have hfz21_0:=Za BK216.out 0
            have hfz21_1:=Za BK216.out 1
            have hfz21_2:=Za BK216.out 2
            have hfz21_3:=Za BK216.out 3
            have hfz21_4:=Za BK216.out 4
            have hfz21_5:=Za BK216.out 5
            have hfz21_6:=Za BK216.out 6
            have hfz21_7:=Za BK216.out 7
            go_wp2_with (first|(go_at_call 41;(with_reducible refine (Yf.calls a0_0 a0_1 a0_2 a0_3 a0_4 a0_5 a0_6 a0_7 (rd l1 x46_2) true _ A18.out).mono ?_);rintro e w22 ⟨rfl,hb⟩;have n0_:=Zf.mk (Kd.Z9 (by (with_reducible repeat (first|apply Kd.Zv|apply Kd.Zu|apply Kd.Zz));exact HO_9.out) hb);have n1_:=Zf.mk (Zw (g:=gb216) (o:=.cells #[.int .i64 a0_0,.int .i64 a0_1,.int .i64 a0_2,.int .i64 a0_3,.int .i64 a0_4,.int .i64 a0_5,.int .i64 a0_6,.int .u8 a0_7] 51 (0,0)) (by (with_reducible repeat (first|refine Zk ?_ _|refine Zn ?_|refine Zl ?_ _));exact BK216.out) hb);have n2_:=Zf.mk (Zm (by repeat (first|(with_reducible first|exact HB.out|apply Ze|apply Zc|apply Zd|refine Zg ?_ GE216.out)|exact HB.out)) hb);clear HO_9;clear BK216;clear HB;have HO_9:=n0_;have BK216:=n1_;have HB:=n2_;clear n0_ n1_ n2_;(try clear hb);(try clear hb2);(try clear hk);(try clear hi))|((with_reducible refine gate_builtin (b:=.append) (xs:=#[.tmp 54,.tmp 57]) rfl ?_);at_builtin;refine Kd.R_append (Kd.int .u8) (w0:=w) w.heap.size rfl (.tmp 54) (.tmp 57) 35 5 (.int .u8 0) 1 rfl Tryd.underlying35 info5 rfl (by decide) (by omega) u9 x9_2 ((rd l1 x46_2) % 256) [.int .u8 ((rd l1 x46_2) % 256)] (fun _ => True) (fun _ => False) rfl rfl ?aP (fun _ hk => hk.elim) ?aF ?aO ?aB ?aS ?aL ?_;(case aP => exact rfl);(case aB => exact (by repeat (first|(with_reducible first|exact HB.out|apply Ze|apply Zc|apply Zd|refine Zg ?_ GE216.out)|exact HB.out)));(case aF => exact (fun _ _ => trivial));(case aO => exact (by (with_reducible repeat (first|apply Kd.Zv|apply Kd.Zu|apply Kd.Zz));exact HO_9.out));(case aS => exact (Zo (by repeat (first|(with_reducible first|exact HB.out|apply Ze|apply Zc|apply Zd|refine Zg ?_ GE216.out)|exact HB.out))));(case aL => have:=LMc20.out;omega);intro v226 w23 ho hb hg hat;rw [← Ny225.out] at ho;have n0_:=Zf.mk (blk_grown (g:=gb216) (o:=.cells #[.int .i64 a0_0,.int .i64 a0_1,.int .i64 a0_2,.int .i64 a0_3,.int .i64 a0_4,.int .i64 a0_5,.int .i64 a0_6,.int .u8 a0_7] 51 (0,0)) (by (with_reducible repeat (first|refine Zk ?_ _|refine Zn ?_|refine Zl ?_ _));exact BK216.out) hg (Kd.R_ne HO_9.out BK216.out (by decide)));have n1_:=Zf.mk (hb);have n2_:=Zf.mk (ho);clear BK216;clear HB;clear HO_9;have BK216:=n0_;have HB:=n1_;have HO227:=n2_;clear n0_ n1_ n2_;clear ho hb hg hat))
            repeat (go_quiet (first|(go_at_call 41;(with_reducible refine (Yf.calls a0_0 a0_1 a0_2 a0_3 a0_4 a0_5 a0_6 a0_7 (rd l1 x46_2) true _ A18.out).mono ?_);rintro e w22 ⟨rfl,hb⟩;have n0_:=Zf.mk (Kd.Z9 (by (with_reducible repeat (first|apply Kd.Zv|apply Kd.Zu|apply Kd.Zz));exact HO_9.out) hb);have n1_:=Zf.mk (Zw (g:=gb216) (o:=.cells #[.int .i64 a0_0,.int .i64 a0_1,.int .i64 a0_2,.int .i64 a0_3,.int .i64 a0_4,.int .i64 a0_5,.int .i64 a0_6,.int .u8 a0_7] 51 (0,0)) (by (with_reducible repeat (first|refine Zk ?_ _|refine Zn ?_|refine Zl ?_ _));exact BK216.out) hb);have n2_:=Zf.mk (Zm (by repeat (first|(with_reducible first|exact HB.out|apply Ze|apply Zc|apply Zd|refine Zg ?_ GE216.out)|exact HB.out)) hb);clear HO_9;clear BK216;clear HB;have HO_9:=n0_;have BK216:=n1_;have HB:=n2_;clear n0_ n1_ n2_;(try clear hb);(try clear hb2);(try clear hk);(try clear hi))|((with_reducible refine gate_builtin (b:=.append) (xs:=#[.tmp 54,.tmp 57]) rfl ?_);at_builtin;refine Kd.R_append (Kd.int .u8) (w0:=w) w.heap.size rfl (.tmp 54) (.tmp 57) 35 5 (.int .u8 0) 1 rfl Tryd.underlying35 info5 rfl (by decide) (by omega) u9 x9_2 ((rd l1 x46_2) % 256) [.int .u8 ((rd l1 x46_2) % 256)] (fun _ => True) (fun _ => False) rfl rfl ?aP (fun _ hk => hk.elim) ?aF ?aO ?aB ?aS ?aL ?_;(case aP => exact rfl);(case aB => exact (by repeat (first|(with_reducible first|exact HB.out|apply Ze|apply Zc|apply Zd|refine Zg ?_ GE216.out)|exact HB.out)));(case aF => exact (fun _ _ => trivial));(case aO => exact (by (with_reducible repeat (first|apply Kd.Zv|apply Kd.Zu|apply Kd.Zz));exact HO_9.out));(case aS => exact (Zo (by repeat (first|(with_reducible first|exact HB.out|apply Ze|apply Zc|apply Zd|refine Zg ?_ GE216.out)|exact HB.out))));(case aL => have:=LMc20.out;omega);intro v226 w23 ho hb hg hat;rw [← Ny225.out] at ho;have n0_:=Zf.mk (blk_grown (g:=gb216) (o:=.cells #[.int .i64 a0_0,.int .i64 a0_1,.int .i64 a0_2,.int .i64 a0_3,.int .i64 a0_4,.int .i64 a0_5,.int .i64 a0_6,.int .u8 a0_7] 51 (0,0)) (by (with_reducible repeat (first|refine Zk ?_ _|refine Zn ?_|refine Zl ?_ _));exact BK216.out) hg (Kd.R_ne HO_9.out BK216.out (by decide)));have n1_:=Zf.mk (hb);have n2_:=Zf.mk (ho);clear BK216;clear HB;clear HO_9;have BK216:=n0_;have HB:=n1_;have HO227:=n2_;clear n0_ n1_ n2_;clear ho hb hg hat));try go_wp2_with (first|(go_at_call 41;(with_reducible refine (Yf.calls a0_0 a0_1 a0_2 a0_3 a0_4 a0_5 a0_6 a0_7 (rd l1 x46_2) true _ A18.out).mono ?_);rintro e w22 ⟨rfl,hb⟩;have n0_:=Zf.mk (Kd.Z9 (by (with_reducible repeat (first|apply Kd.Zv|apply Kd.Zu|apply Kd.Zz));exact HO_9.out) hb);have n1_:=Zf.mk (Zw (g:=gb216) (o:=.cells #[.int .i64 a0_0,.int .i64 a0_1,.int .i64 a0_2,.int .i64 a0_3,.int .i64 a0_4,.int .i64 a0_5,.int .i64 a0_6,.int .u8 a0_7] 51 (0,0)) (by (with_reducible repeat (first|refine Zk ?_ _|refine Zn ?_|refine Zl ?_ _));exact BK216.out) hb);have n2_:=Zf.mk (Zm (by repeat (first|(with_reducible first|exact HB.out|apply Ze|apply Zc|apply Zd|refine Zg ?_ GE216.out)|exact HB.out)) hb);clear HO_9;clear BK216;clear HB;have HO_9:=n0_;have BK216:=n1_;have HB:=n2_;clear n0_ n1_ n2_;(try clear hb);(try clear hb2);(try clear hk);(try clear hi))|((with_reducible refine gate_builtin (b:=.append) (xs:=#[.tmp 54,.tmp 57]) rfl ?_);at_builtin;refine Kd.R_append (Kd.int .u8) (w0:=w) w.heap.size rfl (.tmp 54) (.tmp 57) 35 5 (.int .u8 0) 1 rfl Tryd.underlying35 info5 rfl (by decide) (by omega) u9 x9_2 ((rd l1 x46_2) % 256) [.int .u8 ((rd l1 x46_2) % 256)] (fun _ => True) (fun _ => False) rfl rfl ?aP (fun _ hk => hk.elim) ?aF ?aO ?aB ?aS ?aL ?_;(case aP => exact rfl);(case aB => exact (by repeat (first|(with_reducible first|exact HB.out|apply Ze|apply Zc|apply Zd|refine Zg ?_ GE216.out)|exact HB.out)));(case aF => exact (fun _ _ => trivial));(case aO => exact (by (with_reducible repeat (first|apply Kd.Zv|apply Kd.Zu|apply Kd.Zz));exact HO_9.out));(case aS => exact (Zo (by repeat (first|(with_reducible first|exact HB.out|apply Ze|apply Zc|apply Zd|refine Zg ?_ GE216.out)|exact HB.out))));(case aL => have:=LMc20.out;omega);intro v226 w23 ho hb hg hat;rw [← Ny225.out] at ho;have n0_:=Zf.mk (blk_grown (g:=gb216) (o:=.cells #[.int .i64 a0_0,.int .i64 a0_1,.int .i64 a0_2,.int .i64 a0_3,.int .i64 a0_4,.int .i64 a0_5,.int .i64 a0_6,.int .u8 a0_7] 51 (0,0)) (by (with_reducible repeat (first|refine Zk ?_ _|refine Zn ?_|refine Zl ?_ _));exact BK216.out) hg (Kd.R_ne HO_9.out BK216.out (by decide)));have n1_:=Zf.mk (hb);have n2_:=Zf.mk (ho);clear BK216;clear HB;clear HO_9;have BK216:=n0_;have HB:=n1_;have HO227:=n2_;clear n0_ n1_ n2_;clear ho hb hg hat)))
            go_roundg k2
            case measure => have:=HK1.out;have:=HK2.out;omega
            case rel => exact ⟨(y225),(wrap64 (x46_2 + 1)),(by first|rfl|(simp;done)|(simp [*];done)),H',⟨by have:=HK1.out;have:=HK2.out;omega⟩,⟨by (with_reducible repeat (first|apply Kd.Zv|apply Kd.Zu|apply Kd.Zz));exact HO227.out⟩,⟨by (with_reducible repeat (first|refine Zk ?_ _|refine Zn ?_|refine Zl ?_ _));exact BK216.out⟩,⟨by repeat (first|(with_reducible first|exact HB.out|apply Ze|apply Zc|apply Zd|refine Zg ?_ GE216.out)|exact HB.out)⟩⟩
           ·rw [if_neg c20] at H
            exact absurd H (by simp)
          ·replace c19:=Bool.eq_false_iff.mpr c19
           subst c19
           have H1 : (if (wrap64 (rd l1 x46_2)) < a0_6 then (some ((⟨#[]⟩ : ByteArray),x46_2,141)) else (Zh.l1 k2 l1 x9_2 l1 (l1.length : Int) (wrap64 (x46_2 + 1)) a0_0 a0_1 a0_2 a0_3 a0_4 a0_5 a0_6 a0_7))=some (r1,r2,r3):=by rw [if_neg (show ¬ (false=true) by decide)] at H;exact H
           clear H
           have H:=H1
           clear H1
           by_cases c24 : (wrap64 (rd l1 x46_2)) < a0_6
           ·rw [if_pos c24] at H
            have c24b0 : decide ((wrap64 (rd l1 x46_2)) < a0_6)=true:=decide_eq_true c24
            clear c24
            simp only [Option.some.injEq,Prod.mk.injEq] at H
            obtain ⟨rfl,rfl,rfl⟩:=H
            have p223 : 0≤(x46_2 : Int):=of_decide_eq_true (by first|(with_reducible assumption)|assumption)
            have q223 : x46_2 < (l1.length : Int):=of_decide_eq_true (by first|(with_reducible assumption)|assumption)
            obtain ⟨ad223,e223,hx223_0⟩:=Kd.at_int HR1.out x46_2 p223 q223
            cases e223
            replace hx223_0:=(HB.out.cell (World.block_lt_of_cell? w _ hx223_0)).trans hx223_0
            replace p223:=eq_true p223
            replace q223:=eq_true q223
            have hcz25_0 : wr.cell? ⟨gb216,0,none⟩=some (.int .i64 a0_0):=(Zb BK216.out 0).trans rfl
            have hcz25_1 : wr.cell? ⟨gb216,1,none⟩=some (.int .i64 a0_1):=(Zb BK216.out 1).trans rfl
            have hcz25_2 : wr.cell? ⟨gb216,2,none⟩=some (.int .i64 a0_2):=(Zb BK216.out 2).trans rfl
            have hcz25_3 : wr.cell? ⟨gb216,3,none⟩=some (.int .i64 a0_3):=(Zb BK216.out 3).trans rfl
            have hcz25_4 : wr.cell? ⟨gb216,4,none⟩=some (.int .i64 a0_4):=(Zb BK216.out 4).trans rfl
            have hcz25_5 : wr.cell? ⟨gb216,5,none⟩=some (.int .i64 a0_5):=(Zb BK216.out 5).trans rfl
            have hcz25_6 : wr.cell? ⟨gb216,6,none⟩=some (.int .i64 a0_6):=(Zb BK216.out 6).trans rfl
            have hcz25_7 : wr.cell? ⟨gb216,7,none⟩=some (.int .u8 a0_7):=(Zb BK216.out 7).trans rfl
            have hfz25_0:=Za BK216.out 0
            have hfz25_1:=Za BK216.out 1
            have hfz25_2:=Za BK216.out 2
            have hfz25_3:=Za BK216.out 3
            have hfz25_4:=Za BK216.out 4
            have hfz25_5:=Za BK216.out 5
            have hfz25_6:=Za BK216.out 6
            have hfz25_7:=Za BK216.out 7
            go_wp2_with (first|(go_at_call 41;(with_reducible refine (Yf.calls a0_0 a0_1 a0_2 a0_3 a0_4 a0_5 a0_6 a0_7 (rd l1 x46_2) false _ A18.out).mono ?_);rintro e w26 ⟨rfl,hb⟩;have n0_:=Zf.mk (Kd.Z9 (by (with_reducible repeat (first|apply Kd.Zv|apply Kd.Zu|apply Kd.Zz));exact HO_9.out) hb);have n1_:=Zf.mk (Zw (g:=gb216) (o:=.cells #[.int .i64 a0_0,.int .i64 a0_1,.int .i64 a0_2,.int .i64 a0_3,.int .i64 a0_4,.int .i64 a0_5,.int .i64 a0_6,.int .u8 a0_7] 51 (0,0)) (by (with_reducible repeat (first|refine Zk ?_ _|refine Zn ?_|refine Zl ?_ _));exact BK216.out) hb);have n2_:=Zf.mk (Zm (by repeat (first|(with_reducible first|exact HB.out|apply Ze|apply Zc|apply Zd|refine Zg ?_ GE216.out)|exact HB.out)) hb);clear HO_9;clear BK216;clear HB;have HO_9:=n0_;have BK216:=n1_;have HB:=n2_;clear n0_ n1_ n2_;(try clear hb);(try clear hb2);(try clear hk);(try clear hi);have hcz27_0 : w26.cell? ⟨gb216,0,none⟩=some (.int .i64 a0_0):=(Zb BK216.out 0).trans rfl;have hcz27_1 : w26.cell? ⟨gb216,1,none⟩=some (.int .i64 a0_1):=(Zb BK216.out 1).trans rfl;have hcz27_2 : w26.cell? ⟨gb216,2,none⟩=some (.int .i64 a0_2):=(Zb BK216.out 2).trans rfl;have hcz27_3 : w26.cell? ⟨gb216,3,none⟩=some (.int .i64 a0_3):=(Zb BK216.out 3).trans rfl;have hcz27_4 : w26.cell? ⟨gb216,4,none⟩=some (.int .i64 a0_4):=(Zb BK216.out 4).trans rfl;have hcz27_5 : w26.cell? ⟨gb216,5,none⟩=some (.int .i64 a0_5):=(Zb BK216.out 5).trans rfl;have hcz27_6 : w26.cell? ⟨gb216,6,none⟩=some (.int .i64 a0_6):=(Zb BK216.out 6).trans rfl;have hcz27_7 : w26.cell? ⟨gb216,7,none⟩=some (.int .u8 a0_7):=(Zb BK216.out 7).trans rfl;have hfz27_0:=Za BK216.out 0;have hfz27_1:=Za BK216.out 1;have hfz27_2:=Za BK216.out 2;have hfz27_3:=Za BK216.out 3;have hfz27_4:=Za BK216.out 4;have hfz27_5:=Za BK216.out 5;have hfz27_6:=Za BK216.out 6;have hfz27_7:=Za BK216.out 7))
            repeat (go_quiet (first|(go_at_call 41;(with_reducible refine (Yf.calls a0_0 a0_1 a0_2 a0_3 a0_4 a0_5 a0_6 a0_7 (rd l1 x46_2) false _ A18.out).mono ?_);rintro e w26 ⟨rfl,hb⟩;have n0_:=Zf.mk (Kd.Z9 (by (with_reducible repeat (first|apply Kd.Zv|apply Kd.Zu|apply Kd.Zz));exact HO_9.out) hb);have n1_:=Zf.mk (Zw (g:=gb216) (o:=.cells #[.int .i64 a0_0,.int .i64 a0_1,.int .i64 a0_2,.int .i64 a0_3,.int .i64 a0_4,.int .i64 a0_5,.int .i64 a0_6,.int .u8 a0_7] 51 (0,0)) (by (with_reducible repeat (first|refine Zk ?_ _|refine Zn ?_|refine Zl ?_ _));exact BK216.out) hb);have n2_:=Zf.mk (Zm (by repeat (first|(with_reducible first|exact HB.out|apply Ze|apply Zc|apply Zd|refine Zg ?_ GE216.out)|exact HB.out)) hb);clear HO_9;clear BK216;clear HB;have HO_9:=n0_;have BK216:=n1_;have HB:=n2_;clear n0_ n1_ n2_;(try clear hb);(try clear hb2);(try clear hk);(try clear hi);have hcz27_0 : w26.cell? ⟨gb216,0,none⟩=some (.int .i64 a0_0):=(Zb BK216.out 0).trans rfl;have hcz27_1 : w26.cell? ⟨gb216,1,none⟩=some (.int .i64 a0_1):=(Zb BK216.out 1).trans rfl;have hcz27_2 : w26.cell? ⟨gb216,2,none⟩=some (.int .i64 a0_2):=(Zb BK216.out 2).trans rfl;have hcz27_3 : w26.cell? ⟨gb216,3,none⟩=some (.int .i64 a0_3):=(Zb BK216.out 3).trans rfl;have hcz27_4 : w26.cell? ⟨gb216,4,none⟩=some (.int .i64 a0_4):=(Zb BK216.out 4).trans rfl;have hcz27_5 : w26.cell? ⟨gb216,5,none⟩=some (.int .i64 a0_5):=(Zb BK216.out 5).trans rfl;have hcz27_6 : w26.cell? ⟨gb216,6,none⟩=some (.int .i64 a0_6):=(Zb BK216.out 6).trans rfl;have hcz27_7 : w26.cell? ⟨gb216,7,none⟩=some (.int .u8 a0_7):=(Zb BK216.out 7).trans rfl;have hfz27_0:=Za BK216.out 0;have hfz27_1:=Za BK216.out 1;have hfz27_2:=Za BK216.out 2;have hfz27_3:=Za BK216.out 3;have hfz27_4:=Za BK216.out 4;have hfz27_5:=Za BK216.out 5;have hfz27_6:=Za BK216.out 6;have hfz27_7:=Za BK216.out 7));try go_wp2_with (first|(go_at_call 41;(with_reducible refine (Yf.calls a0_0 a0_1 a0_2 a0_3 a0_4 a0_5 a0_6 a0_7 (rd l1 x46_2) false _ A18.out).mono ?_);rintro e w26 ⟨rfl,hb⟩;have n0_:=Zf.mk (Kd.Z9 (by (with_reducible repeat (first|apply Kd.Zv|apply Kd.Zu|apply Kd.Zz));exact HO_9.out) hb);have n1_:=Zf.mk (Zw (g:=gb216) (o:=.cells #[.int .i64 a0_0,.int .i64 a0_1,.int .i64 a0_2,.int .i64 a0_3,.int .i64 a0_4,.int .i64 a0_5,.int .i64 a0_6,.int .u8 a0_7] 51 (0,0)) (by (with_reducible repeat (first|refine Zk ?_ _|refine Zn ?_|refine Zl ?_ _));exact BK216.out) hb);have n2_:=Zf.mk (Zm (by repeat (first|(with_reducible first|exact HB.out|apply Ze|apply Zc|apply Zd|refine Zg ?_ GE216.out)|exact HB.out)) hb);clear HO_9;clear BK216;clear HB;have HO_9:=n0_;have BK216:=n1_;have HB:=n2_;clear n0_ n1_ n2_;(try clear hb);(try clear hb2);(try clear hk);(try clear hi);have hcz27_0 : w26.cell? ⟨gb216,0,none⟩=some (.int .i64 a0_0):=(Zb BK216.out 0).trans rfl;have hcz27_1 : w26.cell? ⟨gb216,1,none⟩=some (.int .i64 a0_1):=(Zb BK216.out 1).trans rfl;have hcz27_2 : w26.cell? ⟨gb216,2,none⟩=some (.int .i64 a0_2):=(Zb BK216.out 2).trans rfl;have hcz27_3 : w26.cell? ⟨gb216,3,none⟩=some (.int .i64 a0_3):=(Zb BK216.out 3).trans rfl;have hcz27_4 : w26.cell? ⟨gb216,4,none⟩=some (.int .i64 a0_4):=(Zb BK216.out 4).trans rfl;have hcz27_5 : w26.cell? ⟨gb216,5,none⟩=some (.int .i64 a0_5):=(Zb BK216.out 5).trans rfl;have hcz27_6 : w26.cell? ⟨gb216,6,none⟩=some (.int .i64 a0_6):=(Zb BK216.out 6).trans rfl;have hcz27_7 : w26.cell? ⟨gb216,7,none⟩=some (.int .u8 a0_7):=(Zb BK216.out 7).trans rfl;have hfz27_0:=Za BK216.out 0;have hfz27_1:=Za BK216.out 1;have hfz27_2:=Za BK216.out 2;have hfz27_3:=Za BK216.out 3;have hfz27_4:=Za BK216.out 4;have hfz27_5:=Za BK216.out 5;have hfz27_6:=Za BK216.out 6;have hfz27_7:=Za BK216.out 7)))
            go_ret3
            exact ⟨by first|rfl|(simp [Zp,Zq] <;> rfl)|(simp [*,Zp,Zq] <;> rfl),by repeat (first|(with_reducible first|exact HB.out|apply Ze|apply Zc|apply Zd|refine Zg ?_ GE216.out)|exact HB.out)⟩
           ·rw [if_neg c24] at H
            have c24b0 : decide ((wrap64 (rd l1 x46_2)) < a0_6)=false:=decide_eq_false c24
            clear c24
            have H':=Zf.mk H
            clear H
            have p223 : 0≤(x46_2 : Int):=of_decide_eq_true (by first|(with_reducible assumption)|assumption)
            have q223 : x46_2 < (l1.length : Int):=of_decide_eq_true (by first|(with_reducible assumption)|assumption)
            obtain ⟨ad223,e223,hx223_0⟩:=Kd.at_int HR1.out x46_2 p223 q223
            cases e223
            replace hx223_0:=(HB.out.cell (World.block_lt_of_cell? w _ hx223_0)).trans hx223_0
            replace p223:=eq_true p223
            replace q223:=eq_true q223
            have hcz28_0 : wr.cell? ⟨gb216,0,none⟩=some (.int .i64 a0_0):=(Zb BK216.out 0).trans rfl
            have hcz28_1 : wr.cell? ⟨gb216,1,none⟩=some (.int .i64 a0_1):=(Zb BK216.out 1).trans rfl
            have hcz28_2 : wr.cell? ⟨gb216,2,none⟩=some (.int .i64 a0_2):=(Zb BK216.out 2).trans rfl
            have hcz28_3 : wr.cell? ⟨gb216,3,none⟩=some (.int .i64 a0_3):=(Zb BK216.out 3).trans rfl
            have hcz28_4 : wr.cell? ⟨gb216,4,none⟩=some (.int .i64 a0_4):=(Zb BK216.out 4).trans rfl
            have hcz28_5 : wr.cell? ⟨gb216,5,none⟩=some (.int .i64 a0_5):=(Zb BK216.out 5).trans rfl
            have hcz28_6 : wr.cell? ⟨gb216,6,none⟩=some (.int .i64 a0_6):=(Zb BK216.out 6).trans rfl
            have hcz28_7 : wr.cell? ⟨gb216,7,none⟩=some (.int .u8 a0_7):=(Zb BK216.out 7).trans rfl
            have hfz28_0:=Za BK216.out 0
            have hfz28_1:=Za BK216.out 1
            have hfz28_2:=Za BK216.out 2
            have hfz28_3:=Za BK216.out 3
            have hfz28_4:=Za BK216.out 4
            have hfz28_5:=Za BK216.out 5
            have hfz28_6:=Za BK216.out 6
            have hfz28_7:=Za BK216.out 7
            go_wp2_with (first|(go_at_call 41;(with_reducible refine (Yf.calls a0_0 a0_1 a0_2 a0_3 a0_4 a0_5 a0_6 a0_7 (rd l1 x46_2) false _ A18.out).mono ?_);rintro e w29 ⟨rfl,hb⟩;have n0_:=Zf.mk (Kd.Z9 (by (with_reducible repeat (first|apply Kd.Zv|apply Kd.Zu|apply Kd.Zz));exact HO_9.out) hb);have n1_:=Zf.mk (Zw (g:=gb216) (o:=.cells #[.int .i64 a0_0,.int .i64 a0_1,.int .i64 a0_2,.int .i64 a0_3,.int .i64 a0_4,.int .i64 a0_5,.int .i64 a0_6,.int .u8 a0_7] 51 (0,0)) (by (with_reducible repeat (first|refine Zk ?_ _|refine Zn ?_|refine Zl ?_ _));exact BK216.out) hb);have n2_:=Zf.mk (Zm (by repeat (first|(with_reducible first|exact HB.out|apply Ze|apply Zc|apply Zd|refine Zg ?_ GE216.out)|exact HB.out)) hb);clear HO_9;clear BK216;clear HB;have HO_9:=n0_;have BK216:=n1_;have HB:=n2_;clear n0_ n1_ n2_;(try clear hb);(try clear hb2);(try clear hk);(try clear hi);have hcz30_0 : w29.cell? ⟨gb216,0,none⟩=some (.int .i64 a0_0):=(Zb BK216.out 0).trans rfl;have hcz30_1 : w29.cell? ⟨gb216,1,none⟩=some (.int .i64 a0_1):=(Zb BK216.out 1).trans rfl;have hcz30_2 : w29.cell? ⟨gb216,2,none⟩=some (.int .i64 a0_2):=(Zb BK216.out 2).trans rfl;have hcz30_3 : w29.cell? ⟨gb216,3,none⟩=some (.int .i64 a0_3):=(Zb BK216.out 3).trans rfl;have hcz30_4 : w29.cell? ⟨gb216,4,none⟩=some (.int .i64 a0_4):=(Zb BK216.out 4).trans rfl;have hcz30_5 : w29.cell? ⟨gb216,5,none⟩=some (.int .i64 a0_5):=(Zb BK216.out 5).trans rfl;have hcz30_6 : w29.cell? ⟨gb216,6,none⟩=some (.int .i64 a0_6):=(Zb BK216.out 6).trans rfl;have hcz30_7 : w29.cell? ⟨gb216,7,none⟩=some (.int .u8 a0_7):=(Zb BK216.out 7).trans rfl;have hfz30_0:=Za BK216.out 0;have hfz30_1:=Za BK216.out 1;have hfz30_2:=Za BK216.out 2;have hfz30_3:=Za BK216.out 3;have hfz30_4:=Za BK216.out 4;have hfz30_5:=Za BK216.out 5;have hfz30_6:=Za BK216.out 6;have hfz30_7:=Za BK216.out 7))
            repeat (go_quiet (first|(go_at_call 41;(with_reducible refine (Yf.calls a0_0 a0_1 a0_2 a0_3 a0_4 a0_5 a0_6 a0_7 (rd l1 x46_2) false _ A18.out).mono ?_);rintro e w29 ⟨rfl,hb⟩;have n0_:=Zf.mk (Kd.Z9 (by (with_reducible repeat (first|apply Kd.Zv|apply Kd.Zu|apply Kd.Zz));exact HO_9.out) hb);have n1_:=Zf.mk (Zw (g:=gb216) (o:=.cells #[.int .i64 a0_0,.int .i64 a0_1,.int .i64 a0_2,.int .i64 a0_3,.int .i64 a0_4,.int .i64 a0_5,.int .i64 a0_6,.int .u8 a0_7] 51 (0,0)) (by (with_reducible repeat (first|refine Zk ?_ _|refine Zn ?_|refine Zl ?_ _));exact BK216.out) hb);have n2_:=Zf.mk (Zm (by repeat (first|(with_reducible first|exact HB.out|apply Ze|apply Zc|apply Zd|refine Zg ?_ GE216.out)|exact HB.out)) hb);clear HO_9;clear BK216;clear HB;have HO_9:=n0_;have BK216:=n1_;have HB:=n2_;clear n0_ n1_ n2_;(try clear hb);(try clear hb2);(try clear hk);(try clear hi);have hcz30_0 : w29.cell? ⟨gb216,0,none⟩=some (.int .i64 a0_0):=(Zb BK216.out 0).trans rfl;have hcz30_1 : w29.cell? ⟨gb216,1,none⟩=some (.int .i64 a0_1):=(Zb BK216.out 1).trans rfl;have hcz30_2 : w29.cell? ⟨gb216,2,none⟩=some (.int .i64 a0_2):=(Zb BK216.out 2).trans rfl;have hcz30_3 : w29.cell? ⟨gb216,3,none⟩=some (.int .i64 a0_3):=(Zb BK216.out 3).trans rfl;have hcz30_4 : w29.cell? ⟨gb216,4,none⟩=some (.int .i64 a0_4):=(Zb BK216.out 4).trans rfl;have hcz30_5 : w29.cell? ⟨gb216,5,none⟩=some (.int .i64 a0_5):=(Zb BK216.out 5).trans rfl;have hcz30_6 : w29.cell? ⟨gb216,6,none⟩=some (.int .i64 a0_6):=(Zb BK216.out 6).trans rfl;have hcz30_7 : w29.cell? ⟨gb216,7,none⟩=some (.int .u8 a0_7):=(Zb BK216.out 7).trans rfl;have hfz30_0:=Za BK216.out 0;have hfz30_1:=Za BK216.out 1;have hfz30_2:=Za BK216.out 2;have hfz30_3:=Za BK216.out 3;have hfz30_4:=Za BK216.out 4;have hfz30_5:=Za BK216.out 5;have hfz30_6:=Za BK216.out 6;have hfz30_7:=Za BK216.out 7));try go_wp2_with (first|(go_at_call 41;(with_reducible refine (Yf.calls a0_0 a0_1 a0_2 a0_3 a0_4 a0_5 a0_6 a0_7 (rd l1 x46_2) false _ A18.out).mono ?_);rintro e w29 ⟨rfl,hb⟩;have n0_:=Zf.mk (Kd.Z9 (by (with_reducible repeat (first|apply Kd.Zv|apply Kd.Zu|apply Kd.Zz));exact HO_9.out) hb);have n1_:=Zf.mk (Zw (g:=gb216) (o:=.cells #[.int .i64 a0_0,.int .i64 a0_1,.int .i64 a0_2,.int .i64 a0_3,.int .i64 a0_4,.int .i64 a0_5,.int .i64 a0_6,.int .u8 a0_7] 51 (0,0)) (by (with_reducible repeat (first|refine Zk ?_ _|refine Zn ?_|refine Zl ?_ _));exact BK216.out) hb);have n2_:=Zf.mk (Zm (by repeat (first|(with_reducible first|exact HB.out|apply Ze|apply Zc|apply Zd|refine Zg ?_ GE216.out)|exact HB.out)) hb);clear HO_9;clear BK216;clear HB;have HO_9:=n0_;have BK216:=n1_;have HB:=n2_;clear n0_ n1_ n2_;(try clear hb);(try clear hb2);(try clear hk);(try clear hi);have hcz30_0 : w29.cell? ⟨gb216,0,none⟩=some (.int .i64 a0_0):=(Zb BK216.out 0).trans rfl;have hcz30_1 : w29.cell? ⟨gb216,1,none⟩=some (.int .i64 a0_1):=(Zb BK216.out 1).trans rfl;have hcz30_2 : w29.cell? ⟨gb216,2,none⟩=some (.int .i64 a0_2):=(Zb BK216.out 2).trans rfl;have hcz30_3 : w29.cell? ⟨gb216,3,none⟩=some (.int .i64 a0_3):=(Zb BK216.out 3).trans rfl;have hcz30_4 : w29.cell? ⟨gb216,4,none⟩=some (.int .i64 a0_4):=(Zb BK216.out 4).trans rfl;have hcz30_5 : w29.cell? ⟨gb216,5,none⟩=some (.int .i64 a0_5):=(Zb BK216.out 5).trans rfl;have hcz30_6 : w29.cell? ⟨gb216,6,none⟩=some (.int .i64 a0_6):=(Zb BK216.out 6).trans rfl;have hcz30_7 : w29.cell? ⟨gb216,7,none⟩=some (.int .u8 a0_7):=(Zb BK216.out 7).trans rfl;have hfz30_0:=Za BK216.out 0;have hfz30_1:=Za BK216.out 1;have hfz30_2:=Za BK216.out 2;have hfz30_3:=Za BK216.out 3;have hfz30_4:=Za BK216.out 4;have hfz30_5:=Za BK216.out 5;have hfz30_6:=Za BK216.out 6;have hfz30_7:=Za BK216.out 7)))
            go_roundg k2
            case measure => have:=HK1.out;have:=HK2.out;omega
            case rel => exact ⟨(x9_2),(wrap64 (x46_2 + 1)),(by first|rfl|(simp;done)|(simp [*];done)),H',⟨by have:=HK1.out;have:=HK2.out;omega⟩,⟨by (with_reducible repeat (first|apply Kd.Zv|apply Kd.Zu|apply Kd.Zz));exact HO_9.out⟩,⟨by (with_reducible repeat (first|refine Zk ?_ _|refine Zn ?_|refine Zl ?_ _));exact BK216.out⟩,⟨by repeat (first|(with_reducible first|exact HB.out|apply Ze|apply Zc|apply Zd|refine Zg ?_ GE216.out)|exact HB.out)⟩⟩
         ·rw [if_neg c17] at H
          exact absurd H (by simp)
        ·rw [if_neg c16] at H
         exact absurd H (by simp)
       ·rw [if_neg c15] at H
        have c15b0 : decide (x46_2 < (l1.length : Int))=false:=decide_eq_false c15
        clear c15
        have HC31:=Zf.mk H
        clear H
        obtain ⟨Ao32,co32,eo32⟩:=Kd.R_slice HO_9.out
        subst eo32
        go_upto_if 69 with (fail)
        repeat (go_quiet (fail);go_upto_if 69 with (fail))
        go_cut [9] (fun v9 wc => ∃ (kq : Nat) (x9_30 : List Int),Zf (Zh.j2 kq l1 x9_30 (x9_2.length : Int) a0_0 a0_1 a0_2 a0_3 a0_4 a0_5 a0_6 a0_7=some (r1,r2,r3))∧Zf (kq≤k2)∧Zf (Kd.R (Kd.int .u8) 5 wc w.heap.size (fun _ => True) v9 x9_30)∧Zf (wc.heap[gb216]?=some (.cells #[.int .i64 a0_0,.int .i64 a0_1,.int .i64 a0_2,.int .i64 a0_3,.int .i64 a0_4,.int .i64 a0_5,.int .i64 a0_6,.int .u8 a0_7] 51 (0,0)))∧Zf (Below w.heap.size w wc))
        case first =>
         have H:=HC31.out
         clear HC31
         by_cases c33 : (x9_2.length : Int) > 0
         ·rw [if_pos c33] at H
          have c33b0 : decide (0 < (x9_2.length : Int))=true:=decide_eq_true c33
          have c33b1 : decide (0 < x9_2.length)=true:=decide_eq_true (by omega)
          clear c33
          (first|rw [c33b0]|rw [c33b1]|(simp only [i64_w,i32_w];rw [c33b0])|skip)
          by_cases c34 : x9_2.length < 140737488355328
          ·rw [if_pos c34] at H
           have LMc34:=Zf.mk c34
           clear c34
           obtain ⟨y228,hy228⟩ : ∃ y_ : List Int,y_=(x9_2++[a0_7]):=⟨_,rfl⟩
           replace H : (Zh.j2 k2 l1 y228 (x9_2.length : Int) a0_0 a0_1 a0_2 a0_3 a0_4 a0_5 a0_6 a0_7)=some (r1,r2,r3):=by first|(rw [hy228];with_reducible exact H)|(have H2_:=(Option.bind_some _ _).symm.trans H;rw [hy228];with_reducible exact H2_)|(have H2_:=(Option.bind_some _ _).symm.trans H;with_reducible exact H2_)|with_reducible exact H|(rw [hy228];exact H)|exact H
           have Ny228:=Zf.mk hy228
           clear hy228
           have H':=Zf.mk H
           clear H
           have hcz35_0 : wr.cell? ⟨gb216,0,none⟩=some (.int .i64 a0_0):=(Zb BK216.out 0).trans rfl
           have hcz35_1 : wr.cell? ⟨gb216,1,none⟩=some (.int .i64 a0_1):=(Zb BK216.out 1).trans rfl
           have hcz35_2 : wr.cell? ⟨gb216,2,none⟩=some (.int .i64 a0_2):=(Zb BK216.out 2).trans rfl
           have hcz35_3 : wr.cell? ⟨gb216,3,none⟩=some (.int .i64 a0_3):=(Zb BK216.out 3).trans rfl
           have hcz35_4 : wr.cell? ⟨gb216,4,none⟩=some (.int .i64 a0_4):=(Zb BK216.out 4).trans rfl
           have hcz35_5 : wr.cell? ⟨gb216,5,none⟩=some (.int .i64 a0_5):=(Zb BK216.out 5).trans rfl
           have hcz35_6 : wr.cell? ⟨gb216,6,none⟩=some (.int .i64 a0_6):=(Zb BK216.out 6).trans rfl
           have hcz35_7 : wr.cell? ⟨gb216,7,none⟩=some (.int .u8 a0_7):=(Zb BK216.out 7).trans rfl
           have hfz35_0:=Za BK216.out 0
           have hfz35_1:=Za BK216.out 1
           have hfz35_2:=Za BK216.out 2
           have hfz35_3:=Za BK216.out 3
           have hfz35_4:=Za BK216.out 4
           have hfz35_5:=Za BK216.out 5
           have hfz35_6:=Za BK216.out 6
           have hfz35_7:=Za BK216.out 7
           go_wp2_with (first|((with_reducible refine gate_builtin (b:=.append) (xs:=#[.tmp 70,.tmp 73]) rfl ?_);at_builtin;refine Kd.R_append (Kd.int .u8) (w0:=w) w.heap.size rfl (.tmp 70) (.tmp 73) 35 5 (.int .u8 0) 1 rfl Tryd.underlying35 info5 rfl (by decide) (by omega) (.slice Ao32 x9_2.length co32) x9_2 a0_7 [.int .u8 a0_7] (fun _ => True) (fun _ => False) rfl rfl ?aP (fun _ hk => hk.elim) ?aF ?aO ?aB ?aS ?aL ?_;(case aP => exact rfl);(case aB => exact (by repeat (first|(with_reducible first|exact HB.out|apply Ze|apply Zc|apply Zd|refine Zg ?_ GE216.out)|exact HB.out)));(case aF => exact (fun _ _ => trivial));(case aO => exact (by (with_reducible repeat (first|apply Kd.Zv|apply Kd.Zu|apply Kd.Zz));exact HO_9.out));(case aS => exact (Zo (by repeat (first|(with_reducible first|exact HB.out|apply Ze|apply Zc|apply Zd|refine Zg ?_ GE216.out)|exact HB.out))));(case aL => have:=LMc34.out;omega);intro v229 w36 ho hb hg hat;rw [← Ny228.out] at ho;have n0_:=Zf.mk (blk_grown (g:=gb216) (o:=.cells #[.int .i64 a0_0,.int .i64 a0_1,.int .i64 a0_2,.int .i64 a0_3,.int .i64 a0_4,.int .i64 a0_5,.int .i64 a0_6,.int .u8 a0_7] 51 (0,0)) (by (with_reducible repeat (first|refine Zk ?_ _|refine Zn ?_|refine Zl ?_ _));exact BK216.out) hg (Kd.R_ne HO_9.out BK216.out (by decide)));have n1_:=Zf.mk (hb);have n2_:=Zf.mk (ho);clear BK216;clear HB;clear HO_9;have BK216:=n0_;have HB:=n1_;have HO230:=n2_;clear n0_ n1_ n2_;clear ho hb hg hat))
           repeat (go_quiet (first|((with_reducible refine gate_builtin (b:=.append) (xs:=#[.tmp 70,.tmp 73]) rfl ?_);at_builtin;refine Kd.R_append (Kd.int .u8) (w0:=w) w.heap.size rfl (.tmp 70) (.tmp 73) 35 5 (.int .u8 0) 1 rfl Tryd.underlying35 info5 rfl (by decide) (by omega) (.slice Ao32 x9_2.length co32) x9_2 a0_7 [.int .u8 a0_7] (fun _ => True) (fun _ => False) rfl rfl ?aP (fun _ hk => hk.elim) ?aF ?aO ?aB ?aS ?aL ?_;(case aP => exact rfl);(case aB => exact (by repeat (first|(with_reducible first|exact HB.out|apply Ze|apply Zc|apply Zd|refine Zg ?_ GE216.out)|exact HB.out)));(case aF => exact (fun _ _ => trivial));(case aO => exact (by (with_reducible repeat (first|apply Kd.Zv|apply Kd.Zu|apply Kd.Zz));exact HO_9.out));(case aS => exact (Zo (by repeat (first|(with_reducible first|exact HB.out|apply Ze|apply Zc|apply Zd|refine Zg ?_ GE216.out)|exact HB.out))));(case aL => have:=LMc34.out;omega);intro v229 w36 ho hb hg hat;rw [← Ny228.out] at ho;have n0_:=Zf.mk (blk_grown (g:=gb216) (o:=.cells #[.int .i64 a0_0,.int .i64 a0_1,.int .i64 a0_2,.int .i64 a0_3,.int .i64 a0_4,.int .i64 a0_5,.int .i64 a0_6,.int .u8 a0_7] 51 (0,0)) (by (with_reducible repeat (first|refine Zk ?_ _|refine Zn ?_|refine Zl ?_ _));exact BK216.out) hg (Kd.R_ne HO_9.out BK216.out (by decide)));have n1_:=Zf.mk (hb);have n2_:=Zf.mk (ho);clear BK216;clear HB;clear HO_9;have BK216:=n0_;have HB:=n1_;have HO230:=n2_;clear n0_ n1_ n2_;clear ho hb hg hat));try go_wp2_with (first|((with_reducible refine gate_builtin (b:=.append) (xs:=#[.tmp 70,.tmp 73]) rfl ?_);at_builtin;refine Kd.R_append (Kd.int .u8) (w0:=w) w.heap.size rfl (.tmp 70) (.tmp 73) 35 5 (.int .u8 0) 1 rfl Tryd.underlying35 info5 rfl (by decide) (by omega) (.slice Ao32 x9_2.length co32) x9_2 a0_7 [.int .u8 a0_7] (fun _ => True) (fun _ => False) rfl rfl ?aP (fun _ hk => hk.elim) ?aF ?aO ?aB ?aS ?aL ?_;(case aP => exact rfl);(case aB => exact (by repeat (first|(with_reducible first|exact HB.out|apply Ze|apply Zc|apply Zd|refine Zg ?_ GE216.out)|exact HB.out)));(case aF => exact (fun _ _ => trivial));(case aO => exact (by (with_reducible repeat (first|apply Kd.Zv|apply Kd.Zu|apply Kd.Zz));exact HO_9.out));(case aS => exact (Zo (by repeat (first|(with_reducible first|exact HB.out|apply Ze|apply Zc|apply Zd|refine Zg ?_ GE216.out)|exact HB.out))));(case aL => have:=LMc34.out;omega);intro v229 w36 ho hb hg hat;rw [← Ny228.out] at ho;have n0_:=Zf.mk (blk_grown (g:=gb216) (o:=.cells #[.int .i64 a0_0,.int .i64 a0_1,.int .i64 a0_2,.int .i64 a0_3,.int .i64 a0_4,.int .i64 a0_5,.int .i64 a0_6,.int .u8 a0_7] 51 (0,0)) (by (with_reducible repeat (first|refine Zk ?_ _|refine Zn ?_|refine Zl ?_ _));exact BK216.out) hg (Kd.R_ne HO_9.out BK216.out (by decide)));have n1_:=Zf.mk (hb);have n2_:=Zf.mk (ho);clear BK216;clear HB;clear HO_9;have BK216:=n0_;have HB:=n1_;have HO230:=n2_;clear n0_ n1_ n2_;clear ho hb hg hat)))
           go_meet
           case rel => exact ⟨_,(y228),H',⟨by have:=HK1.out;have:=HK2.out;first|omega|exact Nat.le_refl _⟩,⟨by (with_reducible repeat (first|apply Kd.Zv|apply Kd.Zu|apply Kd.Zz));exact HO230.out⟩,⟨by (with_reducible repeat (first|refine Zk ?_ _|refine Zn ?_|refine Zl ?_ _));exact BK216.out⟩,⟨by repeat (first|(with_reducible first|exact HB.out|apply Ze|apply Zc|apply Zd|refine Zg ?_ GE216.out)|exact HB.out)⟩⟩
          ·rw [if_neg c34] at H
           exact absurd H (by simp)
         ·rw [if_neg c33] at H
          have c33b0 : decide (0 < (x9_2.length : Int))=false:=decide_eq_false c33
          have c33b1 : decide (0 < x9_2.length)=false:=decide_eq_false (by omega)
          clear c33
          (first|rw [c33b0]|rw [c33b1]|(simp only [i64_w,i32_w];rw [c33b0])|skip)
          have H':=Zf.mk H
          clear H
          go_wp2
          repeat (go_quiet (fail);try go_wp2)
          go_meet
          case rel => exact ⟨_,(x9_2),H',⟨by have:=HK1.out;have:=HK2.out;first|omega|exact Nat.le_refl _⟩,⟨by (with_reducible repeat (first|apply Kd.Zv|apply Kd.Zu|apply Kd.Zz));exact HO_9.out⟩,⟨by (with_reducible repeat (first|refine Zk ?_ _|refine Zn ?_|refine Zl ?_ _));exact BK216.out⟩,⟨by repeat (first|(with_reducible first|exact HB.out|apply Ze|apply Zc|apply Zd|refine Zg ?_ GE216.out)|exact HB.out)⟩⟩
        case rest =>
         clear HC31
         try clear c1
         try clear c2
         try clear p2
         try clear q2
         try clear hx2
         try clear c3
         try clear c4
         try clear p6
         try clear c8
         try clear c8b0
         try clear c9
         try clear c9b0
         try clear c10
         try clear c10b0
         try clear c12
         try clear c15
         try clear c15b0
         try clear c16
         try clear c16b0
         try clear c17
         try clear c17b0
         try clear c19
         try clear c20
         try clear p21
         try clear q21
         try clear hx21
         try clear p22
         try clear q22
         try clear hx22
         try clear c24
         try clear c24b0
         try clear c28
         try clear c33
         try clear c33b0
         try clear c33b1
         try clear c34
         try clear hcz21_0
         try clear hcz21_1
         try clear hcz21_2
         try clear hcz21_3
         try clear hcz21_4
         try clear hcz21_5
         try clear hcz21_6
         try clear hcz21_7
         try clear hcz25_0
         try clear hcz25_1
         try clear hcz25_2
         try clear hcz25_3
         try clear hcz25_4
         try clear hcz25_5
         try clear hcz25_6
         try clear hcz25_7
         try clear hcz27_0
         try clear hcz27_1
         try clear hcz27_2
         try clear hcz27_3
         try clear hcz27_4
         try clear hcz27_5
         try clear hcz27_6
         try clear hcz27_7
         try clear hcz28_0
         try clear hcz28_1
         try clear hcz28_2
         try clear hcz28_3
         try clear hcz28_4
         try clear hcz28_5
         try clear hcz28_6
         try clear hcz28_7
         try clear hcz30_0
         try clear hcz30_1
         try clear hcz30_2
         try clear hcz30_3
         try clear hcz30_4
         try clear hcz30_5
         try clear hcz30_6
         try clear hcz30_7
         try clear hcz35_0
         try clear hcz35_1
         try clear hcz35_2
         try clear hcz35_3
         try clear hcz35_4
         try clear hcz35_5
         try clear hcz35_6
         try clear hcz35_7
         try clear hcz6_0
         try clear hcz6_1
         try clear hcz6_2
         try clear hcz6_3
         try clear hcz6_4
         try clear hcz6_5
         try clear hcz6_6
         try clear hcz6_7
         try clear hfz21_0
         try clear hfz21_1
         try clear hfz21_2
         try clear hfz21_3
         try clear hfz21_4
         try clear hfz21_5
         try clear hfz21_6
         try clear hfz21_7
         try clear hfz25_0
         try clear hfz25_1
         try clear hfz25_2
         try clear hfz25_3
         try clear hfz25_4
         try clear hfz25_5
         try clear hfz25_6
         try clear hfz25_7
         try clear hfz27_0
         try clear hfz27_1
         try clear hfz27_2
         try clear hfz27_3
         try clear hfz27_4
         try clear hfz27_5
         try clear hfz27_6
         try clear hfz27_7
         try clear hfz28_0
         try clear hfz28_1
         try clear hfz28_2
         try clear hfz28_3
         try clear hfz28_4
         try clear hfz28_5
         try clear hfz28_6
         try clear hfz28_7
         try clear hfz30_0
         try clear hfz30_1
         try clear hfz30_2
         try clear hfz30_3
         try clear hfz30_4
         try clear hfz30_5
         try clear hfz30_6
         try clear hfz30_7
         try clear hfz35_0
         try clear hfz35_1
         try clear hfz35_2
         try clear hfz35_3
         try clear hfz35_4
         try clear hfz35_5
         try clear hfz35_6
         try clear hfz35_7
         try clear hfz6_0
         try clear hfz6_1
         try clear hfz6_2
         try clear hfz6_3
         try clear hfz6_4
         try clear hfz6_5
         try clear hfz6_6
         try clear hfz6_7
         try clear hx218_0
         try clear hx223_0
         try clear p2
         try clear p218
         try clear p223
         try clear p6
         try clear q2
         try clear q218
         try clear q223
         obtain ⟨kq,x9_30,HA,HJ30,HO_9,BK216,HB⟩:=hcut
         cases kq with
         | zero => exact absurd HA.out (by simp [Zh.j2])
         | succ kj30 =>
          have H:=HA.out
          clear HA
          simp only [Zh.j2] at H
          have H':=Zf.mk H
          clear H
          have hcz37_0 : wc.cell? ⟨gb216,0,none⟩=some (.int .i64 a0_0):=(Zb BK216.out 0).trans rfl
          have hcz37_1 : wc.cell? ⟨gb216,1,none⟩=some (.int .i64 a0_1):=(Zb BK216.out 1).trans rfl
          have hcz37_2 : wc.cell? ⟨gb216,2,none⟩=some (.int .i64 a0_2):=(Zb BK216.out 2).trans rfl
          have hcz37_3 : wc.cell? ⟨gb216,3,none⟩=some (.int .i64 a0_3):=(Zb BK216.out 3).trans rfl
          have hcz37_4 : wc.cell? ⟨gb216,4,none⟩=some (.int .i64 a0_4):=(Zb BK216.out 4).trans rfl
          have hcz37_5 : wc.cell? ⟨gb216,5,none⟩=some (.int .i64 a0_5):=(Zb BK216.out 5).trans rfl
          have hcz37_6 : wc.cell? ⟨gb216,6,none⟩=some (.int .i64 a0_6):=(Zb BK216.out 6).trans rfl
          have hcz37_7 : wc.cell? ⟨gb216,7,none⟩=some (.int .u8 a0_7):=(Zb BK216.out 7).trans rfl
          have hfz37_0:=Za BK216.out 0
          have hfz37_1:=Za BK216.out 1
          have hfz37_2:=Za BK216.out 2
          have hfz37_3:=Za BK216.out 3
          have hfz37_4:=Za BK216.out 4
          have hfz37_5:=Za BK216.out 5
          have hfz37_6:=Za BK216.out 6
          have hfz37_7:=Za BK216.out 7
          go_wp2
          repeat (go_quiet (fail);try go_wp2)
          go_loopg [9,13,14,15,16] kj30 (fun kq v9 v13 v14 v15 v16 w' => ∃ (x9_4 : List Int) (x13_4 : Int) (x14_4 : Int) (x15_4 : Int) (x16_4 : Int),v13=.int .i64 x13_4∧v14=.int .i64 x14_4∧v15=.int .i64 x15_4∧v16=.int .i64 x16_4∧Zf (Zh.l2 kq l1 x9_4 (x9_2.length : Int) x13_4 x14_4 x15_4 x16_4 a0_0 a0_1 a0_2 a0_3 a0_4 a0_5 a0_6 a0_7=some (r1,r2,r3))∧Zf (kq≤kj30)∧Zf (Kd.R (Kd.int .u8) 5 w' w.heap.size (fun _ => True) v9 x9_4)∧Zf (w'.heap[gb216]?=some (.cells #[.int .i64 a0_0,.int .i64 a0_1,.int .i64 a0_2,.int .i64 a0_3,.int .i64 a0_4,.int .i64 a0_5,.int .i64 a0_6,.int .u8 a0_7] 51 (0,0)))∧Zf (Below w.heap.size w w'))
          case atStart => exact ⟨(x9_30),(a0_6),(0),(a0_5),((x9_2.length : Int)),(by first|rfl|(simp;done)|(simp [*];done)),(by first|rfl|(simp;done)|(simp [*];done)),(by first|rfl|(simp;done)|(simp [*];done)),(by first|rfl|(simp;done)|(simp [*];done)),H',⟨Nat.le_refl _⟩,⟨by (with_reducible repeat (first|apply Kd.Zv|apply Kd.Zu|apply Kd.Zz));exact HO_9.out⟩,⟨by (with_reducible repeat (first|refine Zk ?_ _|refine Zn ?_|refine Zl ?_ _));exact BK216.out⟩,⟨by repeat (first|(with_reducible first|exact HB.out|apply Ze|apply Zc|apply Zd|refine Zg ?_ GE216.out)|exact HB.out)⟩⟩
          case round =>
           clear H'
           try clear c1
           try clear c2
           try clear p2
           try clear q2
           try clear hx2
           try clear c3
           try clear c4
           try clear p6
           try clear c8
           try clear c8b0
           try clear c9
           try clear c9b0
           try clear c10
           try clear c10b0
           try clear c12
           try clear c15
           try clear c15b0
           try clear c16
           try clear c16b0
           try clear c17
           try clear c17b0
           try clear c19
           try clear c20
           try clear p21
           try clear q21
           try clear hx21
           try clear p22
           try clear q22
           try clear hx22
           try clear c24
           try clear c24b0
           try clear c28
           try clear c33
           try clear c33b0
           try clear c33b1
           try clear c34
           try clear hcz21_0
           try clear hcz21_1
           try clear hcz21_2
           try clear hcz21_3
           try clear hcz21_4
           try clear hcz21_5
           try clear hcz21_6
           try clear hcz21_7
           try clear hcz25_0
           try clear hcz25_1
           try clear hcz25_2
           try clear hcz25_3
           try clear hcz25_4
           try clear hcz25_5
           try clear hcz25_6
           try clear hcz25_7
           try clear hcz27_0
           try clear hcz27_1
           try clear hcz27_2
           try clear hcz27_3
           try clear hcz27_4
           try clear hcz27_5
           try clear hcz27_6
           try clear hcz27_7
           try clear hcz28_0
           try clear hcz28_1
           try clear hcz28_2
           try clear hcz28_3
           try clear hcz28_4
           try clear hcz28_5
           try clear hcz28_6
           try clear hcz28_7
           try clear hcz30_0
           try clear hcz30_1
           try clear hcz30_2
           try clear hcz30_3
           try clear hcz30_4
           try clear hcz30_5
           try clear hcz30_6
           try clear hcz30_7
           try clear hcz35_0
           try clear hcz35_1
           try clear hcz35_2
           try clear hcz35_3
           try clear hcz35_4
           try clear hcz35_5
           try clear hcz35_6
           try clear hcz35_7
           try clear hcz37_0
           try clear hcz37_1
           try clear hcz37_2
           try clear hcz37_3
           try clear hcz37_4
           try clear hcz37_5
           try clear hcz37_6
           try clear hcz37_7
           try clear hcz6_0
           try clear hcz6_1
           try clear hcz6_2
           try clear hcz6_3
           try clear hcz6_4
           try clear hcz6_5
           try clear hcz6_6
           try clear hcz6_7
           try clear hfz21_0
           try clear hfz21_1
           try clear hfz21_2
           try clear hfz21_3
           try clear hfz21_4
           try clear hfz21_5
           try clear hfz21_6
           try clear hfz21_7
           try clear hfz25_0
           try clear hfz25_1
           try clear hfz25_2
           try clear hfz25_3
           try clear hfz25_4
           try clear hfz25_5
           try clear hfz25_6
           try clear hfz25_7
           try clear hfz27_0
           try clear hfz27_1
           try clear hfz27_2
           try clear hfz27_3
           try clear hfz27_4
           try clear hfz27_5
           try clear hfz27_6
           try clear hfz27_7
           try clear hfz28_0
           try clear hfz28_1
           try clear hfz28_2
           try clear hfz28_3
           try clear hfz28_4
           try clear hfz28_5
           try clear hfz28_6
           try clear hfz28_7
           try clear hfz30_0
           try clear hfz30_1
           try clear hfz30_2
           try clear hfz30_3
           try clear hfz30_4
           try clear hfz30_5
           try clear hfz30_6
           try clear hfz30_7
           try clear hfz35_0
           try clear hfz35_1
           try clear hfz35_2
           try clear hfz35_3
           try clear hfz35_4
           try clear hfz35_5
           try clear hfz35_6
           try clear hfz35_7
           try clear hfz37_0
           try clear hfz37_1
           try clear hfz37_2
           try clear hfz37_3
           try clear hfz37_4
           try clear hfz37_5
           try clear hfz37_6
           try clear hfz37_7
           try clear hfz6_0
           try clear hfz6_1
           try clear hfz6_2
           try clear hfz6_3
           try clear hfz6_4
           try clear hfz6_5
           try clear hfz6_6
           try clear hfz6_7
           try clear hx218_0
           try clear hx223_0
           try clear p2
           try clear p21
           try clear p218
           try clear p22
           try clear p223
           try clear p6
           try clear q2
           try clear q21
           try clear q218
           try clear q22
           try clear q223
           obtain ⟨x9_4,x13_4,x14_4,x15_4,x16_4,rfl,rfl,rfl,rfl,HA,HK4,HO_9,BK216,HB⟩:=hrel
           cases gk with
           | zero => exact absurd HA.out (by simp [Zh.l2])
           | succ k4 =>
            have H:=HA.out
            clear HA
            simp only [Zh.l2] at H
            by_cases c38 : x16_4 < (l1.length : Int)
            ·rw [if_pos c38] at H
             have c38b0 : decide (x16_4 < (l1.length : Int))=true:=decide_eq_true c38
             clear c38
             have H':=Zf.mk H
             clear H
             go_wp2
             repeat (go_quiet (fail);try go_wp2)
             go_loopg [17,86] k4 (fun kq v17 v86 w' => ∃ (x17_5 : Int) (x86_5 : Int),v17=.int .i64 x17_5∧v86=.int .i64 x86_5∧Zf (Zh.l3 kq l1 x9_4 (x9_2.length : Int) x13_4 x14_4 x15_4 x16_4 x17_5 l1 (l1.length : Int) x86_5 a0_0 a0_1 a0_2 a0_3 a0_4 a0_5 a0_6 a0_7=some (r1,r2,r3))∧Zf (kq≤k4)∧Zf (Kd.R (Kd.int .u8) 5 w' w.heap.size (fun _ => True) u9 x9_4)∧Zf (w'.heap[gb216]?=some (.cells #[.int .i64 a0_0,.int .i64 a0_1,.int .i64 a0_2,.int .i64 a0_3,.int .i64 a0_4,.int .i64 a0_5,.int .i64 a0_6,.int .u8 a0_7] 51 (0,0)))∧Zf (Below w.heap.size w w'))
             case atStart => exact ⟨(1114112),(0),(by first|rfl|(simp;done)|(simp [*];done)),(by first|rfl|(simp;done)|(simp [*];done)),H',⟨Nat.le_refl _⟩,⟨by (with_reducible repeat (first|apply Kd.Zv|apply Kd.Zu|apply Kd.Zz));exact HO_9.out⟩,⟨by (with_reducible repeat (first|refine Zk ?_ _|refine Zn ?_|refine Zl ?_ _));exact BK216.out⟩,⟨by repeat (first|(with_reducible first|exact HB.out|apply Ze|apply Zc|apply Zd|refine Zg ?_ GE216.out)|exact HB.out)⟩⟩
             case round =>
              clear H'
              try clear c1
              try clear c2
              try clear p2
              try clear q2
              try clear hx2
              try clear c3
              try clear c4
              try clear p6
              try clear c8
              try clear c8b0
              try clear c9
              try clear c9b0
              try clear c10
              try clear c10b0
              try clear c12
              try clear c15
              try clear c15b0
              try clear c16
              try clear c16b0
              try clear c17
              try clear c17b0
              try clear c19
              try clear c20
              try clear p21
              try clear q21
              try clear hx21
              try clear p22
              try clear q22
              try clear hx22
              try clear c24
              try clear c24b0
              try clear c28
              try clear c33
              try clear c33b0
              try clear c33b1
              try clear c34
              try clear c38
              try clear c38b0
              try clear hcz21_0
              try clear hcz21_1
              try clear hcz21_2
              try clear hcz21_3
              try clear hcz21_4
              try clear hcz21_5
              try clear hcz21_6
              try clear hcz21_7
              try clear hcz25_0
              try clear hcz25_1
              try clear hcz25_2
              try clear hcz25_3
              try clear hcz25_4
              try clear hcz25_5
              try clear hcz25_6
              try clear hcz25_7
              try clear hcz27_0
              try clear hcz27_1
              try clear hcz27_2
              try clear hcz27_3
              try clear hcz27_4
              try clear hcz27_5
              try clear hcz27_6
              try clear hcz27_7
              try clear hcz28_0
              try clear hcz28_1
              try clear hcz28_2
              try clear hcz28_3
              try clear hcz28_4
              try clear hcz28_5
              try clear hcz28_6
              try clear hcz28_7
              try clear hcz30_0
              try clear hcz30_1
              try clear hcz30_2
              try clear hcz30_3
              try clear hcz30_4
              try clear hcz30_5
              try clear hcz30_6
              try clear hcz30_7
              try clear hcz35_0
              try clear hcz35_1
              try clear hcz35_2
              try clear hcz35_3
              try clear hcz35_4
              try clear hcz35_5
              try clear hcz35_6
              try clear hcz35_7
              try clear hcz37_0
              try clear hcz37_1
              try clear hcz37_2
              try clear hcz37_3
              try clear hcz37_4
              try clear hcz37_5
              try clear hcz37_6
              try clear hcz37_7
              try clear hcz6_0
              try clear hcz6_1
              try clear hcz6_2
              try clear hcz6_3
              try clear hcz6_4
              try clear hcz6_5
              try clear hcz6_6
              try clear hcz6_7
              try clear hfz21_0
              try clear hfz21_1
              try clear hfz21_2
              try clear hfz21_3
              try clear hfz21_4
              try clear hfz21_5
              try clear hfz21_6
              try clear hfz21_7
              try clear hfz25_0
              try clear hfz25_1
              try clear hfz25_2
              try clear hfz25_3
              try clear hfz25_4
              try clear hfz25_5
              try clear hfz25_6
              try clear hfz25_7
              try clear hfz27_0
              try clear hfz27_1
              try clear hfz27_2
              try clear hfz27_3
              try clear hfz27_4
              try clear hfz27_5
              try clear hfz27_6
              try clear hfz27_7
              try clear hfz28_0
              try clear hfz28_1
              try clear hfz28_2
              try clear hfz28_3
              try clear hfz28_4
              try clear hfz28_5
              try clear hfz28_6
              try clear hfz28_7
              try clear hfz30_0
              try clear hfz30_1
              try clear hfz30_2
              try clear hfz30_3
              try clear hfz30_4
              try clear hfz30_5
              try clear hfz30_6
              try clear hfz30_7
              try clear hfz35_0
              try clear hfz35_1
              try clear hfz35_2
              try clear hfz35_3
              try clear hfz35_4
              try clear hfz35_5
              try clear hfz35_6
              try clear hfz35_7
              try clear hfz37_0
              try clear hfz37_1
              try clear hfz37_2
              try clear hfz37_3
              try clear hfz37_4
              try clear hfz37_5
              try clear hfz37_6
              try clear hfz37_7
              try clear hfz6_0
              try clear hfz6_1
              try clear hfz6_2
              try clear hfz6_3
              try clear hfz6_4
              try clear hfz6_5
              try clear hfz6_6
              try clear hfz6_7
              try clear hx218_0
              try clear hx223_0
              try clear p2
              try clear p21
              try clear p218
              try clear p22
              try clear p223
              try clear p6
              try clear q2
              try clear q21
              try clear q218
              try clear q22
              try clear q223
              obtain ⟨x17_5,x86_5,rfl,rfl,HA,HK5,HO_9,BK216,HB⟩:=hrel
              cases gk with
              | zero => exact absurd HA.out (by simp [Zh.l3])
              | succ k5 =>
               have H:=HA.out
               clear HA
               simp only [Zh.l3] at H
               by_cases c39 : x86_5 < (l1.length : Int)
               ·rw [if_pos c39] at H
                have c39b0 : decide (x86_5 < (l1.length : Int))=true:=decide_eq_true c39
                clear c39
                by_cases c40 : 0≤x86_5
                ·rw [if_pos c40] at H
                 have c40b0 : decide (0≤x86_5)=true:=decide_eq_true c40
                 clear c40
                 by_cases c41 : x86_5 < (l1.length : Int)
                 ·rw [if_pos c41] at H
                  have c41b0 : decide (x86_5 < (l1.length : Int))=true:=decide_eq_true c41
                  clear c41
                  by_cases c42 : (wrap64 (rd l1 x86_5)) ≥ x13_4
                  ·rw [if_pos c42] at H
                   have c42b0 : decide (x13_4≤(wrap64 (rd l1 x86_5)))=true:=decide_eq_true c42
                   clear c42
                   by_cases c43 : (wrap64 (rd l1 x86_5)) < x17_5
                   ·rw [if_pos c43] at H
                    have c43b0 : decide ((wrap64 (rd l1 x86_5)) < x17_5)=true:=decide_eq_true c43
                    clear c43
                    have H':=Zf.mk H
                    clear H
                    have p236 : 0≤(x86_5 : Int):=of_decide_eq_true (by first|(with_reducible assumption)|assumption)
                    have q236 : x86_5 < (l1.length : Int):=of_decide_eq_true (by first|(with_reducible assumption)|assumption)
                    obtain ⟨ad236,e236,hx236_0⟩:=Kd.at_int HR1.out x86_5 p236 q236
                    cases e236
                    replace hx236_0:=(HB.out.cell (World.block_lt_of_cell? w _ hx236_0)).trans hx236_0
                    replace p236:=eq_true p236
                    replace q236:=eq_true q236
                    go_wp2
                    repeat (go_quiet (fail);try go_wp2)
                    go_roundg k5
                    case measure => have:=HK1.out;have:=HK2.out;have:=HJ30.out;have:=HK4.out;have:=HK5.out;omega
                    case rel => exact ⟨(wrap64 (rd l1 x86_5)),(wrap64 (x86_5 + 1)),(by first|rfl|(simp;done)|(simp [*];done)),(by first|rfl|(simp;done)|(simp [*];done)),H',⟨by have:=HK1.out;have:=HK2.out;have:=HJ30.out;have:=HK4.out;have:=HK5.out;omega⟩,⟨by (with_reducible repeat (first|apply Kd.Zv|apply Kd.Zu|apply Kd.Zz));exact HO_9.out⟩,⟨by (with_reducible repeat (first|refine Zk ?_ _|refine Zn ?_|refine Zl ?_ _));exact BK216.out⟩,⟨by repeat (first|(with_reducible first|exact HB.out|apply Ze|apply Zc|apply Zd|refine Zg ?_ GE216.out)|exact HB.out)⟩⟩
                   ·rw [if_neg c43] at H
                    have c43b0 : decide ((wrap64 (rd l1 x86_5)) < x17_5)=false:=decide_eq_false c43
                    clear c43
                    have H':=Zf.mk H
                    clear H
                    have p236 : 0≤(x86_5 : Int):=of_decide_eq_true (by first|(with_reducible assumption)|assumption)
                    have q236 : x86_5 < (l1.length : Int):=of_decide_eq_true (by first|(with_reducible assumption)|assumption)
                    obtain ⟨ad236,e236,hx236_0⟩:=Kd.at_int HR1.out x86_5 p236 q236
                    cases e236
                    replace hx236_0:=(HB.out.cell (World.block_lt_of_cell? w _ hx236_0)).trans hx236_0
                    replace p236:=eq_true p236
                    replace q236:=eq_true q236
                    go_wp2
                    repeat (go_quiet (fail);try go_wp2)
                    go_roundg k5
                    case measure => have:=HK1.out;have:=HK2.out;have:=HJ30.out;have:=HK4.out;have:=HK5.out;omega
                    case rel => exact ⟨(x17_5),(wrap64 (x86_5 + 1)),(by first|rfl|(simp;done)|(simp [*];done)),(by first|rfl|(simp;done)|(simp [*];done)),H',⟨by have:=HK1.out;have:=HK2.out;have:=HJ30.out;have:=HK4.out;have:=HK5.out;omega⟩,⟨by (with_reducible repeat (first|apply Kd.Zv|apply Kd.Zu|apply Kd.Zz));exact HO_9.out⟩,⟨by (with_reducible repeat (first|refine Zk ?_ _|refine Zn ?_|refine Zl ?_ _));exact BK216.out⟩,⟨by repeat (first|(with_reducible first|exact HB.out|apply Ze|apply Zc|apply Zd|refine Zg ?_ GE216.out)|exact HB.out)⟩⟩
                  ·rw [if_neg c42] at H
                   have c42b0 : decide (x13_4≤(wrap64 (rd l1 x86_5)))=false:=decide_eq_false c42
                   clear c42
                   have H':=Zf.mk H
                   clear H
                   have p236 : 0≤(x86_5 : Int):=of_decide_eq_true (by first|(with_reducible assumption)|assumption)
                   have q236 : x86_5 < (l1.length : Int):=of_decide_eq_true (by first|(with_reducible assumption)|assumption)
                   obtain ⟨ad236,e236,hx236_0⟩:=Kd.at_int HR1.out x86_5 p236 q236
                   cases e236
                   replace hx236_0:=(HB.out.cell (World.block_lt_of_cell? w _ hx236_0)).trans hx236_0
                   replace p236:=eq_true p236
                   replace q236:=eq_true q236
                   go_wp2
                   repeat (go_quiet (fail);try go_wp2)
                   go_roundg k5
                   case measure => have:=HK1.out;have:=HK2.out;have:=HJ30.out;have:=HK4.out;have:=HK5.out;omega
                   case rel => exact ⟨(x17_5),(wrap64 (x86_5 + 1)),(by first|rfl|(simp;done)|(simp [*];done)),(by first|rfl|(simp;done)|(simp [*];done)),H',⟨by have:=HK1.out;have:=HK2.out;have:=HJ30.out;have:=HK4.out;have:=HK5.out;omega⟩,⟨by (with_reducible repeat (first|apply Kd.Zv|apply Kd.Zu|apply Kd.Zz));exact HO_9.out⟩,⟨by (with_reducible repeat (first|refine Zk ?_ _|refine Zn ?_|refine Zl ?_ _));exact BK216.out⟩,⟨by repeat (first|(with_reducible first|exact HB.out|apply Ze|apply Zc|apply Zd|refine Zg ?_ GE216.out)|exact HB.out)⟩⟩
                 ·rw [if_neg c41] at H
                  exact absurd H (by simp)
                ·rw [if_neg c40] at H
                 exact absurd H (by simp)
               ·rw [if_neg c39] at H
                have c39b0 : decide (x86_5 < (l1.length : Int))=false:=decide_eq_false c39
                clear c39
                by_cases c44 : (wrap64 (x14_4 + (wrap64 ((wrap64 (x17_5 - x13_4)) * (wrap64 (x16_4 + 1)))))) > 2147483647
                ·rw [if_pos c44] at H
                 have c44b0 : decide (2147483647 < (wrap64 (x14_4 + (wrap64 ((wrap64 (x17_5 - x13_4)) * (wrap64 (x16_4 + 1)))))))=true:=decide_eq_true c44
                 clear c44
                 simp only [Option.some.injEq,Prod.mk.injEq] at H
                 obtain ⟨rfl,rfl,rfl⟩:=H
                 go_wp2
                 repeat (go_quiet (fail);try go_wp2)
                 go_ret3
                 exact ⟨by first|rfl|(simp [Zp,Zq] <;> rfl)|(simp [*,Zp,Zq] <;> rfl),by repeat (first|(with_reducible first|exact HB.out|apply Ze|apply Zc|apply Zd|refine Zg ?_ GE216.out)|exact HB.out)⟩
                ·rw [if_neg c44] at H
                 have c44b0 : decide (2147483647 < (wrap64 (x14_4 + (wrap64 ((wrap64 (x17_5 - x13_4)) * (wrap64 (x16_4 + 1)))))))=false:=decide_eq_false c44
                 clear c44
                 have H':=Zf.mk H
                 clear H
                 go_wp2
                 repeat (go_quiet (fail);try go_wp2)
                 go_loopg [9,14,15,16,116] k5 (fun kq v9 v14 v15 v16 v116 w' => ∃ (x9_6 : List Int) (x14_6 : Int) (x15_6 : Int) (x16_6 : Int) (x116_6 : Int),v14=.int .i64 x14_6∧v15=.int .i64 x15_6∧v16=.int .i64 x16_6∧v116=.int .i64 x116_6∧Zf (Zh.l4 kq l1 x9_6 (x9_2.length : Int) x17_5 x14_6 x15_6 x16_6 l1 (l1.length : Int) x116_6 a0_0 a0_1 a0_2 a0_3 a0_4 a0_5 a0_6 a0_7=some (r1,r2,r3))∧Zf (kq≤k5)∧Zf (Kd.R (Kd.int .u8) 5 w' w.heap.size (fun _ => True) v9 x9_6)∧Zf (w'.heap[gb216]?=some (.cells #[.int .i64 a0_0,.int .i64 a0_1,.int .i64 a0_2,.int .i64 a0_3,.int .i64 a0_4,.int .i64 a0_5,.int .i64 a0_6,.int .u8 a0_7] 51 (0,0)))∧Zf (Below w.heap.size w w'))
                 case atStart => exact ⟨(x9_4),(wrap64 (x14_4 + (wrap64 ((wrap64 (x17_5 - x13_4)) * (wrap64 (x16_4 + 1)))))),(x15_4),(x16_4),(0),(by first|rfl|(simp;done)|(simp [*];done)),(by first|rfl|(simp;done)|(simp [*];done)),(by first|rfl|(simp;done)|(simp [*];done)),(by first|rfl|(simp;done)|(simp [*];done)),H',⟨Nat.le_refl _⟩,⟨by (with_reducible repeat (first|apply Kd.Zv|apply Kd.Zu|apply Kd.Zz));exact HO_9.out⟩,⟨by (with_reducible repeat (first|refine Zk ?_ _|refine Zn ?_|refine Zl ?_ _));exact BK216.out⟩,⟨by repeat (first|(with_reducible first|exact HB.out|apply Ze|apply Zc|apply Zd|refine Zg ?_ GE216.out)|exact HB.out)⟩⟩
                 case round =>
                  clear H'
                  try clear c1
                  try clear c2
                  try clear p2
                  try clear q2
                  try clear hx2
                  try clear c3
                  try clear c4
                  try clear p6
                  try clear c8
                  try clear c8b0
                  try clear c9
                  try clear c9b0
                  try clear c10
                  try clear c10b0
                  try clear c12
                  try clear c15
                  try clear c15b0
                  try clear c16
                  try clear c16b0
                  try clear c17
                  try clear c17b0
                  try clear c19
                  try clear c20
                  try clear p21
                  try clear q21
                  try clear hx21
                  try clear p22
                  try clear q22
                  try clear hx22
                  try clear p23
                  try clear q23
                  try clear hx23
                  try clear c24
                  try clear c24b0
                  try clear c28
                  try clear c33
                  try clear c33b0
                  try clear c33b1
                  try clear c34
                  try clear c38
                  try clear c38b0
                  try clear c39
                  try clear c39b0
                  try clear c40
                  try clear c40b0
                  try clear c41
                  try clear c41b0
                  try clear c42
                  try clear c42b0
                  try clear c43
                  try clear c43b0
                  try clear c44
                  try clear c44b0
                  try clear hcz21_0
                  try clear hcz21_1
                  try clear hcz21_2
                  try clear hcz21_3
                  try clear hcz21_4
                  try clear hcz21_5
                  try clear hcz21_6
                  try clear hcz21_7
                  try clear hcz25_0
                  try clear hcz25_1
                  try clear hcz25_2
                  try clear hcz25_3
                  try clear hcz25_4
                  try clear hcz25_5
                  try clear hcz25_6
                  try clear hcz25_7
                  try clear hcz27_0
                  try clear hcz27_1
                  try clear hcz27_2
                  try clear hcz27_3
                  try clear hcz27_4
                  try clear hcz27_5
                  try clear hcz27_6
                  try clear hcz27_7
                  try clear hcz28_0
                  try clear hcz28_1
                  try clear hcz28_2
                  try clear hcz28_3
                  try clear hcz28_4
                  try clear hcz28_5
                  try clear hcz28_6
                  try clear hcz28_7
                  try clear hcz30_0
                  try clear hcz30_1
                  try clear hcz30_2
                  try clear hcz30_3
                  try clear hcz30_4
                  try clear hcz30_5
                  try clear hcz30_6
                  try clear hcz30_7
                  try clear hcz35_0
                  try clear hcz35_1
                  try clear hcz35_2
                  try clear hcz35_3
                  try clear hcz35_4
                  try clear hcz35_5
                  try clear hcz35_6
                  try clear hcz35_7
                  try clear hcz37_0
                  try clear hcz37_1
                  try clear hcz37_2
                  try clear hcz37_3
                  try clear hcz37_4
                  try clear hcz37_5
                  try clear hcz37_6
                  try clear hcz37_7
                  try clear hcz6_0
                  try clear hcz6_1
                  try clear hcz6_2
                  try clear hcz6_3
                  try clear hcz6_4
                  try clear hcz6_5
                  try clear hcz6_6
                  try clear hcz6_7
                  try clear hfz21_0
                  try clear hfz21_1
                  try clear hfz21_2
                  try clear hfz21_3
                  try clear hfz21_4
                  try clear hfz21_5
                  try clear hfz21_6
                  try clear hfz21_7
                  try clear hfz25_0
                  try clear hfz25_1
                  try clear hfz25_2
                  try clear hfz25_3
                  try clear hfz25_4
                  try clear hfz25_5
                  try clear hfz25_6
                  try clear hfz25_7
                  try clear hfz27_0
                  try clear hfz27_1
                  try clear hfz27_2
                  try clear hfz27_3
                  try clear hfz27_4
                  try clear hfz27_5
                  try clear hfz27_6
                  try clear hfz27_7
                  try clear hfz28_0
                  try clear hfz28_1
                  try clear hfz28_2
                  try clear hfz28_3
                  try clear hfz28_4
                  try clear hfz28_5
                  try clear hfz28_6
                  try clear hfz28_7
                  try clear hfz30_0
                  try clear hfz30_1
                  try clear hfz30_2
                  try clear hfz30_3
                  try clear hfz30_4
                  try clear hfz30_5
                  try clear hfz30_6
                  try clear hfz30_7
                  try clear hfz35_0
                  try clear hfz35_1
                  try clear hfz35_2
                  try clear hfz35_3
                  try clear hfz35_4
                  try clear hfz35_5
                  try clear hfz35_6
                  try clear hfz35_7
                  try clear hfz37_0
                  try clear hfz37_1
                  try clear hfz37_2
                  try clear hfz37_3
                  try clear hfz37_4
                  try clear hfz37_5
                  try clear hfz37_6
                  try clear hfz37_7
                  try clear hfz6_0
                  try clear hfz6_1
                  try clear hfz6_2
                  try clear hfz6_3
                  try clear hfz6_4
                  try clear hfz6_5
                  try clear hfz6_6
                  try clear hfz6_7
                  try clear hx218_0
                  try clear hx223_0
                  try clear hx236_0
                  try clear p2
                  try clear p21
                  try clear p218
                  try clear p22
                  try clear p223
                  try clear p236
                  try clear p6
                  try clear q2
                  try clear q21
                  try clear q218
                  try clear q22
                  try clear q223
                  try clear q236
                  obtain ⟨x9_6,x14_6,x15_6,x16_6,x116_6,rfl,rfl,rfl,rfl,HA,HK6,HO_9,BK216,HB⟩:=hrel
                  cases gk with
                  | zero => exact absurd HA.out (by simp [Zh.l4])
                  | succ k6 =>
                   have H:=HA.out
                   clear HA
                   simp only [Zh.l4] at H
                   by_cases c45 : x116_6 < (l1.length : Int)
                   ·rw [if_pos c45] at H
                    have c45b0 : decide (x116_6 < (l1.length : Int))=true:=decide_eq_true c45
                    clear c45
                    by_cases c46 : 0≤x116_6
                    ·rw [if_pos c46] at H
                     have c46b0 : decide (0≤x116_6)=true:=decide_eq_true c46
                     clear c46
                     by_cases c47 : x116_6 < (l1.length : Int)
                     ·rw [if_pos c47] at H
                      have c47b0 : decide (x116_6 < (l1.length : Int))=true:=decide_eq_true c47
                      clear c47
                      have HC48:=Zf.mk H
                      clear H
                      have p237 : 0≤(x116_6 : Int):=of_decide_eq_true (by first|(with_reducible assumption)|assumption)
                      have q237 : x116_6 < (l1.length : Int):=of_decide_eq_true (by first|(with_reducible assumption)|assumption)
                      obtain ⟨ad237,e237,hx237_0⟩:=Kd.at_int HR1.out x116_6 p237 q237
                      cases e237
                      replace hx237_0:=(HB.out.cell (World.block_lt_of_cell? w _ hx237_0)).trans hx237_0
                      replace p237:=eq_true p237
                      replace q237:=eq_true q237
                      go_upto_if 123 with (fail)
                      repeat (go_quiet (fail);go_upto_if 123 with (fail))
                      go_cut [14] (fun v14 wc => ∃ (kq : Nat) (x14_47 : Int),v14=.int .i64 x14_47∧Zf (Zh.j6 kq l1 x9_6 (x9_2.length : Int) x17_5 x14_47 x15_6 x16_6 (rd l1 x116_6) l1 (l1.length : Int) x116_6 a0_0 a0_1 a0_2 a0_3 a0_4 a0_5 a0_6 a0_7=some (r1,r2,r3))∧Zf (kq≤k6)∧Zf (Kd.R (Kd.int .u8) 5 wc w.heap.size (fun _ => True) u9 x9_6)∧Zf (wc.heap[gb216]?=some (.cells #[.int .i64 a0_0,.int .i64 a0_1,.int .i64 a0_2,.int .i64 a0_3,.int .i64 a0_4,.int .i64 a0_5,.int .i64 a0_6,.int .u8 a0_7] 51 (0,0)))∧Zf (Below w.heap.size w wc))
                      case first =>
                       have H:=HC48.out
                       clear HC48
                       by_cases c49 : (wrap64 (rd l1 x116_6)) < x17_5
                       ·rw [if_pos c49] at H
                        have c49b0 : decide ((wrap64 (rd l1 x116_6)) < x17_5)=true:=decide_eq_true c49
                        clear c49
                        (first|rw [c49b0]|rw [c49b1]|(simp only [i64_w,i32_w];rw [c49b0])|skip)
                        by_cases c50 : (wrap64 (x14_6 + 1)) > 2147483647
                        ·rw [if_pos c50] at H
                         have c50b0 : decide (2147483647 < (wrap64 (x14_6 + 1)))=true:=decide_eq_true c50
                         clear c50
                         simp only [Option.some.injEq,Prod.mk.injEq] at H
                         obtain ⟨rfl,rfl,rfl⟩:=H
                         go_wp2
                         repeat (go_quiet (fail);try go_wp2)
                         go_ret3
                         exact ⟨by first|rfl|(simp [Zp,Zq] <;> rfl)|(simp [*,Zp,Zq] <;> rfl),by repeat (first|(with_reducible first|exact HB.out|apply Ze|apply Zc|apply Zd|refine Zg ?_ GE216.out)|exact HB.out)⟩
                        ·rw [if_neg c50] at H
                         have c50b0 : decide (2147483647 < (wrap64 (x14_6 + 1)))=false:=decide_eq_false c50
                         clear c50
                         have H':=Zf.mk H
                         clear H
                         go_wp2
                         repeat (go_quiet (fail);try go_wp2)
                         go_meet
                         case rel => exact ⟨_,(wrap64 (x14_6 + 1)),(by first|rfl|(simp;done)|(simp [*];done)),H',⟨by have:=HK1.out;have:=HK2.out;have:=HJ30.out;have:=HK4.out;have:=HK5.out;have:=HK6.out;first|omega|exact Nat.le_refl _⟩,⟨by (with_reducible repeat (first|apply Kd.Zv|apply Kd.Zu|apply Kd.Zz));exact HO_9.out⟩,⟨by (with_reducible repeat (first|refine Zk ?_ _|refine Zn ?_|refine Zl ?_ _));exact BK216.out⟩,⟨by repeat (first|(with_reducible first|exact HB.out|apply Ze|apply Zc|apply Zd|refine Zg ?_ GE216.out)|exact HB.out)⟩⟩
                       ·rw [if_neg c49] at H
                        have c49b0 : decide ((wrap64 (rd l1 x116_6)) < x17_5)=false:=decide_eq_false c49
                        clear c49
                        (first|rw [c49b0]|rw [c49b1]|(simp only [i64_w,i32_w];rw [c49b0])|skip)
                        have H':=Zf.mk H
                        clear H
                        go_wp2
                        repeat (go_quiet (fail);try go_wp2)
                        go_meet
                        case rel => exact ⟨_,(x14_6),(by first|rfl|(simp;done)|(simp [*];done)),H',⟨by have:=HK1.out;have:=HK2.out;have:=HJ30.out;have:=HK4.out;have:=HK5.out;have:=HK6.out;first|omega|exact Nat.le_refl _⟩,⟨by (with_reducible repeat (first|apply Kd.Zv|apply Kd.Zu|apply Kd.Zz));exact HO_9.out⟩,⟨by (with_reducible repeat (first|refine Zk ?_ _|refine Zn ?_|refine Zl ?_ _));exact BK216.out⟩,⟨by repeat (first|(with_reducible first|exact HB.out|apply Ze|apply Zc|apply Zd|refine Zg ?_ GE216.out)|exact HB.out)⟩⟩
                      case rest =>
                       clear HC48
                       try clear c1
                       try clear c2
                       try clear p2
                       try clear q2
                       try clear hx2
                       try clear c3
                       try clear c4
                       try clear c5
                       try clear p6
                       try clear c8
                       try clear c8b0
                       try clear c9
                       try clear c9b0
                       try clear c10
                       try clear c10b0
                       try clear c12
                       try clear c15
                       try clear c15b0
                       try clear c16
                       try clear c16b0
                       try clear c17
                       try clear c17b0
                       try clear c19
                       try clear c20
                       try clear p21
                       try clear q21
                       try clear hx21
                       try clear p22
                       try clear q22
                       try clear hx22
                       try clear p23
                       try clear q23
                       try clear hx23
                       try clear c24
                       try clear c24b0
                       try clear c28
                       try clear c33
                       try clear c33b0
                       try clear c33b1
                       try clear c34
                       try clear c38
                       try clear c38b0
                       try clear c39
                       try clear c39b0
                       try clear c40
                       try clear c40b0
                       try clear c41
                       try clear c41b0
                       try clear c42
                       try clear c42b0
                       try clear c43
                       try clear c43b0
                       try clear c44
                       try clear c44b0
                       try clear c45
                       try clear c45b0
                       try clear c46
                       try clear c46b0
                       try clear c47
                       try clear c47b0
                       try clear c49
                       try clear c49b0
                       try clear c50
                       try clear c50b0
                       try clear hcz21_0
                       try clear hcz21_1
                       try clear hcz21_2
                       try clear hcz21_3
                       try clear hcz21_4
                       try clear hcz21_5
                       try clear hcz21_6
                       try clear hcz21_7
                       try clear hcz25_0
                       try clear hcz25_1
                       try clear hcz25_2
                       try clear hcz25_3
                       try clear hcz25_4
                       try clear hcz25_5
                       try clear hcz25_6
                       try clear hcz25_7
                       try clear hcz27_0
                       try clear hcz27_1
                       try clear hcz27_2
                       try clear hcz27_3
                       try clear hcz27_4
                       try clear hcz27_5
                       try clear hcz27_6
                       try clear hcz27_7
                       try clear hcz28_0
                       try clear hcz28_1
                       try clear hcz28_2
                       try clear hcz28_3
                       try clear hcz28_4
                       try clear hcz28_5
                       try clear hcz28_6
                       try clear hcz28_7
                       try clear hcz30_0
                       try clear hcz30_1
                       try clear hcz30_2
                       try clear hcz30_3
                       try clear hcz30_4
                       try clear hcz30_5
                       try clear hcz30_6
                       try clear hcz30_7
                       try clear hcz35_0
                       try clear hcz35_1
                       try clear hcz35_2
                       try clear hcz35_3
                       try clear hcz35_4
                       try clear hcz35_5
                       try clear hcz35_6
                       try clear hcz35_7
                       try clear hcz37_0
                       try clear hcz37_1
                       try clear hcz37_2
                       try clear hcz37_3
                       try clear hcz37_4
                       try clear hcz37_5
                       try clear hcz37_6
                       try clear hcz37_7
                       try clear hcz6_0
                       try clear hcz6_1
                       try clear hcz6_2
                       try clear hcz6_3
                       try clear hcz6_4
                       try clear hcz6_5
                       try clear hcz6_6
                       try clear hcz6_7
                       try clear hfz21_0
                       try clear hfz21_1
                       try clear hfz21_2
                       try clear hfz21_3
                       try clear hfz21_4
                       try clear hfz21_5
                       try clear hfz21_6
                       try clear hfz21_7
                       try clear hfz25_0
                       try clear hfz25_1
                       try clear hfz25_2
                       try clear hfz25_3
                       try clear hfz25_4
                       try clear hfz25_5
                       try clear hfz25_6
                       try clear hfz25_7
                       try clear hfz27_0
                       try clear hfz27_1
                       try clear hfz27_2
                       try clear hfz27_3
                       try clear hfz27_4
                       try clear hfz27_5
                       try clear hfz27_6
                       try clear hfz27_7
                       try clear hfz28_0
                       try clear hfz28_1
                       try clear hfz28_2
                       try clear hfz28_3
                       try clear hfz28_4
                       try clear hfz28_5
                       try clear hfz28_6
                       try clear hfz28_7
                       try clear hfz30_0
                       try clear hfz30_1
                       try clear hfz30_2
                       try clear hfz30_3
                       try clear hfz30_4
                       try clear hfz30_5
                       try clear hfz30_6
                       try clear hfz30_7
                       try clear hfz35_0
                       try clear hfz35_1
                       try clear hfz35_2
                       try clear hfz35_3
                       try clear hfz35_4
                       try clear hfz35_5
                       try clear hfz35_6
                       try clear hfz35_7
                       try clear hfz37_0
                       try clear hfz37_1
                       try clear hfz37_2
                       try clear hfz37_3
                       try clear hfz37_4
                       try clear hfz37_5
                       try clear hfz37_6
                       try clear hfz37_7
                       try clear hfz6_0
                       try clear hfz6_1
                       try clear hfz6_2
                       try clear hfz6_3
                       try clear hfz6_4
                       try clear hfz6_5
                       try clear hfz6_6
                       try clear hfz6_7
                       try clear hx218_0
                       try clear hx223_0
                       try clear hx236_0
                       try clear hx237_0
                       try clear p2
                       try clear p21
                       try clear p218
                       try clear p22
                       try clear p223
                       try clear p23
                       try clear p236
                       try clear p237
                       try clear p6
                       try clear q2
                       try clear q21
                       try clear q218
                       try clear q22
                       try clear q223
                       try clear q23
                       try clear q236
                       try clear q237
                       obtain ⟨kq,x14_47,rfl,HA,HJ47,HO_9,BK216,HB⟩:=hcut
                       cases kq with
                       | zero => exact absurd HA.out (by simp [Zh.j6])
                       | succ kj47 =>
                        have H:=HA.out
                        clear HA
                        simp only [Zh.j6] at H
                        by_cases c51 : (wrap64 ((rd l1 x116_6)))=x17_5
                        ·rw [if_pos c51] at H
                         have c51b0 : ((wrap64 ((rd l1 x116_6))) == x17_5)=true:=beq_iff_eq.mpr c51
                         have c51b1 : ((wrap64 ((rd l1 x116_6))) != x17_5)=false:=bne_eq_false_iff_eq.mpr c51
                         clear c51
                         have H':=Zf.mk H
                         clear H
                         have hcz52_0 : wc.cell? ⟨gb216,0,none⟩=some (.int .i64 a0_0):=(Zb BK216.out 0).trans rfl
                         have hcz52_1 : wc.cell? ⟨gb216,1,none⟩=some (.int .i64 a0_1):=(Zb BK216.out 1).trans rfl
                         have hcz52_2 : wc.cell? ⟨gb216,2,none⟩=some (.int .i64 a0_2):=(Zb BK216.out 2).trans rfl
                         have hcz52_3 : wc.cell? ⟨gb216,3,none⟩=some (.int .i64 a0_3):=(Zb BK216.out 3).trans rfl
                         have hcz52_4 : wc.cell? ⟨gb216,4,none⟩=some (.int .i64 a0_4):=(Zb BK216.out 4).trans rfl
                         have hcz52_5 : wc.cell? ⟨gb216,5,none⟩=some (.int .i64 a0_5):=(Zb BK216.out 5).trans rfl
                         have hcz52_6 : wc.cell? ⟨gb216,6,none⟩=some (.int .i64 a0_6):=(Zb BK216.out 6).trans rfl
                         have hcz52_7 : wc.cell? ⟨gb216,7,none⟩=some (.int .u8 a0_7):=(Zb BK216.out 7).trans rfl
                         have hfz52_0:=Za BK216.out 0
                         have hfz52_1:=Za BK216.out 1
                         have hfz52_2:=Za BK216.out 2
                         have hfz52_3:=Za BK216.out 3
                         have hfz52_4:=Za BK216.out 4
                         have hfz52_5:=Za BK216.out 5
                         have hfz52_6:=Za BK216.out 6
                         have hfz52_7:=Za BK216.out 7
                         go_wp2
                         repeat (go_quiet (fail);try go_wp2)
                         go_loopg [9,22,23] kj47 (fun kq v9 v22 v23 w' => ∃ (x9_8 : List Int) (x22_8 : Int) (x23_8 : Int),v22=.int .i64 x22_8∧v23=.int .i64 x23_8∧Zf (Zh.l5 kq l1 x9_8 (x9_2.length : Int) x17_5 x14_47 x15_6 x16_6 x22_8 x23_8 l1 (l1.length : Int) x116_6 a0_0 a0_1 a0_2 a0_3 a0_4 a0_5 a0_6 a0_7=some (r1,r2,r3))∧Zf (kq≤kj47)∧Zf (Kd.R (Kd.int .u8) 5 w' w.heap.size (fun _ => True) v9 x9_8)∧Zf (w'.heap[gb216]?=some (.cells #[.int .i64 a0_0,.int .i64 a0_1,.int .i64 a0_2,.int .i64 a0_3,.int .i64 a0_4,.int .i64 a0_5,.int .i64 a0_6,.int .u8 a0_7] 51 (0,0)))∧Zf (Below w.heap.size w w'))
                         case atStart => exact ⟨(x9_6),(x14_47),(a0_0),(by first|rfl|(simp;done)|(simp [*];done)),(by first|rfl|(simp;done)|(simp [*];done)),H',⟨Nat.le_refl _⟩,⟨by (with_reducible repeat (first|apply Kd.Zv|apply Kd.Zu|apply Kd.Zz));exact HO_9.out⟩,⟨by (with_reducible repeat (first|refine Zk ?_ _|refine Zn ?_|refine Zl ?_ _));exact BK216.out⟩,⟨by repeat (first|(with_reducible first|exact HB.out|apply Ze|apply Zc|apply Zd|refine Zg ?_ GE216.out)|exact HB.out)⟩⟩
                         case round =>
                          clear H'
                          try clear c1
                          try clear c2
                          try clear p2
                          try clear q2
                          try clear hx2
                          try clear c3
                          try clear c4
                          try clear c5
                          try clear p6
                          try clear c8
                          try clear c8b0
                          try clear c9
                          try clear c9b0
                          try clear c10
                          try clear c10b0
                          try clear c12
                          try clear c15
                          try clear c15b0
                          try clear c16
                          try clear c16b0
                          try clear c17
                          try clear c17b0
                          try clear c19
                          try clear c20
                          try clear p21
                          try clear q21
                          try clear hx21
                          try clear p22
                          try clear q22
                          try clear hx22
                          try clear p23
                          try clear q23
                          try clear hx23
                          try clear c24
                          try clear c24b0
                          try clear c28
                          try clear c33
                          try clear c33b0
                          try clear c33b1
                          try clear c34
                          try clear c38
                          try clear c38b0
                          try clear c39
                          try clear c39b0
                          try clear c40
                          try clear c40b0
                          try clear c41
                          try clear c41b0
                          try clear c42
                          try clear c42b0
                          try clear c43
                          try clear c43b0
                          try clear c44
                          try clear c44b0
                          try clear c45
                          try clear c45b0
                          try clear c46
                          try clear c46b0
                          try clear c47
                          try clear c47b0
                          try clear c49
                          try clear c49b0
                          try clear c50
                          try clear c50b0
                          try clear c51
                          try clear c51b0
                          try clear c51b1
                          try clear hcz21_0
                          try clear hcz21_1
                          try clear hcz21_2
                          try clear hcz21_3
                          try clear hcz21_4
                          try clear hcz21_5
                          try clear hcz21_6
                          try clear hcz21_7
                          try clear hcz25_0
                          try clear hcz25_1
                          try clear hcz25_2
                          try clear hcz25_3
                          try clear hcz25_4
                          try clear hcz25_5
                          try clear hcz25_6
                          try clear hcz25_7
                          try clear hcz27_0
                          try clear hcz27_1
                          try clear hcz27_2
                          try clear hcz27_3
                          try clear hcz27_4
                          try clear hcz27_5
                          try clear hcz27_6
                          try clear hcz27_7
                          try clear hcz28_0
                          try clear hcz28_1
                          try clear hcz28_2
                          try clear hcz28_3
                          try clear hcz28_4
                          try clear hcz28_5
                          try clear hcz28_6
                          try clear hcz28_7
                          try clear hcz30_0
                          try clear hcz30_1
                          try clear hcz30_2
                          try clear hcz30_3
                          try clear hcz30_4
                          try clear hcz30_5
                          try clear hcz30_6
                          try clear hcz30_7
                          try clear hcz35_0
                          try clear hcz35_1
                          try clear hcz35_2
                          try clear hcz35_3
                          try clear hcz35_4
                          try clear hcz35_5
                          try clear hcz35_6
                          try clear hcz35_7
                          try clear hcz37_0
                          try clear hcz37_1
                          try clear hcz37_2
                          try clear hcz37_3
                          try clear hcz37_4
                          try clear hcz37_5
                          try clear hcz37_6
                          try clear hcz37_7
                          try clear hcz52_0
                          try clear hcz52_1
                          try clear hcz52_2
                          try clear hcz52_3
                          try clear hcz52_4
                          try clear hcz52_5
                          try clear hcz52_6
                          try clear hcz52_7
                          try clear hcz6_0
                          try clear hcz6_1
                          try clear hcz6_2
                          try clear hcz6_3
                          try clear hcz6_4
                          try clear hcz6_5
                          try clear hcz6_6
                          try clear hcz6_7
                          try clear hfz21_0
                          try clear hfz21_1
                          try clear hfz21_2
                          try clear hfz21_3
                          try clear hfz21_4
                          try clear hfz21_5
                          try clear hfz21_6
                          try clear hfz21_7
                          try clear hfz25_0
                          try clear hfz25_1
                          try clear hfz25_2
                          try clear hfz25_3
                          try clear hfz25_4
                          try clear hfz25_5
                          try clear hfz25_6
                          try clear hfz25_7
                          try clear hfz27_0
                          try clear hfz27_1
                          try clear hfz27_2
                          try clear hfz27_3
                          try clear hfz27_4
                          try clear hfz27_5
                          try clear hfz27_6
                          try clear hfz27_7
                          try clear hfz28_0
                          try clear hfz28_1
                          try clear hfz28_2
                          try clear hfz28_3
                          try clear hfz28_4
                          try clear hfz28_5
                          try clear hfz28_6
                          try clear hfz28_7
                          try clear hfz30_0
                          try clear hfz30_1
                          try clear hfz30_2
                          try clear hfz30_3
                          try clear hfz30_4
                          try clear hfz30_5
                          try clear hfz30_6
                          try clear hfz30_7
                          try clear hfz35_0
                          try clear hfz35_1
                          try clear hfz35_2
                          try clear hfz35_3
                          try clear hfz35_4
                          try clear hfz35_5
                          try clear hfz35_6
                          try clear hfz35_7
                          try clear hfz37_0
                          try clear hfz37_1
                          try clear hfz37_2
                          try clear hfz37_3
                          try clear hfz37_4
                          try clear hfz37_5
                          try clear hfz37_6
                          try clear hfz37_7
                          try clear hfz52_0
                          try clear hfz52_1
                          try clear hfz52_2
                          try clear hfz52_3
                          try clear hfz52_4
                          try clear hfz52_5
                          try clear hfz52_6
                          try clear hfz52_7
                          try clear hfz6_0
                          try clear hfz6_1
                          try clear hfz6_2
                          try clear hfz6_3
                          try clear hfz6_4
                          try clear hfz6_5
                          try clear hfz6_6
                          try clear hfz6_7
                          try clear hx218_0
                          try clear hx223_0
                          try clear hx236_0
                          try clear hx237_0
                          try clear p2
                          try clear p21
                          try clear p218
                          try clear p22
                          try clear p223
                          try clear p23
                          try clear p236
                          try clear p237
                          try clear p6
                          try clear q2
                          try clear q21
                          try clear q218
                          try clear q22
                          try clear q223
                          try clear q23
                          try clear q236
                          try clear q237
                          obtain ⟨x9_8,x22_8,x23_8,rfl,rfl,HA,HK8,HO_9,BK216,HB⟩:=hrel
                          cases gk with
                          | zero => exact absurd HA.out (by simp [Zh.l5])
                          | succ k8 =>
                           have H:=HA.out
                           clear HA
                           simp only [Zh.l5] at H
                           replace H:=Option.bind_eq_some_iff.mp H
                           obtain ⟨t238,A530,H⟩:=H
                           replace H : (if x22_8 < t238 then ((Yk.f x22_8).bind fun t239 => (if x9_8.length < 140737488355328 then ((Zy.f k8 a0_0 a0_1 a0_2 a0_3 a0_4 a0_5 a0_6 a0_7 x14_47 (wrap64 (x16_6 + 1)) (x16_6 == (x9_2.length : Int))).bind fun t243 => (Zh.l4 k8 l1 (x9_8++[t239]) (x9_2.length : Int) x17_5 0 t243 (wrap64 (x16_6 + 1)) l1 (l1.length : Int) (wrap64 (x116_6 + 1)) a0_0 a0_1 a0_2 a0_3 a0_4 a0_5 a0_6 a0_7)) else (none))) else (if (wrap64 (a0_0 - t238))=0 then (none) else ((Yk.f (wrap64 (t238 + (Int.tmod (wrap64 (x22_8 - t238)) (wrap64 (a0_0 - t238)))))).bind fun t244 => (if x9_8.length < 140737488355328 then (Zh.l5 k8 l1 (x9_8++[t244]) (x9_2.length : Int) x17_5 x14_47 x15_6 x16_6 (wrap64 (Int.tdiv (wrap64 (x22_8 - t238)) (wrap64 (a0_0 - t238)))) (wrap64 (x23_8 + a0_0)) l1 (l1.length : Int) x116_6 a0_0 a0_1 a0_2 a0_3 a0_4 a0_5 a0_6 a0_7) else (none)))))=some (r1,r2,r3):=H
                           have A53:=Zf.mk A530
                           clear A530
                           by_cases c54 : x22_8 < t238
                           ·rw [if_pos c54] at H
                            have c54b0 : decide (x22_8 < t238)=true:=decide_eq_true c54
                            clear c54
                            replace H:=Option.bind_eq_some_iff.mp H
                            obtain ⟨t239,A550,H⟩:=H
                            replace H : (if x9_8.length < 140737488355328 then ((Zy.f k8 a0_0 a0_1 a0_2 a0_3 a0_4 a0_5 a0_6 a0_7 x14_47 (wrap64 (x16_6 + 1)) (x16_6 == (x9_2.length : Int))).bind fun t243 => (Zh.l4 k8 l1 (x9_8++[t239]) (x9_2.length : Int) x17_5 0 t243 (wrap64 (x16_6 + 1)) l1 (l1.length : Int) (wrap64 (x116_6 + 1)) a0_0 a0_1 a0_2 a0_3 a0_4 a0_5 a0_6 a0_7)) else (none))=some (r1,r2,r3):=H
                            have A55:=Zf.mk A550
                            clear A550
                            by_cases c56 : x9_8.length < 140737488355328
                            ·rw [if_pos c56] at H
                             have LMc56:=Zf.mk c56
                             clear c56
                             obtain ⟨y240,hy240⟩ : ∃ y_ : List Int,y_=(x9_8++[t239]):=⟨_,rfl⟩
                             replace H : ((Zy.f k8 a0_0 a0_1 a0_2 a0_3 a0_4 a0_5 a0_6 a0_7 x14_47 (wrap64 (x16_6 + 1)) (x16_6 == (x9_2.length : Int))).bind fun t243 => (Zh.l4 k8 l1 y240 (x9_2.length : Int) x17_5 0 t243 (wrap64 (x16_6 + 1)) l1 (l1.length : Int) (wrap64 (x116_6 + 1)) a0_0 a0_1 a0_2 a0_3 a0_4 a0_5 a0_6 a0_7))=some (r1,r2,r3):=by first|(rw [hy240];with_reducible exact H)|(have H2_:=(Option.bind_some _ _).symm.trans H;rw [hy240];with_reducible exact H2_)|(have H2_:=(Option.bind_some _ _).symm.trans H;with_reducible exact H2_)|with_reducible exact H|(rw [hy240];exact H)|exact H
                             have Ny240:=Zf.mk hy240
                             clear hy240
                             replace H:=Option.bind_eq_some_iff.mp H
                             obtain ⟨t243,A570,H⟩:=H
                             replace H : (Zh.l4 k8 l1 y240 (x9_2.length : Int) x17_5 0 t243 (wrap64 (x16_6 + 1)) l1 (l1.length : Int) (wrap64 (x116_6 + 1)) a0_0 a0_1 a0_2 a0_3 a0_4 a0_5 a0_6 a0_7)=some (r1,r2,r3):=H
                             have A57:=Zf.mk A570
                             clear A570
                             have H':=Zf.mk H
                             clear H
                             have hcz58_0 : wr.cell? ⟨gb216,0,none⟩=some (.int .i64 a0_0):=(Zb BK216.out 0).trans rfl
                             have hcz58_1 : wr.cell? ⟨gb216,1,none⟩=some (.int .i64 a0_1):=(Zb BK216.out 1).trans rfl
                             have hcz58_2 : wr.cell? ⟨gb216,2,none⟩=some (.int .i64 a0_2):=(Zb BK216.out 2).trans rfl
                             have hcz58_3 : wr.cell? ⟨gb216,3,none⟩=some (.int .i64 a0_3):=(Zb BK216.out 3).trans rfl
                             have hcz58_4 : wr.cell? ⟨gb216,4,none⟩=some (.int .i64 a0_4):=(Zb BK216.out 4).trans rfl
                             have hcz58_5 : wr.cell? ⟨gb216,5,none⟩=some (.int .i64 a0_5):=(Zb BK216.out 5).trans rfl
                             have hcz58_6 : wr.cell? ⟨gb216,6,none⟩=some (.int .i64 a0_6):=(Zb BK216.out 6).trans rfl
                             have hcz58_7 : wr.cell? ⟨gb216,7,none⟩=some (.int .u8 a0_7):=(Zb BK216.out 7).trans rfl
                             have hfz58_0:=Za BK216.out 0
                             have hfz58_1:=Za BK216.out 1
                             have hfz58_2:=Za BK216.out 2
                             have hfz58_3:=Za BK216.out 3
                             have hfz58_4:=Za BK216.out 4
                             have hfz58_5:=Za BK216.out 5
                             have hfz58_6:=Za BK216.out 6
                             have hfz58_7:=Za BK216.out 7
                             go_wp2_with (first|(go_at_call 42;(with_reducible refine (Z6.calls a0_0 a0_1 a0_2 a0_3 a0_4 a0_5 a0_6 a0_7 x23_8 x15_6 t238 _ A53.out).mono ?_);rintro e w59 ⟨rfl,hb⟩;have n0_:=Zf.mk (Kd.Z9 (by (with_reducible repeat (first|apply Kd.Zv|apply Kd.Zu|apply Kd.Zz));exact HO_9.out) hb);have n1_:=Zf.mk (Zw (g:=gb216) (o:=.cells #[.int .i64 a0_0,.int .i64 a0_1,.int .i64 a0_2,.int .i64 a0_3,.int .i64 a0_4,.int .i64 a0_5,.int .i64 a0_6,.int .u8 a0_7] 51 (0,0)) (by (with_reducible repeat (first|refine Zk ?_ _|refine Zn ?_|refine Zl ?_ _));exact BK216.out) hb);have n2_:=Zf.mk (Zm (by repeat (first|(with_reducible first|exact HB.out|apply Ze|apply Zc|apply Zd|refine Zg ?_ GE216.out)|exact HB.out)) hb);clear HO_9;clear BK216;clear HB;have HO_9:=n0_;have BK216:=n1_;have HB:=n2_;clear n0_ n1_ n2_;(try clear hb);(try clear hb2);(try clear hk);(try clear hi))|(go_at_call 21;(with_reducible refine (Yk.calls x22_8 t239 _ A55.out).mono ?_);rintro e w' ⟨rfl,⟨nd,rfl⟩⟩;(try first|exact ⟨rfl,_,World.drewN_drewN _ _ _⟩|exact ⟨rfl,_,Eq.trans (World.drewN_drewN _ _ _) (congrArg (World.drewN _) (Nat.add_assoc _ _ _))⟩))|((with_reducible refine gate_builtin (b:=.append) (xs:=#[.tmp 168,.tmp 171]) rfl ?_);at_builtin;refine Kd.R_append (Kd.int .u8) (w0:=w) w.heap.size rfl (.tmp 168) (.tmp 171) 35 5 (.int .u8 0) 1 rfl Tryd.underlying35 info5 rfl (by decide) (by omega) u9 x9_8 t239 [.int .u8 t239] (fun _ => True) (fun _ => False) rfl rfl ?aP (fun _ hk => hk.elim) ?aF ?aO ?aB ?aS ?aL ?_;(case aP => exact rfl);(case aB => exact (by repeat (first|(with_reducible first|exact HB.out|apply Ze|apply Zc|apply Zd|refine Zg ?_ GE216.out)|exact HB.out)));(case aF => exact (fun _ _ => trivial));(case aO => exact (by (with_reducible repeat (first|apply Kd.Zv|apply Kd.Zu|apply Kd.Zz));exact HO_9.out));(case aS => exact (Zo (by repeat (first|(with_reducible first|exact HB.out|apply Ze|apply Zc|apply Zd|refine Zg ?_ GE216.out)|exact HB.out))));(case aL => have:=LMc56.out;omega);intro v241 w60 ho hb hg hat;rw [← Ny240.out] at ho;have n0_:=Zf.mk (blk_grown (g:=gb216) (o:=.cells #[.int .i64 a0_0,.int .i64 a0_1,.int .i64 a0_2,.int .i64 a0_3,.int .i64 a0_4,.int .i64 a0_5,.int .i64 a0_6,.int .u8 a0_7] 51 (0,0)) (by (with_reducible repeat (first|refine Zk ?_ _|refine Zn ?_|refine Zl ?_ _));exact BK216.out) hg (Kd.R_ne HO_9.out BK216.out (by decide)));have n1_:=Zf.mk (hb);have n2_:=Zf.mk (ho);clear BK216;clear HB;clear HO_9;have BK216:=n0_;have HB:=n1_;have HO242:=n2_;clear n0_ n1_ n2_;clear ho hb hg hat;have hcz61_0 : w60.cell? ⟨gb216,0,none⟩=some (.int .i64 a0_0):=(Zb BK216.out 0).trans rfl;have hcz61_1 : w60.cell? ⟨gb216,1,none⟩=some (.int .i64 a0_1):=(Zb BK216.out 1).trans rfl;have hcz61_2 : w60.cell? ⟨gb216,2,none⟩=some (.int .i64 a0_2):=(Zb BK216.out 2).trans rfl;have hcz61_3 : w60.cell? ⟨gb216,3,none⟩=some (.int .i64 a0_3):=(Zb BK216.out 3).trans rfl;have hcz61_4 : w60.cell? ⟨gb216,4,none⟩=some (.int .i64 a0_4):=(Zb BK216.out 4).trans rfl;have hcz61_5 : w60.cell? ⟨gb216,5,none⟩=some (.int .i64 a0_5):=(Zb BK216.out 5).trans rfl;have hcz61_6 : w60.cell? ⟨gb216,6,none⟩=some (.int .i64 a0_6):=(Zb BK216.out 6).trans rfl;have hcz61_7 : w60.cell? ⟨gb216,7,none⟩=some (.int .u8 a0_7):=(Zb BK216.out 7).trans rfl;have hfz61_0:=Za BK216.out 0;have hfz61_1:=Za BK216.out 1;have hfz61_2:=Za BK216.out 2;have hfz61_3:=Za BK216.out 3;have hfz61_4:=Za BK216.out 4;have hfz61_5:=Za BK216.out 5;have hfz61_6:=Za BK216.out 6;have hfz61_7:=Za BK216.out 7)|(go_at_call 43;(with_reducible refine (Zy.calls k8 a0_0 a0_1 a0_2 a0_3 a0_4 a0_5 a0_6 a0_7 x14_47 (wrap64 (x16_6 + 1)) (x16_6 == (x9_2.length : Int)) t243 _ A57.out).mono ?_);rintro e w62 ⟨rfl,hb⟩;have n0_:=Zf.mk (Kd.Z9 (by (with_reducible repeat (first|apply Kd.Zv|apply Kd.Zu|apply Kd.Zz));exact HO242.out) hb);have n1_:=Zf.mk (Zw (g:=gb216) (o:=.cells #[.int .i64 a0_0,.int .i64 a0_1,.int .i64 a0_2,.int .i64 a0_3,.int .i64 a0_4,.int .i64 a0_5,.int .i64 a0_6,.int .u8 a0_7] 51 (0,0)) (by (with_reducible repeat (first|refine Zk ?_ _|refine Zn ?_|refine Zl ?_ _));exact BK216.out) hb);have n2_:=Zf.mk (Zm (by repeat (first|(with_reducible first|exact HB.out|apply Ze|apply Zc|apply Zd|refine Zg ?_ GE216.out)|exact HB.out)) hb);clear HO242;clear BK216;clear HB;have HO242:=n0_;have BK216:=n1_;have HB:=n2_;clear n0_ n1_ n2_;(try clear hb);(try clear hb2);(try clear hk);(try clear hi)))
                             repeat (go_quiet (first|(go_at_call 42;(with_reducible refine (Z6.calls a0_0 a0_1 a0_2 a0_3 a0_4 a0_5 a0_6 a0_7 x23_8 x15_6 t238 _ A53.out).mono ?_);rintro e w59 ⟨rfl,hb⟩;have n0_:=Zf.mk (Kd.Z9 (by (with_reducible repeat (first|apply Kd.Zv|apply Kd.Zu|apply Kd.Zz));exact HO_9.out) hb);have n1_:=Zf.mk (Zw (g:=gb216) (o:=.cells #[.int .i64 a0_0,.int .i64 a0_1,.int .i64 a0_2,.int .i64 a0_3,.int .i64 a0_4,.int .i64 a0_5,.int .i64 a0_6,.int .u8 a0_7] 51 (0,0)) (by (with_reducible repeat (first|refine Zk ?_ _|refine Zn ?_|refine Zl ?_ _));exact BK216.out) hb);have n2_:=Zf.mk (Zm (by repeat (first|(with_reducible first|exact HB.out|apply Ze|apply Zc|apply Zd|refine Zg ?_ GE216.out)|exact HB.out)) hb);clear HO_9;clear BK216;clear HB;have HO_9:=n0_;have BK216:=n1_;have HB:=n2_;clear n0_ n1_ n2_;(try clear hb);(try clear hb2);(try clear hk);(try clear hi))|(go_at_call 21;(with_reducible refine (Yk.calls x22_8 t239 _ A55.out).mono ?_);rintro e w' ⟨rfl,⟨nd,rfl⟩⟩;(try first|exact ⟨rfl,_,World.drewN_drewN _ _ _⟩|exact ⟨rfl,_,Eq.trans (World.drewN_drewN _ _ _) (congrArg (World.drewN _) (Nat.add_assoc _ _ _))⟩))|((with_reducible refine gate_builtin (b:=.append) (xs:=#[.tmp 168,.tmp 171]) rfl ?_);at_builtin;refine Kd.R_append (Kd.int .u8) (w0:=w) w.heap.size rfl (.tmp 168) (.tmp 171) 35 5 (.int .u8 0) 1 rfl Tryd.underlying35 info5 rfl (by decide) (by omega) u9 x9_8 t239 [.int .u8 t239] (fun _ => True) (fun _ => False) rfl rfl ?aP (fun _ hk => hk.elim) ?aF ?aO ?aB ?aS ?aL ?_;(case aP => exact rfl);(case aB => exact (by repeat (first|(with_reducible first|exact HB.out|apply Ze|apply Zc|apply Zd|refine Zg ?_ GE216.out)|exact HB.out)));(case aF => exact (fun _ _ => trivial));(case aO => exact (by (with_reducible repeat (first|apply Kd.Zv|apply Kd.Zu|apply Kd.Zz));exact HO_9.out));(case aS => exact (Zo (by repeat (first|(with_reducible first|exact HB.out|apply Ze|apply Zc|apply Zd|refine Zg ?_ GE216.out)|exact HB.out))));(case aL => have:=LMc56.out;omega);intro v241 w60 ho hb hg hat;rw [← Ny240.out] at ho;have n0_:=Zf.mk (blk_grown (g:=gb216) (o:=.cells #[.int .i64 a0_0,.int .i64 a0_1,.int .i64 a0_2,.int .i64 a0_3,.int .i64 a0_4,.int .i64 a0_5,.int .i64 a0_6,.int .u8 a0_7] 51 (0,0)) (by (with_reducible repeat (first|refine Zk ?_ _|refine Zn ?_|refine Zl ?_ _));exact BK216.out) hg (Kd.R_ne HO_9.out BK216.out (by decide)));have n1_:=Zf.mk (hb);have n2_:=Zf.mk (ho);clear BK216;clear HB;clear HO_9;have BK216:=n0_;have HB:=n1_;have HO242:=n2_;clear n0_ n1_ n2_;clear ho hb hg hat;have hcz61_0 : w60.cell? ⟨gb216,0,none⟩=some (.int .i64 a0_0):=(Zb BK216.out 0).trans rfl;have hcz61_1 : w60.cell? ⟨gb216,1,none⟩=some (.int .i64 a0_1):=(Zb BK216.out 1).trans rfl;have hcz61_2 : w60.cell? ⟨gb216,2,none⟩=some (.int .i64 a0_2):=(Zb BK216.out 2).trans rfl;have hcz61_3 : w60.cell? ⟨gb216,3,none⟩=some (.int .i64 a0_3):=(Zb BK216.out 3).trans rfl;have hcz61_4 : w60.cell? ⟨gb216,4,none⟩=some (.int .i64 a0_4):=(Zb BK216.out 4).trans rfl;have hcz61_5 : w60.cell? ⟨gb216,5,none⟩=some (.int .i64 a0_5):=(Zb BK216.out 5).trans rfl;have hcz61_6 : w60.cell? ⟨gb216,6,none⟩=some (.int .i64 a0_6):=(Zb BK216.out 6).trans rfl;have hcz61_7 : w60.cell? ⟨gb216,7,none⟩=some (.int .u8 a0_7):=(Zb BK216.out 7).trans rfl;have hfz61_0:=Za BK216.out 0;have hfz61_1:=Za BK216.out 1;have hfz61_2:=Za BK216.out 2;have hfz61_3:=Za BK216.out 3;have hfz61_4:=Za BK216.out 4;have hfz61_5:=Za BK216.out 5;have hfz61_6:=Za BK216.out 6;have hfz61_7:=Za BK216.out 7)|(go_at_call 43;(with_reducible refine (Zy.calls k8 a0_0 a0_1 a0_2 a0_3 a0_4 a0_5 a0_6 a0_7 x14_47 (wrap64 (x16_6 + 1)) (x16_6 == (x9_2.length : Int)) t243 _ A57.out).mono ?_);rintro e w62 ⟨rfl,hb⟩;have n0_:=Zf.mk (Kd.Z9 (by (with_reducible repeat (first|apply Kd.Zv|apply Kd.Zu|apply Kd.Zz));exact HO242.out) hb);have n1_:=Zf.mk (Zw (g:=gb216) (o:=.cells #[.int .i64 a0_0,.int .i64 a0_1,.int .i64 a0_2,.int .i64 a0_3,.int .i64 a0_4,.int .i64 a0_5,.int .i64 a0_6,.int .u8 a0_7] 51 (0,0)) (by (with_reducible repeat (first|refine Zk ?_ _|refine Zn ?_|refine Zl ?_ _));exact BK216.out) hb);have n2_:=Zf.mk (Zm (by repeat (first|(with_reducible first|exact HB.out|apply Ze|apply Zc|apply Zd|refine Zg ?_ GE216.out)|exact HB.out)) hb);clear HO242;clear BK216;clear HB;have HO242:=n0_;have BK216:=n1_;have HB:=n2_;clear n0_ n1_ n2_;(try clear hb);(try clear hb2);(try clear hk);(try clear hi)));try go_wp2_with (first|(go_at_call 42;(with_reducible refine (Z6.calls a0_0 a0_1 a0_2 a0_3 a0_4 a0_5 a0_6 a0_7 x23_8 x15_6 t238 _ A53.out).mono ?_);rintro e w59 ⟨rfl,hb⟩;have n0_:=Zf.mk (Kd.Z9 (by (with_reducible repeat (first|apply Kd.Zv|apply Kd.Zu|apply Kd.Zz));exact HO_9.out) hb);have n1_:=Zf.mk (Zw (g:=gb216) (o:=.cells #[.int .i64 a0_0,.int .i64 a0_1,.int .i64 a0_2,.int .i64 a0_3,.int .i64 a0_4,.int .i64 a0_5,.int .i64 a0_6,.int .u8 a0_7] 51 (0,0)) (by (with_reducible repeat (first|refine Zk ?_ _|refine Zn ?_|refine Zl ?_ _));exact BK216.out) hb);have n2_:=Zf.mk (Zm (by repeat (first|(with_reducible first|exact HB.out|apply Ze|apply Zc|apply Zd|refine Zg ?_ GE216.out)|exact HB.out)) hb);clear HO_9;clear BK216;clear HB;have HO_9:=n0_;have BK216:=n1_;have HB:=n2_;clear n0_ n1_ n2_;(try clear hb);(try clear hb2);(try clear hk);(try clear hi))|(go_at_call 21;(with_reducible refine (Yk.calls x22_8 t239 _ A55.out).mono ?_);rintro e w' ⟨rfl,⟨nd,rfl⟩⟩;(try first|exact ⟨rfl,_,World.drewN_drewN _ _ _⟩|exact ⟨rfl,_,Eq.trans (World.drewN_drewN _ _ _) (congrArg (World.drewN _) (Nat.add_assoc _ _ _))⟩))|((with_reducible refine gate_builtin (b:=.append) (xs:=#[.tmp 168,.tmp 171]) rfl ?_);at_builtin;refine Kd.R_append (Kd.int .u8) (w0:=w) w.heap.size rfl (.tmp 168) (.tmp 171) 35 5 (.int .u8 0) 1 rfl Tryd.underlying35 info5 rfl (by decide) (by omega) u9 x9_8 t239 [.int .u8 t239] (fun _ => True) (fun _ => False) rfl rfl ?aP (fun _ hk => hk.elim) ?aF ?aO ?aB ?aS ?aL ?_;(case aP => exact rfl);(case aB => exact (by repeat (first|(with_reducible first|exact HB.out|apply Ze|apply Zc|apply Zd|refine Zg ?_ GE216.out)|exact HB.out)));(case aF => exact (fun _ _ => trivial));(case aO => exact (by (with_reducible repeat (first|apply Kd.Zv|apply Kd.Zu|apply Kd.Zz));exact HO_9.out));(case aS => exact (Zo (by repeat (first|(with_reducible first|exact HB.out|apply Ze|apply Zc|apply Zd|refine Zg ?_ GE216.out)|exact HB.out))));(case aL => have:=LMc56.out;omega);intro v241 w60 ho hb hg hat;rw [← Ny240.out] at ho;have n0_:=Zf.mk (blk_grown (g:=gb216) (o:=.cells #[.int .i64 a0_0,.int .i64 a0_1,.int .i64 a0_2,.int .i64 a0_3,.int .i64 a0_4,.int .i64 a0_5,.int .i64 a0_6,.int .u8 a0_7] 51 (0,0)) (by (with_reducible repeat (first|refine Zk ?_ _|refine Zn ?_|refine Zl ?_ _));exact BK216.out) hg (Kd.R_ne HO_9.out BK216.out (by decide)));have n1_:=Zf.mk (hb);have n2_:=Zf.mk (ho);clear BK216;clear HB;clear HO_9;have BK216:=n0_;have HB:=n1_;have HO242:=n2_;clear n0_ n1_ n2_;clear ho hb hg hat;have hcz61_0 : w60.cell? ⟨gb216,0,none⟩=some (.int .i64 a0_0):=(Zb BK216.out 0).trans rfl;have hcz61_1 : w60.cell? ⟨gb216,1,none⟩=some (.int .i64 a0_1):=(Zb BK216.out 1).trans rfl;have hcz61_2 : w60.cell? ⟨gb216,2,none⟩=some (.int .i64 a0_2):=(Zb BK216.out 2).trans rfl;have hcz61_3 : w60.cell? ⟨gb216,3,none⟩=some (.int .i64 a0_3):=(Zb BK216.out 3).trans rfl;have hcz61_4 : w60.cell? ⟨gb216,4,none⟩=some (.int .i64 a0_4):=(Zb BK216.out 4).trans rfl;have hcz61_5 : w60.cell? ⟨gb216,5,none⟩=some (.int .i64 a0_5):=(Zb BK216.out 5).trans rfl;have hcz61_6 : w60.cell? ⟨gb216,6,none⟩=some (.int .i64 a0_6):=(Zb BK216.out 6).trans rfl;have hcz61_7 : w60.cell? ⟨gb216,7,none⟩=some (.int .u8 a0_7):=(Zb BK216.out 7).trans rfl;have hfz61_0:=Za BK216.out 0;have hfz61_1:=Za BK216.out 1;have hfz61_2:=Za BK216.out 2;have hfz61_3:=Za BK216.out 3;have hfz61_4:=Za BK216.out 4;have hfz61_5:=Za BK216.out 5;have hfz61_6:=Za BK216.out 6;have hfz61_7:=Za BK216.out 7)|(go_at_call 43;(with_reducible refine (Zy.calls k8 a0_0 a0_1 a0_2 a0_3 a0_4 a0_5 a0_6 a0_7 x14_47 (wrap64 (x16_6 + 1)) (x16_6 == (x9_2.length : Int)) t243 _ A57.out).mono ?_);rintro e w62 ⟨rfl,hb⟩;have n0_:=Zf.mk (Kd.Z9 (by (with_reducible repeat (first|apply Kd.Zv|apply Kd.Zu|apply Kd.Zz));exact HO242.out) hb);have n1_:=Zf.mk (Zw (g:=gb216) (o:=.cells #[.int .i64 a0_0,.int .i64 a0_1,.int .i64 a0_2,.int .i64 a0_3,.int .i64 a0_4,.int .i64 a0_5,.int .i64 a0_6,.int .u8 a0_7] 51 (0,0)) (by (with_reducible repeat (first|refine Zk ?_ _|refine Zn ?_|refine Zl ?_ _));exact BK216.out) hb);have n2_:=Zf.mk (Zm (by repeat (first|(with_reducible first|exact HB.out|apply Ze|apply Zc|apply Zd|refine Zg ?_ GE216.out)|exact HB.out)) hb);clear HO242;clear BK216;clear HB;have HO242:=n0_;have BK216:=n1_;have HB:=n2_;clear n0_ n1_ n2_;(try clear hb);(try clear hb2);(try clear hk);(try clear hi))))
                             go_roundg k8
                             case measure => have:=HK1.out;have:=HK2.out;have:=HJ30.out;have:=HK4.out;have:=HK5.out;have:=HK6.out;have:=HJ47.out;have:=HK8.out;omega
                             case rel => exact ⟨(y240),(0),(t243),(wrap64 (x16_6 + 1)),(wrap64 (x116_6 + 1)),(by first|rfl|(simp;done)|(simp [*];done)),(by first|rfl|(simp;done)|(simp [*];done)),(by first|rfl|(simp;done)|(simp [*];done)),(by first|rfl|(simp;done)|(simp [*];done)),H',⟨by have:=HK1.out;have:=HK2.out;have:=HJ30.out;have:=HK4.out;have:=HK5.out;have:=HK6.out;have:=HJ47.out;have:=HK8.out;omega⟩,⟨by (with_reducible repeat (first|apply Kd.Zv|apply Kd.Zu|apply Kd.Zz));exact HO242.out⟩,⟨by (with_reducible repeat (first|refine Zk ?_ _|refine Zn ?_|refine Zl ?_ _));exact BK216.out⟩,⟨by repeat (first|(with_reducible first|exact HB.out|apply Ze|apply Zc|apply Zd|refine Zg ?_ GE216.out)|exact HB.out)⟩⟩
                            ·rw [if_neg c56] at H
                             exact absurd H (by simp)
                           ·rw [if_neg c54] at H
                            have c54b0 : decide (x22_8 < t238)=false:=decide_eq_false c54
                            clear c54
                            by_cases c63 : (wrap64 (a0_0 - t238))=0
                            ·rw [if_pos c63] at H
                             exact absurd H (by simp)
                            ·rw [if_neg c63] at H
                             have c63b0 : ((wrap64 (a0_0 - t238)) == 0)=false:=beq_eq_false_iff_ne.mpr c63
                             have c63b1 : ((wrap64 (a0_0 - t238)) != 0)=true:=bne_iff_ne.mpr c63
                             replace H:=Option.bind_eq_some_iff.mp H
                             obtain ⟨t244,A640,H⟩:=H
                             replace H : (if x9_8.length < 140737488355328 then (Zh.l5 k8 l1 (x9_8++[t244]) (x9_2.length : Int) x17_5 x14_47 x15_6 x16_6 (wrap64 (Int.tdiv (wrap64 (x22_8 - t238)) (wrap64 (a0_0 - t238)))) (wrap64 (x23_8 + a0_0)) l1 (l1.length : Int) x116_6 a0_0 a0_1 a0_2 a0_3 a0_4 a0_5 a0_6 a0_7) else (none))=some (r1,r2,r3):=H
                             have A64:=Zf.mk A640
                             clear A640
                             by_cases c65 : x9_8.length < 140737488355328
                             ·rw [if_pos c65] at H
                              have LMc65:=Zf.mk c65
                              clear c65
                              obtain ⟨y245,hy245⟩ : ∃ y_ : List Int,y_=(x9_8++[t244]):=⟨_,rfl⟩
                              replace H : (Zh.l5 k8 l1 y245 (x9_2.length : Int) x17_5 x14_47 x15_6 x16_6 (wrap64 (Int.tdiv (wrap64 (x22_8 - t238)) (wrap64 (a0_0 - t238)))) (wrap64 (x23_8 + a0_0)) l1 (l1.length : Int) x116_6 a0_0 a0_1 a0_2 a0_3 a0_4 a0_5 a0_6 a0_7)=some (r1,r2,r3):=by first|(rw [hy245];with_reducible exact H)|(have H2_:=(Option.bind_some _ _).symm.trans H;rw [hy245];with_reducible exact H2_)|(have H2_:=(Option.bind_some _ _).symm.trans H;with_reducible exact H2_)|with_reducible exact H|(rw [hy245];exact H)|exact H
                              have Ny245:=Zf.mk hy245
                              clear hy245
                              have H':=Zf.mk H
                              clear H
                              have hcz66_0 : wr.cell? ⟨gb216,0,none⟩=some (.int .i64 a0_0):=(Zb BK216.out 0).trans rfl
                              have hcz66_1 : wr.cell? ⟨gb216,1,none⟩=some (.int .i64 a0_1):=(Zb BK216.out 1).trans rfl
                              have hcz66_2 : wr.cell? ⟨gb216,2,none⟩=some (.int .i64 a0_2):=(Zb BK216.out 2).trans rfl
                              have hcz66_3 : wr.cell? ⟨gb216,3,none⟩=some (.int .i64 a0_3):=(Zb BK216.out 3).trans rfl
                              have hcz66_4 : wr.cell? ⟨gb216,4,none⟩=some (.int .i64 a0_4):=(Zb BK216.out 4).trans rfl
                              have hcz66_5 : wr.cell? ⟨gb216,5,none⟩=some (.int .i64 a0_5):=(Zb BK216.out 5).trans rfl
                              have hcz66_6 : wr.cell? ⟨gb216,6,none⟩=some (.int .i64 a0_6):=(Zb BK216.out 6).trans rfl
                              have hcz66_7 : wr.cell? ⟨gb216,7,none⟩=some (.int .u8 a0_7):=(Zb BK216.out 7).trans rfl
                              have hfz66_0:=Za BK216.out 0
                              have hfz66_1:=Za BK216.out 1
                              have hfz66_2:=Za BK216.out 2
                              have hfz66_3:=Za BK216.out 3
                              have hfz66_4:=Za BK216.out 4
                              have hfz66_5:=Za BK216.out 5
                              have hfz66_6:=Za BK216.out 6
                              have hfz66_7:=Za BK216.out 7
                              go_wp2_with (first|(go_at_call 42;(with_reducible refine (Z6.calls a0_0 a0_1 a0_2 a0_3 a0_4 a0_5 a0_6 a0_7 x23_8 x15_6 t238 _ A53.out).mono ?_);rintro e w67 ⟨rfl,hb⟩;have n0_:=Zf.mk (Kd.Z9 (by (with_reducible repeat (first|apply Kd.Zv|apply Kd.Zu|apply Kd.Zz));exact HO_9.out) hb);have n1_:=Zf.mk (Zw (g:=gb216) (o:=.cells #[.int .i64 a0_0,.int .i64 a0_1,.int .i64 a0_2,.int .i64 a0_3,.int .i64 a0_4,.int .i64 a0_5,.int .i64 a0_6,.int .u8 a0_7] 51 (0,0)) (by (with_reducible repeat (first|refine Zk ?_ _|refine Zn ?_|refine Zl ?_ _));exact BK216.out) hb);have n2_:=Zf.mk (Zm (by repeat (first|(with_reducible first|exact HB.out|apply Ze|apply Zc|apply Zd|refine Zg ?_ GE216.out)|exact HB.out)) hb);clear HO_9;clear BK216;clear HB;have HO_9:=n0_;have BK216:=n1_;have HB:=n2_;clear n0_ n1_ n2_;(try clear hb);(try clear hb2);(try clear hk);(try clear hi);have hcz68_0 : w67.cell? ⟨gb216,0,none⟩=some (.int .i64 a0_0):=(Zb BK216.out 0).trans rfl;have hcz68_1 : w67.cell? ⟨gb216,1,none⟩=some (.int .i64 a0_1):=(Zb BK216.out 1).trans rfl;have hcz68_2 : w67.cell? ⟨gb216,2,none⟩=some (.int .i64 a0_2):=(Zb BK216.out 2).trans rfl;have hcz68_3 : w67.cell? ⟨gb216,3,none⟩=some (.int .i64 a0_3):=(Zb BK216.out 3).trans rfl;have hcz68_4 : w67.cell? ⟨gb216,4,none⟩=some (.int .i64 a0_4):=(Zb BK216.out 4).trans rfl;have hcz68_5 : w67.cell? ⟨gb216,5,none⟩=some (.int .i64 a0_5):=(Zb BK216.out 5).trans rfl;have hcz68_6 : w67.cell? ⟨gb216,6,none⟩=some (.int .i64 a0_6):=(Zb BK216.out 6).trans rfl;have hcz68_7 : w67.cell? ⟨gb216,7,none⟩=some (.int .u8 a0_7):=(Zb BK216.out 7).trans rfl;have hfz68_0:=Za BK216.out 0;have hfz68_1:=Za BK216.out 1;have hfz68_2:=Za BK216.out 2;have hfz68_3:=Za BK216.out 3;have hfz68_4:=Za BK216.out 4;have hfz68_5:=Za BK216.out 5;have hfz68_6:=Za BK216.out 6;have hfz68_7:=Za BK216.out 7)|(go_at_call 21;(with_reducible refine (Yk.calls (wrap64 (t238 + (Int.tmod (wrap64 (x22_8 - t238)) (wrap64 (a0_0 - t238))))) t244 _ A64.out).mono ?_);rintro e w' ⟨rfl,⟨nd,rfl⟩⟩;(try first|exact ⟨rfl,_,World.drewN_drewN _ _ _⟩|exact ⟨rfl,_,Eq.trans (World.drewN_drewN _ _ _) (congrArg (World.drewN _) (Nat.add_assoc _ _ _))⟩))|((with_reducible refine gate_builtin (b:=.append) (xs:=#[.tmp 142,.tmp 154]) rfl ?_);at_builtin;refine Kd.R_append (Kd.int .u8) (w0:=w) w.heap.size rfl (.tmp 142) (.tmp 154) 35 5 (.int .u8 0) 1 rfl Tryd.underlying35 info5 rfl (by decide) (by omega) u9 x9_8 t244 [.int .u8 t244] (fun _ => True) (fun _ => False) rfl rfl ?aP (fun _ hk => hk.elim) ?aF ?aO ?aB ?aS ?aL ?_;(case aP => exact rfl);(case aB => exact (by repeat (first|(with_reducible first|exact HB.out|apply Ze|apply Zc|apply Zd|refine Zg ?_ GE216.out)|exact HB.out)));(case aF => exact (fun _ _ => trivial));(case aO => exact (by (with_reducible repeat (first|apply Kd.Zv|apply Kd.Zu|apply Kd.Zz));exact HO_9.out));(case aS => exact (Zo (by repeat (first|(with_reducible first|exact HB.out|apply Ze|apply Zc|apply Zd|refine Zg ?_ GE216.out)|exact HB.out))));(case aL => have:=LMc65.out;omega);intro v246 w69 ho hb hg hat;rw [← Ny245.out] at ho;have n0_:=Zf.mk (blk_grown (g:=gb216) (o:=.cells #[.int .i64 a0_0,.int .i64 a0_1,.int .i64 a0_2,.int .i64 a0_3,.int .i64 a0_4,.int .i64 a0_5,.int .i64 a0_6,.int .u8 a0_7] 51 (0,0)) (by (with_reducible repeat (first|refine Zk ?_ _|refine Zn ?_|refine Zl ?_ _));exact BK216.out) hg (Kd.R_ne HO_9.out BK216.out (by decide)));have n1_:=Zf.mk (hb);have n2_:=Zf.mk (ho);clear BK216;clear HB;clear HO_9;have BK216:=n0_;have HB:=n1_;have HO247:=n2_;clear n0_ n1_ n2_;clear ho hb hg hat;have hcz70_0 : w69.cell? ⟨gb216,0,none⟩=some (.int .i64 a0_0):=(Zb BK216.out 0).trans rfl;have hcz70_1 : w69.cell? ⟨gb216,1,none⟩=some (.int .i64 a0_1):=(Zb BK216.out 1).trans rfl;have hcz70_2 : w69.cell? ⟨gb216,2,none⟩=some (.int .i64 a0_2):=(Zb BK216.out 2).trans rfl;have hcz70_3 : w69.cell? ⟨gb216,3,none⟩=some (.int .i64 a0_3):=(Zb BK216.out 3).trans rfl;have hcz70_4 : w69.cell? ⟨gb216,4,none⟩=some (.int .i64 a0_4):=(Zb BK216.out 4).trans rfl;have hcz70_5 : w69.cell? ⟨gb216,5,none⟩=some (.int .i64 a0_5):=(Zb BK216.out 5).trans rfl;have hcz70_6 : w69.cell? ⟨gb216,6,none⟩=some (.int .i64 a0_6):=(Zb BK216.out 6).trans rfl;have hcz70_7 : w69.cell? ⟨gb216,7,none⟩=some (.int .u8 a0_7):=(Zb BK216.out 7).trans rfl;have hfz70_0:=Za BK216.out 0;have hfz70_1:=Za BK216.out 1;have hfz70_2:=Za BK216.out 2;have hfz70_3:=Za BK216.out 3;have hfz70_4:=Za BK216.out 4;have hfz70_5:=Za BK216.out 5;have hfz70_6:=Za BK216.out 6;have hfz70_7:=Za BK216.out 7))
                              repeat (go_quiet (first|(go_at_call 42;(with_reducible refine (Z6.calls a0_0 a0_1 a0_2 a0_3 a0_4 a0_5 a0_6 a0_7 x23_8 x15_6 t238 _ A53.out).mono ?_);rintro e w67 ⟨rfl,hb⟩;have n0_:=Zf.mk (Kd.Z9 (by (with_reducible repeat (first|apply Kd.Zv|apply Kd.Zu|apply Kd.Zz));exact HO_9.out) hb);have n1_:=Zf.mk (Zw (g:=gb216) (o:=.cells #[.int .i64 a0_0,.int .i64 a0_1,.int .i64 a0_2,.int .i64 a0_3,.int .i64 a0_4,.int .i64 a0_5,.int .i64 a0_6,.int .u8 a0_7] 51 (0,0)) (by (with_reducible repeat (first|refine Zk ?_ _|refine Zn ?_|refine Zl ?_ _));exact BK216.out) hb);have n2_:=Zf.mk (Zm (by repeat (first|(with_reducible first|exact HB.out|apply Ze|apply Zc|apply Zd|refine Zg ?_ GE216.out)|exact HB.out)) hb);clear HO_9;clear BK216;clear HB;have HO_9:=n0_;have BK216:=n1_;have HB:=n2_;clear n0_ n1_ n2_;(try clear hb);(try clear hb2);(try clear hk);(try clear hi);have hcz68_0 : w67.cell? ⟨gb216,0,none⟩=some (.int .i64 a0_0):=(Zb BK216.out 0).trans rfl;have hcz68_1 : w67.cell? ⟨gb216,1,none⟩=some (.int .i64 a0_1):=(Zb BK216.out 1).trans rfl;have hcz68_2 : w67.cell? ⟨gb216,2,none⟩=some (.int .i64 a0_2):=(Zb BK216.out 2).trans rfl;have hcz68_3 : w67.cell? ⟨gb216,3,none⟩=some (.int .i64 a0_3):=(Zb BK216.out 3).trans rfl;have hcz68_4 : w67.cell? ⟨gb216,4,none⟩=some (.int .i64 a0_4):=(Zb BK216.out 4).trans rfl;have hcz68_5 : w67.cell? ⟨gb216,5,none⟩=some (.int .i64 a0_5):=(Zb BK216.out 5).trans rfl;have hcz68_6 : w67.cell? ⟨gb216,6,none⟩=some (.int .i64 a0_6):=(Zb BK216.out 6).trans rfl;have hcz68_7 : w67.cell? ⟨gb216,7,none⟩=some (.int .u8 a0_7):=(Zb BK216.out 7).trans rfl;have hfz68_0:=Za BK216.out 0;have hfz68_1:=Za BK216.out 1;have hfz68_2:=Za BK216.out 2;have hfz68_3:=Za BK216.out 3;have hfz68_4:=Za BK216.out 4;have hfz68_5:=Za BK216.out 5;have hfz68_6:=Za BK216.out 6;have hfz68_7:=Za BK216.out 7)|(go_at_call 21;(with_reducible refine (Yk.calls (wrap64 (t238 + (Int.tmod (wrap64 (x22_8 - t238)) (wrap64 (a0_0 - t238))))) t244 _ A64.out).mono ?_);rintro e w' ⟨rfl,⟨nd,rfl⟩⟩;(try first|exact ⟨rfl,_,World.drewN_drewN _ _ _⟩|exact ⟨rfl,_,Eq.trans (World.drewN_drewN _ _ _) (congrArg (World.drewN _) (Nat.add_assoc _ _ _))⟩))|((with_reducible refine gate_builtin (b:=.append) (xs:=#[.tmp 142,.tmp 154]) rfl ?_);at_builtin;refine Kd.R_append (Kd.int .u8) (w0:=w) w.heap.size rfl (.tmp 142) (.tmp 154) 35 5 (.int .u8 0) 1 rfl Tryd.underlying35 info5 rfl (by decide) (by omega) u9 x9_8 t244 [.int .u8 t244] (fun _ => True) (fun _ => False) rfl rfl ?aP (fun _ hk => hk.elim) ?aF ?aO ?aB ?aS ?aL ?_;(case aP => exact rfl);(case aB => exact (by repeat (first|(with_reducible first|exact HB.out|apply Ze|apply Zc|apply Zd|refine Zg ?_ GE216.out)|exact HB.out)));(case aF => exact (fun _ _ => trivial));(case aO => exact (by (with_reducible repeat (first|apply Kd.Zv|apply Kd.Zu|apply Kd.Zz));exact HO_9.out));(case aS => exact (Zo (by repeat (first|(with_reducible first|exact HB.out|apply Ze|apply Zc|apply Zd|refine Zg ?_ GE216.out)|exact HB.out))));(case aL => have:=LMc65.out;omega);intro v246 w69 ho hb hg hat;rw [← Ny245.out] at ho;have n0_:=Zf.mk (blk_grown (g:=gb216) (o:=.cells #[.int .i64 a0_0,.int .i64 a0_1,.int .i64 a0_2,.int .i64 a0_3,.int .i64 a0_4,.int .i64 a0_5,.int .i64 a0_6,.int .u8 a0_7] 51 (0,0)) (by (with_reducible repeat (first|refine Zk ?_ _|refine Zn ?_|refine Zl ?_ _));exact BK216.out) hg (Kd.R_ne HO_9.out BK216.out (by decide)));have n1_:=Zf.mk (hb);have n2_:=Zf.mk (ho);clear BK216;clear HB;clear HO_9;have BK216:=n0_;have HB:=n1_;have HO247:=n2_;clear n0_ n1_ n2_;clear ho hb hg hat;have hcz70_0 : w69.cell? ⟨gb216,0,none⟩=some (.int .i64 a0_0):=(Zb BK216.out 0).trans rfl;have hcz70_1 : w69.cell? ⟨gb216,1,none⟩=some (.int .i64 a0_1):=(Zb BK216.out 1).trans rfl;have hcz70_2 : w69.cell? ⟨gb216,2,none⟩=some (.int .i64 a0_2):=(Zb BK216.out 2).trans rfl;have hcz70_3 : w69.cell? ⟨gb216,3,none⟩=some (.int .i64 a0_3):=(Zb BK216.out 3).trans rfl;have hcz70_4 : w69.cell? ⟨gb216,4,none⟩=some (.int .i64 a0_4):=(Zb BK216.out 4).trans rfl;have hcz70_5 : w69.cell? ⟨gb216,5,none⟩=some (.int .i64 a0_5):=(Zb BK216.out 5).trans rfl;have hcz70_6 : w69.cell? ⟨gb216,6,none⟩=some (.int .i64 a0_6):=(Zb BK216.out 6).trans rfl;have hcz70_7 : w69.cell? ⟨gb216,7,none⟩=some (.int .u8 a0_7):=(Zb BK216.out 7).trans rfl;have hfz70_0:=Za BK216.out 0;have hfz70_1:=Za BK216.out 1;have hfz70_2:=Za BK216.out 2;have hfz70_3:=Za BK216.out 3;have hfz70_4:=Za BK216.out 4;have hfz70_5:=Za BK216.out 5;have hfz70_6:=Za BK216.out 6;have hfz70_7:=Za BK216.out 7));try go_wp2_with (first|(go_at_call 42;(with_reducible refine (Z6.calls a0_0 a0_1 a0_2 a0_3 a0_4 a0_5 a0_6 a0_7 x23_8 x15_6 t238 _ A53.out).mono ?_);rintro e w67 ⟨rfl,hb⟩;have n0_:=Zf.mk (Kd.Z9 (by (with_reducible repeat (first|apply Kd.Zv|apply Kd.Zu|apply Kd.Zz));exact HO_9.out) hb);have n1_:=Zf.mk (Zw (g:=gb216) (o:=.cells #[.int .i64 a0_0,.int .i64 a0_1,.int .i64 a0_2,.int .i64 a0_3,.int .i64 a0_4,.int .i64 a0_5,.int .i64 a0_6,.int .u8 a0_7] 51 (0,0)) (by (with_reducible repeat (first|refine Zk ?_ _|refine Zn ?_|refine Zl ?_ _));exact BK216.out) hb);have n2_:=Zf.mk (Zm (by repeat (first|(with_reducible first|exact HB.out|apply Ze|apply Zc|apply Zd|refine Zg ?_ GE216.out)|exact HB.out)) hb);clear HO_9;clear BK216;clear HB;have HO_9:=n0_;have BK216:=n1_;have HB:=n2_;clear n0_ n1_ n2_;(try clear hb);(try clear hb2);(try clear hk);(try clear hi);have hcz68_0 : w67.cell? ⟨gb216,0,none⟩=some (.int .i64 a0_0):=(Zb BK216.out 0).trans rfl;have hcz68_1 : w67.cell? ⟨gb216,1,none⟩=some (.int .i64 a0_1):=(Zb BK216.out 1).trans rfl;have hcz68_2 : w67.cell? ⟨gb216,2,none⟩=some (.int .i64 a0_2):=(Zb BK216.out 2).trans rfl;have hcz68_3 : w67.cell? ⟨gb216,3,none⟩=some (.int .i64 a0_3):=(Zb BK216.out 3).trans rfl;have hcz68_4 : w67.cell? ⟨gb216,4,none⟩=some (.int .i64 a0_4):=(Zb BK216.out 4).trans rfl;have hcz68_5 : w67.cell? ⟨gb216,5,none⟩=some (.int .i64 a0_5):=(Zb BK216.out 5).trans rfl;have hcz68_6 : w67.cell? ⟨gb216,6,none⟩=some (.int .i64 a0_6):=(Zb BK216.out 6).trans rfl;have hcz68_7 : w67.cell? ⟨gb216,7,none⟩=some (.int .u8 a0_7):=(Zb BK216.out 7).trans rfl;have hfz68_0:=Za BK216.out 0;have hfz68_1:=Za BK216.out 1;have hfz68_2:=Za BK216.out 2;have hfz68_3:=Za BK216.out 3;have hfz68_4:=Za BK216.out 4;have hfz68_5:=Za BK216.out 5;have hfz68_6:=Za BK216.out 6;have hfz68_7:=Za BK216.out 7)|(go_at_call 21;(with_reducible refine (Yk.calls (wrap64 (t238 + (Int.tmod (wrap64 (x22_8 - t238)) (wrap64 (a0_0 - t238))))) t244 _ A64.out).mono ?_);rintro e w' ⟨rfl,⟨nd,rfl⟩⟩;(try first|exact ⟨rfl,_,World.drewN_drewN _ _ _⟩|exact ⟨rfl,_,Eq.trans (World.drewN_drewN _ _ _) (congrArg (World.drewN _) (Nat.add_assoc _ _ _))⟩))|((with_reducible refine gate_builtin (b:=.append) (xs:=#[.tmp 142,.tmp 154]) rfl ?_);at_builtin;refine Kd.R_append (Kd.int .u8) (w0:=w) w.heap.size rfl (.tmp 142) (.tmp 154) 35 5 (.int .u8 0) 1 rfl Tryd.underlying35 info5 rfl (by decide) (by omega) u9 x9_8 t244 [.int .u8 t244] (fun _ => True) (fun _ => False) rfl rfl ?aP (fun _ hk => hk.elim) ?aF ?aO ?aB ?aS ?aL ?_;(case aP => exact rfl);(case aB => exact (by repeat (first|(with_reducible first|exact HB.out|apply Ze|apply Zc|apply Zd|refine Zg ?_ GE216.out)|exact HB.out)));(case aF => exact (fun _ _ => trivial));(case aO => exact (by (with_reducible repeat (first|apply Kd.Zv|apply Kd.Zu|apply Kd.Zz));exact HO_9.out));(case aS => exact (Zo (by repeat (first|(with_reducible first|exact HB.out|apply Ze|apply Zc|apply Zd|refine Zg ?_ GE216.out)|exact HB.out))));(case aL => have:=LMc65.out;omega);intro v246 w69 ho hb hg hat;rw [← Ny245.out] at ho;have n0_:=Zf.mk (blk_grown (g:=gb216) (o:=.cells #[.int .i64 a0_0,.int .i64 a0_1,.int .i64 a0_2,.int .i64 a0_3,.int .i64 a0_4,.int .i64 a0_5,.int .i64 a0_6,.int .u8 a0_7] 51 (0,0)) (by (with_reducible repeat (first|refine Zk ?_ _|refine Zn ?_|refine Zl ?_ _));exact BK216.out) hg (Kd.R_ne HO_9.out BK216.out (by decide)));have n1_:=Zf.mk (hb);have n2_:=Zf.mk (ho);clear BK216;clear HB;clear HO_9;have BK216:=n0_;have HB:=n1_;have HO247:=n2_;clear n0_ n1_ n2_;clear ho hb hg hat;have hcz70_0 : w69.cell? ⟨gb216,0,none⟩=some (.int .i64 a0_0):=(Zb BK216.out 0).trans rfl;have hcz70_1 : w69.cell? ⟨gb216,1,none⟩=some (.int .i64 a0_1):=(Zb BK216.out 1).trans rfl;have hcz70_2 : w69.cell? ⟨gb216,2,none⟩=some (.int .i64 a0_2):=(Zb BK216.out 2).trans rfl;have hcz70_3 : w69.cell? ⟨gb216,3,none⟩=some (.int .i64 a0_3):=(Zb BK216.out 3).trans rfl;have hcz70_4 : w69.cell? ⟨gb216,4,none⟩=some (.int .i64 a0_4):=(Zb BK216.out 4).trans rfl;have hcz70_5 : w69.cell? ⟨gb216,5,none⟩=some (.int .i64 a0_5):=(Zb BK216.out 5).trans rfl;have hcz70_6 : w69.cell? ⟨gb216,6,none⟩=some (.int .i64 a0_6):=(Zb BK216.out 6).trans rfl;have hcz70_7 : w69.cell? ⟨gb216,7,none⟩=some (.int .u8 a0_7):=(Zb BK216.out 7).trans rfl;have hfz70_0:=Za BK216.out 0;have hfz70_1:=Za BK216.out 1;have hfz70_2:=Za BK216.out 2;have hfz70_3:=Za BK216.out 3;have hfz70_4:=Za BK216.out 4;have hfz70_5:=Za BK216.out 5;have hfz70_6:=Za BK216.out 6;have hfz70_7:=Za BK216.out 7)))
                              go_roundg k8
                              case measure => have:=HK1.out;have:=HK2.out;have:=HJ30.out;have:=HK4.out;have:=HK5.out;have:=HK6.out;have:=HJ47.out;have:=HK8.out;omega
                              case rel => exact ⟨(y245),(wrap64 (Int.tdiv (wrap64 (x22_8 - t238)) (wrap64 (a0_0 - t238)))),(wrap64 (x23_8 + a0_0)),(by first|rfl|(simp;done)|(simp [*];done)),(by first|rfl|(simp;done)|(simp [*];done)),H',⟨by have:=HK1.out;have:=HK2.out;have:=HJ30.out;have:=HK4.out;have:=HK5.out;have:=HK6.out;have:=HJ47.out;have:=HK8.out;omega⟩,⟨by (with_reducible repeat (first|apply Kd.Zv|apply Kd.Zu|apply Kd.Zz));exact HO247.out⟩,⟨by (with_reducible repeat (first|refine Zk ?_ _|refine Zn ?_|refine Zl ?_ _));exact BK216.out⟩,⟨by repeat (first|(with_reducible first|exact HB.out|apply Ze|apply Zc|apply Zd|refine Zg ?_ GE216.out)|exact HB.out)⟩⟩
                             ·rw [if_neg c65] at H
                              exact absurd H (by simp)
                        ·rw [if_neg c51] at H
                         have c51b0 : ((wrap64 ((rd l1 x116_6))) == x17_5)=false:=beq_eq_false_iff_ne.mpr c51
                         have c51b1 : ((wrap64 ((rd l1 x116_6))) != x17_5)=true:=bne_iff_ne.mpr c51
                         have H':=Zf.mk H
                         clear H
                         go_wp2
                         repeat (go_quiet (fail);try go_wp2)
                         go_roundg kj47
                         case measure => have:=HK1.out;have:=HK2.out;have:=HJ30.out;have:=HK4.out;have:=HK5.out;have:=HK6.out;have:=HJ47.out;omega
                         case rel => exact ⟨(x9_6),(x14_47),(x15_6),(x16_6),(wrap64 (x116_6 + 1)),(by first|rfl|(simp;done)|(simp [*];done)),(by first|rfl|(simp;done)|(simp [*];done)),(by first|rfl|(simp;done)|(simp [*];done)),(by first|rfl|(simp;done)|(simp [*];done)),H',⟨by have:=HK1.out;have:=HK2.out;have:=HJ30.out;have:=HK4.out;have:=HK5.out;have:=HK6.out;have:=HJ47.out;omega⟩,⟨by (with_reducible repeat (first|apply Kd.Zv|apply Kd.Zu|apply Kd.Zz));exact HO_9.out⟩,⟨by (with_reducible repeat (first|refine Zk ?_ _|refine Zn ?_|refine Zl ?_ _));exact BK216.out⟩,⟨by repeat (first|(with_reducible first|exact HB.out|apply Ze|apply Zc|apply Zd|refine Zg ?_ GE216.out)|exact HB.out)⟩⟩
                     ·rw [if_neg c47] at H
                      exact absurd H (by simp)
                    ·rw [if_neg c46] at H
                     exact absurd H (by simp)
                   ·rw [if_neg c45] at H
                    have c45b0 : decide (x116_6 < (l1.length : Int))=false:=decide_eq_false c45
                    clear c45
                    have H':=Zf.mk H
                    clear H
                    go_wp2
                    repeat (go_quiet (fail);try go_wp2)
                    go_roundg k6
                    case measure => have:=HK1.out;have:=HK2.out;have:=HJ30.out;have:=HK4.out;have:=HK5.out;have:=HK6.out;omega
                    case rel => exact ⟨(x9_6),(wrap64 (x17_5 + 1)),(wrap64 (x14_6 + 1)),(x15_6),(x16_6),(by first|rfl|(simp;done)|(simp [*];done)),(by first|rfl|(simp;done)|(simp [*];done)),(by first|rfl|(simp;done)|(simp [*];done)),(by first|rfl|(simp;done)|(simp [*];done)),H',⟨by have:=HK1.out;have:=HK2.out;have:=HJ30.out;have:=HK4.out;have:=HK5.out;have:=HK6.out;omega⟩,⟨by (with_reducible repeat (first|apply Kd.Zv|apply Kd.Zu|apply Kd.Zz));exact HO_9.out⟩,⟨by (with_reducible repeat (first|refine Zk ?_ _|refine Zn ?_|refine Zl ?_ _));exact BK216.out⟩,⟨by repeat (first|(with_reducible first|exact HB.out|apply Ze|apply Zc|apply Zd|refine Zg ?_ GE216.out)|exact HB.out)⟩⟩
            ·rw [if_neg c38] at H
             have c38b0 : decide (x16_4 < (l1.length : Int))=false:=decide_eq_false c38
             clear c38
             replace H:=Option.bind_eq_some_iff.mp H
             obtain ⟨⟨t231,t234,t235⟩,A710,H⟩:=H
             replace H : (if t235=0 then (some (strOfNums x9_4,0,0)) else (some ((⟨#[]⟩ : ByteArray),0,142)))=some (r1,r2,r3):=H
             have A71:=Zf.mk A710
             clear A710
             by_cases c72 : t235=0
             ·rw [if_pos c72] at H
              have c72b0 : (t235 == 0)=true:=beq_iff_eq.mpr c72
              have c72b1 : (t235 != 0)=false:=bne_eq_false_iff_eq.mpr c72
              clear c72
              simp only [Option.some.injEq,Prod.mk.injEq] at H
              obtain ⟨rfl,rfl,rfl⟩:=H
              have hcz73_0 : wr.cell? ⟨gb216,0,none⟩=some (.int .i64 a0_0):=(Zb BK216.out 0).trans rfl
              have hcz73_1 : wr.cell? ⟨gb216,1,none⟩=some (.int .i64 a0_1):=(Zb BK216.out 1).trans rfl
              have hcz73_2 : wr.cell? ⟨gb216,2,none⟩=some (.int .i64 a0_2):=(Zb BK216.out 2).trans rfl
              have hcz73_3 : wr.cell? ⟨gb216,3,none⟩=some (.int .i64 a0_3):=(Zb BK216.out 3).trans rfl
              have hcz73_4 : wr.cell? ⟨gb216,4,none⟩=some (.int .i64 a0_4):=(Zb BK216.out 4).trans rfl
              have hcz73_5 : wr.cell? ⟨gb216,5,none⟩=some (.int .i64 a0_5):=(Zb BK216.out 5).trans rfl
              have hcz73_6 : wr.cell? ⟨gb216,6,none⟩=some (.int .i64 a0_6):=(Zb BK216.out 6).trans rfl
              have hcz73_7 : wr.cell? ⟨gb216,7,none⟩=some (.int .u8 a0_7):=(Zb BK216.out 7).trans rfl
              have hfz73_0:=Za BK216.out 0
              have hfz73_1:=Za BK216.out 1
              have hfz73_2:=Za BK216.out 2
              have hfz73_3:=Za BK216.out 3
              have hfz73_4:=Za BK216.out 4
              have hfz73_5:=Za BK216.out 5
              have hfz73_6:=Za BK216.out 6
              have hfz73_7:=Za BK216.out 7
              have hcv74:=own_string (P:=Tryd.prog) Tryd.underlying35 Tryd.underlying5 Tryd.underlying9 (Kd.own_of_R HO_9.out)
              go_wp2_with (first|(go_at_call 30;(with_reducible refine (Zi.calls k4 a0_0 a0_1 a0_2 a0_3 a0_4 a0_5 a0_6 a0_7 (strOfNums x9_4) t231 t234 t235 _ A71.out).mono ?_);rintro e w75 ⟨v232,rfl,ho0,hb⟩;have n0_:=Zf.mk (Kd.Z9 (by (with_reducible repeat (first|apply Kd.Zv|apply Kd.Zu|apply Kd.Zz));exact HO_9.out) hb);have n1_:=Zf.mk (Kd.R_lower ho0 (Zo (by repeat (first|(with_reducible first|exact HB.out|apply Ze|apply Zc|apply Zd|refine Zg ?_ GE216.out)|exact HB.out))));have n2_:=Zf.mk (Zw (g:=gb216) (o:=.cells #[.int .i64 a0_0,.int .i64 a0_1,.int .i64 a0_2,.int .i64 a0_3,.int .i64 a0_4,.int .i64 a0_5,.int .i64 a0_6,.int .u8 a0_7] 51 (0,0)) (by (with_reducible repeat (first|refine Zk ?_ _|refine Zn ?_|refine Zl ?_ _));exact BK216.out) hb);have n3_:=Zf.mk (Zm (by repeat (first|(with_reducible first|exact HB.out|apply Ze|apply Zc|apply Zd|refine Zg ?_ GE216.out)|exact HB.out)) hb);clear HO_9;clear BK216;clear HB;have HO_9:=n0_;have HO233:=n1_;have BK216:=n2_;have HB:=n3_;clear n0_ n1_ n2_ n3_;(try clear hb);(try clear hb2);(try clear hk);(try clear hi);(try clear ho0);have hcv76:=own_string (P:=Tryd.prog) Tryd.underlying35 Tryd.underlying5 Tryd.underlying9 (Kd.own_of_R HO_9.out)))
              repeat (go_quiet (first|(go_at_call 30;(with_reducible refine (Zi.calls k4 a0_0 a0_1 a0_2 a0_3 a0_4 a0_5 a0_6 a0_7 (strOfNums x9_4) t231 t234 t235 _ A71.out).mono ?_);rintro e w75 ⟨v232,rfl,ho0,hb⟩;have n0_:=Zf.mk (Kd.Z9 (by (with_reducible repeat (first|apply Kd.Zv|apply Kd.Zu|apply Kd.Zz));exact HO_9.out) hb);have n1_:=Zf.mk (Kd.R_lower ho0 (Zo (by repeat (first|(with_reducible first|exact HB.out|apply Ze|apply Zc|apply Zd|refine Zg ?_ GE216.out)|exact HB.out))));have n2_:=Zf.mk (Zw (g:=gb216) (o:=.cells #[.int .i64 a0_0,.int .i64 a0_1,.int .i64 a0_2,.int .i64 a0_3,.int .i64 a0_4,.int .i64 a0_5,.int .i64 a0_6,.int .u8 a0_7] 51 (0,0)) (by (with_reducible repeat (first|refine Zk ?_ _|refine Zn ?_|refine Zl ?_ _));exact BK216.out) hb);have n3_:=Zf.mk (Zm (by repeat (first|(with_reducible first|exact HB.out|apply Ze|apply Zc|apply Zd|refine Zg ?_ GE216.out)|exact HB.out)) hb);clear HO_9;clear BK216;clear HB;have HO_9:=n0_;have HO233:=n1_;have BK216:=n2_;have HB:=n3_;clear n0_ n1_ n2_ n3_;(try clear hb);(try clear hb2);(try clear hk);(try clear hi);(try clear ho0);have hcv76:=own_string (P:=Tryd.prog) Tryd.underlying35 Tryd.underlying5 Tryd.underlying9 (Kd.own_of_R HO_9.out)));try go_wp2_with (first|(go_at_call 30;(with_reducible refine (Zi.calls k4 a0_0 a0_1 a0_2 a0_3 a0_4 a0_5 a0_6 a0_7 (strOfNums x9_4) t231 t234 t235 _ A71.out).mono ?_);rintro e w75 ⟨v232,rfl,ho0,hb⟩;have n0_:=Zf.mk (Kd.Z9 (by (with_reducible repeat (first|apply Kd.Zv|apply Kd.Zu|apply Kd.Zz));exact HO_9.out) hb);have n1_:=Zf.mk (Kd.R_lower ho0 (Zo (by repeat (first|(with_reducible first|exact HB.out|apply Ze|apply Zc|apply Zd|refine Zg ?_ GE216.out)|exact HB.out))));have n2_:=Zf.mk (Zw (g:=gb216) (o:=.cells #[.int .i64 a0_0,.int .i64 a0_1,.int .i64 a0_2,.int .i64 a0_3,.int .i64 a0_4,.int .i64 a0_5,.int .i64 a0_6,.int .u8 a0_7] 51 (0,0)) (by (with_reducible repeat (first|refine Zk ?_ _|refine Zn ?_|refine Zl ?_ _));exact BK216.out) hb);have n3_:=Zf.mk (Zm (by repeat (first|(with_reducible first|exact HB.out|apply Ze|apply Zc|apply Zd|refine Zg ?_ GE216.out)|exact HB.out)) hb);clear HO_9;clear BK216;clear HB;have HO_9:=n0_;have HO233:=n1_;have BK216:=n2_;have HB:=n3_;clear n0_ n1_ n2_ n3_;(try clear hb);(try clear hb2);(try clear hk);(try clear hi);(try clear ho0);have hcv76:=own_string (P:=Tryd.prog) Tryd.underlying35 Tryd.underlying5 Tryd.underlying9 (Kd.own_of_R HO_9.out))))
              go_ret3
              exact ⟨by first|rfl|(simp [Zp,Zq] <;> rfl)|(simp [*,Zp,Zq] <;> rfl),by repeat (first|(with_reducible first|exact HB.out|apply Ze|apply Zc|apply Zd|refine Zg ?_ GE216.out)|exact HB.out)⟩
             ·rw [if_neg c72] at H
              have c72b0 : (t235 == 0)=false:=beq_eq_false_iff_ne.mpr c72
              have c72b1 : (t235 != 0)=true:=bne_iff_ne.mpr c72
              simp only [Option.some.injEq,Prod.mk.injEq] at H
              obtain ⟨rfl,rfl,rfl⟩:=H
              have hcz77_0 : wr.cell? ⟨gb216,0,none⟩=some (.int .i64 a0_0):=(Zb BK216.out 0).trans rfl
              have hcz77_1 : wr.cell? ⟨gb216,1,none⟩=some (.int .i64 a0_1):=(Zb BK216.out 1).trans rfl
              have hcz77_2 : wr.cell? ⟨gb216,2,none⟩=some (.int .i64 a0_2):=(Zb BK216.out 2).trans rfl
              have hcz77_3 : wr.cell? ⟨gb216,3,none⟩=some (.int .i64 a0_3):=(Zb BK216.out 3).trans rfl
              have hcz77_4 : wr.cell? ⟨gb216,4,none⟩=some (.int .i64 a0_4):=(Zb BK216.out 4).trans rfl
              have hcz77_5 : wr.cell? ⟨gb216,5,none⟩=some (.int .i64 a0_5):=(Zb BK216.out 5).trans rfl
              have hcz77_6 : wr.cell? ⟨gb216,6,none⟩=some (.int .i64 a0_6):=(Zb BK216.out 6).trans rfl
              have hcz77_7 : wr.cell? ⟨gb216,7,none⟩=some (.int .u8 a0_7):=(Zb BK216.out 7).trans rfl
              have hfz77_0:=Za BK216.out 0
              have hfz77_1:=Za BK216.out 1
              have hfz77_2:=Za BK216.out 2
              have hfz77_3:=Za BK216.out 3
              have hfz77_4:=Za BK216.out 4
              have hfz77_5:=Za BK216.out 5
              have hfz77_6:=Za BK216.out 6
              have hfz77_7:=Za BK216.out 7
              have hcv78:=own_string (P:=Tryd.prog) Tryd.underlying35 Tryd.underlying5 Tryd.underlying9 (Kd.own_of_R HO_9.out)
              go_wp2_with (first|(go_at_call 30;(with_reducible refine (Zi.calls k4 a0_0 a0_1 a0_2 a0_3 a0_4 a0_5 a0_6 a0_7 (strOfNums x9_4) t231 t234 t235 _ A71.out).mono ?_);rintro e w79 ⟨v232,rfl,ho0,hb⟩;have n0_:=Zf.mk (Kd.Z9 (by (with_reducible repeat (first|apply Kd.Zv|apply Kd.Zu|apply Kd.Zz));exact HO_9.out) hb);have n1_:=Zf.mk (Kd.R_lower ho0 (Zo (by repeat (first|(with_reducible first|exact HB.out|apply Ze|apply Zc|apply Zd|refine Zg ?_ GE216.out)|exact HB.out))));have n2_:=Zf.mk (Zw (g:=gb216) (o:=.cells #[.int .i64 a0_0,.int .i64 a0_1,.int .i64 a0_2,.int .i64 a0_3,.int .i64 a0_4,.int .i64 a0_5,.int .i64 a0_6,.int .u8 a0_7] 51 (0,0)) (by (with_reducible repeat (first|refine Zk ?_ _|refine Zn ?_|refine Zl ?_ _));exact BK216.out) hb);have n3_:=Zf.mk (Zm (by repeat (first|(with_reducible first|exact HB.out|apply Ze|apply Zc|apply Zd|refine Zg ?_ GE216.out)|exact HB.out)) hb);clear HO_9;clear BK216;clear HB;have HO_9:=n0_;have HO233:=n1_;have BK216:=n2_;have HB:=n3_;clear n0_ n1_ n2_ n3_;(try clear hb);(try clear hb2);(try clear hk);(try clear hi);(try clear ho0)))
              repeat (go_quiet (first|(go_at_call 30;(with_reducible refine (Zi.calls k4 a0_0 a0_1 a0_2 a0_3 a0_4 a0_5 a0_6 a0_7 (strOfNums x9_4) t231 t234 t235 _ A71.out).mono ?_);rintro e w79 ⟨v232,rfl,ho0,hb⟩;have n0_:=Zf.mk (Kd.Z9 (by (with_reducible repeat (first|apply Kd.Zv|apply Kd.Zu|apply Kd.Zz));exact HO_9.out) hb);have n1_:=Zf.mk (Kd.R_lower ho0 (Zo (by repeat (first|(with_reducible first|exact HB.out|apply Ze|apply Zc|apply Zd|refine Zg ?_ GE216.out)|exact HB.out))));have n2_:=Zf.mk (Zw (g:=gb216) (o:=.cells #[.int .i64 a0_0,.int .i64 a0_1,.int .i64 a0_2,.int .i64 a0_3,.int .i64 a0_4,.int .i64 a0_5,.int .i64 a0_6,.int .u8 a0_7] 51 (0,0)) (by (with_reducible repeat (first|refine Zk ?_ _|refine Zn ?_|refine Zl ?_ _));exact BK216.out) hb);have n3_:=Zf.mk (Zm (by repeat (first|(with_reducible first|exact HB.out|apply Ze|apply Zc|apply Zd|refine Zg ?_ GE216.out)|exact HB.out)) hb);clear HO_9;clear BK216;clear HB;have HO_9:=n0_;have HO233:=n1_;have BK216:=n2_;have HB:=n3_;clear n0_ n1_ n2_ n3_;(try clear hb);(try clear hb2);(try clear hk);(try clear hi);(try clear ho0)));try go_wp2_with (first|(go_at_call 30;(with_reducible refine (Zi.calls k4 a0_0 a0_1 a0_2 a0_3 a0_4 a0_5 a0_6 a0_7 (strOfNums x9_4) t231 t234 t235 _ A71.out).mono ?_);rintro e w79 ⟨v232,rfl,ho0,hb⟩;have n0_:=Zf.mk (Kd.Z9 (by (with_reducible repeat (first|apply Kd.Zv|apply Kd.Zu|apply Kd.Zz));exact HO_9.out) hb);have n1_:=Zf.mk (Kd.R_lower ho0 (Zo (by repeat (first|(with_reducible first|exact HB.out|apply Ze|apply Zc|apply Zd|refine Zg ?_ GE216.out)|exact HB.out))));have n2_:=Zf.mk (Zw (g:=gb216) (o:=.cells #[.int .i64 a0_0,.int .i64 a0_1,.int .i64 a0_2,.int .i64 a0_3,.int .i64 a0_4,.int .i64 a0_5,.int .i64 a0_6,.int .u8 a0_7] 51 (0,0)) (by (with_reducible repeat (first|refine Zk ?_ _|refine Zn ?_|refine Zl ?_ _));exact BK216.out) hb);have n3_:=Zf.mk (Zm (by repeat (first|(with_reducible first|exact HB.out|apply Ze|apply Zc|apply Zd|refine Zg ?_ GE216.out)|exact HB.out)) hb);clear HO_9;clear BK216;clear HB;have HO_9:=n0_;have HO233:=n1_;have BK216:=n2_;have HB:=n3_;clear n0_ n1_ n2_ n3_;(try clear hb);(try clear hb2);(try clear hk);(try clear hi);(try clear ho0))))
              go_ret3
              exact ⟨by first|rfl|(simp [Zp,Zq] <;> rfl)|(simp [*,Zp,Zq] <;> rfl),by repeat (first|(with_reducible first|exact HB.out|apply Ze|apply Zc|apply Zd|refine Zg ?_ GE216.out)|exact HB.out)⟩
 ·replace c4:=Bool.eq_false_iff.mpr c4
  subst c4
  have H1 : (some ((⟨#[]⟩ : ByteArray),0,144))=some (r1,r2,r3):=by rw [if_neg (show ¬ (false=true) by decide)] at H;exact H
  clear H
  have H:=H1
  clear H1
  simp only [Option.some.injEq,Prod.mk.injEq] at H
  obtain ⟨rfl,rfl,rfl⟩:=H
  go_enter Tryd.func28,Tryd.ntmps28
  go_wp2_with (first|((with_reducible refine Yh (N:=2) rfl ?_);refine Ym ?hg (N:=2) ?hd (cs:=#[.int .i64 a0_0,.int .i64 a0_1,.int .i64 a0_2,.int .i64 a0_3,.int .i64 a0_4,.int .i64 a0_5,.int .i64 a0_6,.int .u8 a0_7]) (t:=51) ?hr ?_;(case hd => rfl);(case hg => rfl);(case hr => first|(go_simp;done)|(go_simp;rfl));intro gb216 hg w80 hbox hb;have n0_:=Zf.mk (Zm (by repeat (first|(with_reducible first|exact HB.out|apply Ze|apply Zc|apply Zd)|exact HB.out)) hb);have n1_:=Zf.mk (hbox);have n2_:=Zf.mk ((by rw [hg];exact (Zo (by repeat (first|(with_reducible first|exact HB.out|apply Ze|apply Zc|apply Zd)|exact HB.out))) : w.heap.size≤gb216));have n3_:=Zf.mk ((by rw [hg];exact (Zo (by repeat (first|(with_reducible first|exact HB.out|apply Ze|apply Zc|apply Zd)|exact HB.out))) : w.heap.size≤gb216));clear HB;have HB:=n0_;have BK216:=n1_;have GW216:=n2_;have GE216:=n3_;clear n0_ n1_ n2_ n3_;clear hb hbox hg;have hcz81_0 : w80.cell? ⟨gb216,0,none⟩=some (.int .i64 a0_0):=(Zb BK216.out 0).trans rfl;have hcz81_1 : w80.cell? ⟨gb216,1,none⟩=some (.int .i64 a0_1):=(Zb BK216.out 1).trans rfl;have hcz81_2 : w80.cell? ⟨gb216,2,none⟩=some (.int .i64 a0_2):=(Zb BK216.out 2).trans rfl;have hcz81_3 : w80.cell? ⟨gb216,3,none⟩=some (.int .i64 a0_3):=(Zb BK216.out 3).trans rfl;have hcz81_4 : w80.cell? ⟨gb216,4,none⟩=some (.int .i64 a0_4):=(Zb BK216.out 4).trans rfl;have hcz81_5 : w80.cell? ⟨gb216,5,none⟩=some (.int .i64 a0_5):=(Zb BK216.out 5).trans rfl;have hcz81_6 : w80.cell? ⟨gb216,6,none⟩=some (.int .i64 a0_6):=(Zb BK216.out 6).trans rfl;have hcz81_7 : w80.cell? ⟨gb216,7,none⟩=some (.int .u8 a0_7):=(Zb BK216.out 7).trans rfl;have hfz81_0:=Za BK216.out 0;have hfz81_1:=Za BK216.out 1;have hfz81_2:=Za BK216.out 2;have hfz81_3:=Za BK216.out 3;have hfz81_4:=Za BK216.out 4;have hfz81_5:=Za BK216.out 5;have hfz81_6:=Za BK216.out 6;have hfz81_7:=Za BK216.out 7)|(go_at_call 25;(with_reducible refine (Zx.calls k a0_0 a0_1 a0_2 a0_3 a0_4 a0_5 a0_6 a0_7 false _ A3.out).mono ?_);rintro e w82 ⟨rfl,hb⟩;have n0_:=Zf.mk (Zw (g:=gb216) (o:=.cells #[.int .i64 a0_0,.int .i64 a0_1,.int .i64 a0_2,.int .i64 a0_3,.int .i64 a0_4,.int .i64 a0_5,.int .i64 a0_6,.int .u8 a0_7] 51 (0,0)) (by (with_reducible repeat (first|refine Zk ?_ _|refine Zn ?_|refine Zl ?_ _));exact BK216.out) hb);have n1_:=Zf.mk (Zm (by repeat (first|(with_reducible first|exact HB.out|apply Ze|apply Zc|apply Zd|refine Zg ?_ GE216.out)|exact HB.out)) hb);clear BK216;clear HB;have BK216:=n0_;have HB:=n1_;clear n0_ n1_;(try clear hb);(try clear hb2);(try clear hk);(try clear hi)))
  repeat (go_quiet (first|((with_reducible refine Yh (N:=2) rfl ?_);refine Ym ?hg (N:=2) ?hd (cs:=#[.int .i64 a0_0,.int .i64 a0_1,.int .i64 a0_2,.int .i64 a0_3,.int .i64 a0_4,.int .i64 a0_5,.int .i64 a0_6,.int .u8 a0_7]) (t:=51) ?hr ?_;(case hd => rfl);(case hg => rfl);(case hr => first|(go_simp;done)|(go_simp;rfl));intro gb216 hg w80 hbox hb;have n0_:=Zf.mk (Zm (by repeat (first|(with_reducible first|exact HB.out|apply Ze|apply Zc|apply Zd)|exact HB.out)) hb);have n1_:=Zf.mk (hbox);have n2_:=Zf.mk ((by rw [hg];exact (Zo (by repeat (first|(with_reducible first|exact HB.out|apply Ze|apply Zc|apply Zd)|exact HB.out))) : w.heap.size≤gb216));have n3_:=Zf.mk ((by rw [hg];exact (Zo (by repeat (first|(with_reducible first|exact HB.out|apply Ze|apply Zc|apply Zd)|exact HB.out))) : w.heap.size≤gb216));clear HB;have HB:=n0_;have BK216:=n1_;have GW216:=n2_;have GE216:=n3_;clear n0_ n1_ n2_ n3_;clear hb hbox hg;have hcz81_0 : w80.cell? ⟨gb216,0,none⟩=some (.int .i64 a0_0):=(Zb BK216.out 0).trans rfl;have hcz81_1 : w80.cell? ⟨gb216,1,none⟩=some (.int .i64 a0_1):=(Zb BK216.out 1).trans rfl;have hcz81_2 : w80.cell? ⟨gb216,2,none⟩=some (.int .i64 a0_2):=(Zb BK216.out 2).trans rfl;have hcz81_3 : w80.cell? ⟨gb216,3,none⟩=some (.int .i64 a0_3):=(Zb BK216.out 3).trans rfl;have hcz81_4 : w80.cell? ⟨gb216,4,none⟩=some (.int .i64 a0_4):=(Zb BK216.out 4).trans rfl;have hcz81_5 : w80.cell? ⟨gb216,5,none⟩=some (.int .i64 a0_5):=(Zb BK216.out 5).trans rfl;have hcz81_6 : w80.cell? ⟨gb216,6,none⟩=some (.int .i64 a0_6):=(Zb BK216.out 6).trans rfl;have hcz81_7 : w80.cell? ⟨gb216,7,none⟩=some (.int .u8 a0_7):=(Zb BK216.out 7).trans rfl;have hfz81_0:=Za BK216.out 0;have hfz81_1:=Za BK216.out 1;have hfz81_2:=Za BK216.out 2;have hfz81_3:=Za BK216.out 3;have hfz81_4:=Za BK216.out 4;have hfz81_5:=Za BK216.out 5;have hfz81_6:=Za BK216.out 6;have hfz81_7:=Za BK216.out 7)|(go_at_call 25;(with_reducible refine (Zx.calls k a0_0 a0_1 a0_2 a0_3 a0_4 a0_5 a0_6 a0_7 false _ A3.out).mono ?_);rintro e w82 ⟨rfl,hb⟩;have n0_:=Zf.mk (Zw (g:=gb216) (o:=.cells #[.int .i64 a0_0,.int .i64 a0_1,.int .i64 a0_2,.int .i64 a0_3,.int .i64 a0_4,.int .i64 a0_5,.int .i64 a0_6,.int .u8 a0_7] 51 (0,0)) (by (with_reducible repeat (first|refine Zk ?_ _|refine Zn ?_|refine Zl ?_ _));exact BK216.out) hb);have n1_:=Zf.mk (Zm (by repeat (first|(with_reducible first|exact HB.out|apply Ze|apply Zc|apply Zd|refine Zg ?_ GE216.out)|exact HB.out)) hb);clear BK216;clear HB;have BK216:=n0_;have HB:=n1_;clear n0_ n1_;(try clear hb);(try clear hb2);(try clear hk);(try clear hi)));try go_wp2_with (first|((with_reducible refine Yh (N:=2) rfl ?_);refine Ym ?hg (N:=2) ?hd (cs:=#[.int .i64 a0_0,.int .i64 a0_1,.int .i64 a0_2,.int .i64 a0_3,.int .i64 a0_4,.int .i64 a0_5,.int .i64 a0_6,.int .u8 a0_7]) (t:=51) ?hr ?_;(case hd => rfl);(case hg => rfl);(case hr => first|(go_simp;done)|(go_simp;rfl));intro gb216 hg w80 hbox hb;have n0_:=Zf.mk (Zm (by repeat (first|(with_reducible first|exact HB.out|apply Ze|apply Zc|apply Zd)|exact HB.out)) hb);have n1_:=Zf.mk (hbox);have n2_:=Zf.mk ((by rw [hg];exact (Zo (by repeat (first|(with_reducible first|exact HB.out|apply Ze|apply Zc|apply Zd)|exact HB.out))) : w.heap.size≤gb216));have n3_:=Zf.mk ((by rw [hg];exact (Zo (by repeat (first|(with_reducible first|exact HB.out|apply Ze|apply Zc|apply Zd)|exact HB.out))) : w.heap.size≤gb216));clear HB;have HB:=n0_;have BK216:=n1_;have GW216:=n2_;have GE216:=n3_;clear n0_ n1_ n2_ n3_;clear hb hbox hg;have hcz81_0 : w80.cell? ⟨gb216,0,none⟩=some (.int .i64 a0_0):=(Zb BK216.out 0).trans rfl;have hcz81_1 : w80.cell? ⟨gb216,1,none⟩=some (.int .i64 a0_1):=(Zb BK216.out 1).trans rfl;have hcz81_2 : w80.cell? ⟨gb216,2,none⟩=some (.int .i64 a0_2):=(Zb BK216.out 2).trans rfl;have hcz81_3 : w80.cell? ⟨gb216,3,none⟩=some (.int .i64 a0_3):=(Zb BK216.out 3).trans rfl;have hcz81_4 : w80.cell? ⟨gb216,4,none⟩=some (.int .i64 a0_4):=(Zb BK216.out 4).trans rfl;have hcz81_5 : w80.cell? ⟨gb216,5,none⟩=some (.int .i64 a0_5):=(Zb BK216.out 5).trans rfl;have hcz81_6 : w80.cell? ⟨gb216,6,none⟩=some (.int .i64 a0_6):=(Zb BK216.out 6).trans rfl;have hcz81_7 : w80.cell? ⟨gb216,7,none⟩=some (.int .u8 a0_7):=(Zb BK216.out 7).trans rfl;have hfz81_0:=Za BK216.out 0;have hfz81_1:=Za BK216.out 1;have hfz81_2:=Za BK216.out 2;have hfz81_3:=Za BK216.out 3;have hfz81_4:=Za BK216.out 4;have hfz81_5:=Za BK216.out 5;have hfz81_6:=Za BK216.out 6;have hfz81_7:=Za BK216.out 7)|(go_at_call 25;(with_reducible refine (Zx.calls k a0_0 a0_1 a0_2 a0_3 a0_4 a0_5 a0_6 a0_7 false _ A3.out).mono ?_);rintro e w82 ⟨rfl,hb⟩;have n0_:=Zf.mk (Zw (g:=gb216) (o:=.cells #[.int .i64 a0_0,.int .i64 a0_1,.int .i64 a0_2,.int .i64 a0_3,.int .i64 a0_4,.int .i64 a0_5,.int .i64 a0_6,.int .u8 a0_7] 51 (0,0)) (by (with_reducible repeat (first|refine Zk ?_ _|refine Zn ?_|refine Zl ?_ _));exact BK216.out) hb);have n1_:=Zf.mk (Zm (by repeat (first|(with_reducible first|exact HB.out|apply Ze|apply Zc|apply Zd|refine Zg ?_ GE216.out)|exact HB.out)) hb);clear BK216;clear HB;have BK216:=n0_;have HB:=n1_;clear n0_ n1_;(try clear hb);(try clear hb2);(try clear hk);(try clear hi))))
  go_ret3
  exact ⟨by first|rfl|(simp [Zp,Zq] <;> rfl)|(simp [*,Zp,Zq] <;> rfl),by repeat (first|(with_reducible first|exact HB.out|apply Ze|apply Zc|apply Zd|refine Zg ?_ GE216.out)|exact HB.out)⟩
end Go.Proofs.YtmjlkifmbhaiiaaDoorQ.Pw
end
