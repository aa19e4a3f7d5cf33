/- What these functions of the program compute, and that they compute it: printed by wip/tools/orac.py over the kit's print.py; merged. -/
import Derived.Test.YtmjlkifmbhaiiaaDoorQPwx0
import Derived.Test.YtmjlkifmbhaiiaaDoorQPwx1
section
namespace Go.Proofs.YtmjlkifmbhaiiaaDoorQ.Pw
open Go.RowKit Go.Proofs.YtmjlkifmbhaiiaaDoorW.PrintWords Go.Proofs.YtmjlkifmbhaiiaaDoorW.PrintLast Go.Proofs.YtmjlkifmbhaiiaaDoorW.PrintMore
attribute [local go_sem] Go.Proofs.YtmjlkifmbhaiiaaDoor.Ye
attribute [local go_sem] max2_int min2_int max_two min_two max_three min_three max_four min_four   -- for this text's walks alone
set_option linter.unusedVariables false
set_option linter.unusedSimpArgs false
/-! ### Zr: function 32 -/
mutual
def Zr.l0 : Nat→List Int→List Int→List Int→Int→Int→Int→Int→Int→Int→Int→Int→Int→Int→Option (ByteArray × Int × Int)
 | 0,_,_,_,_,_,_,_,_,_,_,_,_,_ => none
 | k + 1,x1,x9,x34,x35,x36,x117000,x117001,x117002,x117003,x117004,x117005,x117006,x117007 => if x36 < x35 then (if 0≤x36 then (if x36 < (x34.length : Int) then ((Yi.f x117000 x117001 x117002 x117003 x117004 x117005 x117006 x117007 (rd x34 x36)).bind fun t120 => (if t120=true then (if x9.length < 140737488355328 then (Zr.l0 k x1 (x9++[(rd x34 x36) % 256]) x34 x35 (wrap64 (x36 + 1)) x117000 x117001 x117002 x117003 x117004 x117005 x117006 x117007) else (none)) else (Zr.l0 k x1 x9 x34 x35 (wrap64 (x36 + 1)) x117000 x117001 x117002 x117003 x117004 x117005 x117006 x117007))) else (none)) else (none)) else (if (x9.length : Int) > 0 then (if x9.length < 140737488355328 then (Zr.j1 k x1 (x9++[x117007]) (x9.length : Int) x117000 x117001 x117002 x117003 x117004 x117005 x117006 x117007) else (none)) else (Zr.j1 k x1 x9 (x9.length : Int) x117000 x117001 x117002 x117003 x117004 x117005 x117006 x117007))
def Zr.j1 : Nat→List Int→List Int→Int→Int→Int→Int→Int→Int→Int→Int→Int→Option (ByteArray × Int × Int)
 | 0,_,_,_,_,_,_,_,_,_,_,_ => none
 | k + 1,x1,x9,x12,x117000,x117001,x117002,x117003,x117004,x117005,x117006,x117007 => Zr.l1 k x1 x9 x12 x117006 0 x117005 x12 x117000 x117001 x117002 x117003 x117004 x117005 x117006 x117007
def Zr.l1 : Nat→List Int→List Int→Int→Int→Int→Int→Int→Int→Int→Int→Int→Int→Int→Int→Int→Option (ByteArray × Int × Int)
 | 0,_,_,_,_,_,_,_,_,_,_,_,_,_,_,_ => none
 | k + 1,x1,x9,x12,x13,x14,x15,x16,x117000,x117001,x117002,x117003,x117004,x117005,x117006,x117007 => if x16 < (x1.length : Int) then ((puny_next.f k x1 x13).bind fun t132 => (if (wrap64 (x14 + (wrap64 ((wrap64 (t132 - x13)) * (wrap64 (x16 + 1)))))) > 2147483647 then (some ((⟨#[]⟩ : ByteArray),0,142)) else (Zr.l2 k x1 x9 x12 t132 (wrap64 (x14 + (wrap64 ((wrap64 (t132 - x13)) * (wrap64 (x16 + 1)))))) x15 x16 x1 (x1.length : Int) 0 x117000 x117001 x117002 x117003 x117004 x117005 x117006 x117007))) else ((Z7.f x117000 x117001 x117002 x117003 x117004 x117005 x117006 x117007 (strOfNums x9)).bind fun bt127 => (if bt127.2.2=0 then (some (strOfNums x9,0,0)) else (some ((⟨#[]⟩ : ByteArray),0,142))))
def Zr.l2 : Nat→List Int→List Int→Int→Int→Int→Int→Int→List Int→Int→Int→Int→Int→Int→Int→Int→Int→Int→Int→Option (ByteArray × Int × Int)
 | 0,_,_,_,_,_,_,_,_,_,_,_,_,_,_,_,_,_,_ => none
 | k + 1,x1,x9,x12,x13,x14,x15,x16,x81,x82,x83,x117000,x117001,x117002,x117003,x117004,x117005,x117006,x117007 => if x83 < x82 then (if 0≤x83 then (if x83 < (x81.length : Int) then (if (wrap64 (rd x81 x83)) < x13 then (if (wrap64 (x14 + 1)) > 2147483647 then (some ((⟨#[]⟩ : ByteArray),0,142)) else (Zr.l2 k x1 x9 x12 x13 (wrap64 (x14 + 1)) x15 x16 x81 x82 (wrap64 (x83 + 1)) x117000 x117001 x117002 x117003 x117004 x117005 x117006 x117007)) else (if (wrap64 (rd x81 x83))=x13 then ((Ya.f k x117000 x117001 x117002 x117003 x117004 x117005 x117006 x117007 x14 x15).bind fun t134 => (if x9.length + t134.length < 140737488355328 then ((Zt.f k x117000 x117001 x117002 x117003 x117004 x117005 x117006 x117007 x14 (wrap64 (x16 + 1)) (x16 == x12)).bind fun t140 => (if 0 > 2147483647 then (some ((⟨#[]⟩ : ByteArray),0,142)) else (Zr.l2 k x1 (x9++t134) x12 x13 0 t140 (wrap64 (x16 + 1)) x81 x82 (wrap64 (x83 + 1)) x117000 x117001 x117002 x117003 x117004 x117005 x117006 x117007))) else (none))) else (if x14 > 2147483647 then (some ((⟨#[]⟩ : ByteArray),0,142)) else (Zr.l2 k x1 x9 x12 x13 x14 x15 x16 x81 x82 (wrap64 (x83 + 1)) x117000 x117001 x117002 x117003 x117004 x117005 x117006 x117007)))) else (none)) else (none)) else (if x16=(x1.length : Int) then ((Z7.f x117000 x117001 x117002 x117003 x117004 x117005 x117006 x117007 (strOfNums x9)).bind fun bt141 => (if bt141.2.2=0 then (some (strOfNums x9,0,0)) else (some ((⟨#[]⟩ : ByteArray),0,142)))) else (if (wrap64 (x14 + 1)) > 2147483647 then (some ((⟨#[]⟩ : ByteArray),0,142)) else (Zr.l1 k x1 x9 x12 (wrap64 (x13 + 1)) (wrap64 (x14 + 1)) x15 x16 x117000 x117001 x117002 x117003 x117004 x117005 x117006 x117007)))
end
def Zr.f (k : Nat) (a0_0 : Int) (a0_1 : Int) (a0_2 : Int) (a0_3 : Int) (a0_4 : Int) (a0_5 : Int) (a0_6 : Int) (a0_7 : Int) (l1 : List Int) : Option (ByteArray × Int × Int):=(puny_boot_check.f a0_0 a0_1 a0_2 a0_3 a0_4 a0_5 a0_6 a0_7 l1).bind fun bt117 => (if bt117.2=0 then (Zr.l0 k l1 ([] : List Int) l1 (l1.length : Int) 0 a0_0 a0_1 a0_2 a0_3 a0_4 a0_5 a0_6 a0_7) else (some ((⟨#[]⟩ : ByteArray),bt117.1,bt117.2)))
set_option maxHeartbeats 8000000 in
set_option maxRecDepth 100000 in
theorem Zr.calls (k : Nat) (a0_0 : Int) (a0_1 : Int) (a0_2 : Int) (a0_3 : Int) (a0_4 : Int) (a0_5 : Int) (a0_6 : Int) (a0_7 : Int) (A1 : Option Addr) (c1 : Nat) (l1 : List Int) (r1 : ByteArray) (r2 : Int) (r3 : Int) (w : World) (hr1 : Kd.C (Kd.int .i32) w A1 l1.length l1) (hc1 : l1.length≤c1) (h : Zr.f k a0_0 a0_1 a0_2 a0_3 a0_4 a0_5 a0_6 a0_7 l1=some (r1,r2,r3)) (T_ : Go.Proofs.YtmjlkifmbhaiiaaDoor.Tabs w) :
  Calls Tryd.prog 32 #[.agg #[.int .i64 a0_0,.int .i64 a0_1,.int .i64 a0_2,.int .i64 a0_3,.int .i64 a0_4,.int .i64 a0_5,.int .i64 a0_6,.int .u8 a0_7],.slice A1 l1.length c1] w fun e w' => e=.returned (.tuple #[.string r1,.int .i64 r2,.int .i64 r3])∧Below w.heap.size w w':=by
 have hu59:=Tryd.underlying59
 have HR1:=Zf.mk hr1
 have HC1:=Zf.mk hc1
 clear hr1 hc1
 have HB:=Zf.mk (Below.refl w.heap.size w)
 have H : ((puny_boot_check.f a0_0 a0_1 a0_2 a0_3 a0_4 a0_5 a0_6 a0_7 l1).bind fun bt117 => (if bt117.2=0 then (Zr.l0 k l1 ([] : List Int) l1 (l1.length : Int) 0 a0_0 a0_1 a0_2 a0_3 a0_4 a0_5 a0_6 a0_7) else (some ((⟨#[]⟩ : ByteArray),bt117.1,bt117.2))))=some (r1,r2,r3):=h
 clear h
 replace H:=Option.bind_eq_some_iff.mp H
 obtain ⟨⟨t117,t118⟩,A30,H⟩:=H
 replace H : (if t118=0 then (Zr.l0 k l1 ([] : List Int) l1 (l1.length : Int) 0 a0_0 a0_1 a0_2 a0_3 a0_4 a0_5 a0_6 a0_7) else (some ((⟨#[]⟩ : ByteArray),t117,t118)))=some (r1,r2,r3):=H
 have A3:=Zf.mk A30
 clear A30
 by_cases c4 : t118=0
 ·rw [if_pos c4] at H
  have c4b0 : (t118 == 0)=true:=beq_iff_eq.mpr c4
  have c4b1 : (t118 != 0)=false:=bne_eq_false_iff_eq.mpr c4
  clear c4
  have H':=Zf.mk H
  clear H
  go_enter Tryd.func32,Tryd.ntmps32
  go_wp2_with (first|((with_reducible refine Yh (N:=2) rfl ?_);refine Ym ?hg (N:=2) ?hd (cs:=#[.int .i64 a0_0,.int .i64 a0_1,.int .i64 a0_2,.int .i64 a0_3,.int .i64 a0_4,.int .i64 a0_5,.int .i64 a0_6,.int .u8 a0_7]) (t:=59) ?hr ?_;(case hd => rfl);(case hg => rfl);(case hr => first|(go_simp;done)|(go_simp;rfl));intro gb116 hg w5 hbox hb;have n0_:=Zf.mk (Zm (by repeat (first|(with_reducible first|exact HB.out|apply Ze|apply Zc|apply Zd)|exact HB.out)) hb);have n1_:=Zf.mk (hbox);have n2_:=Zf.mk ((by rw [hg];exact (Zo (by repeat (first|(with_reducible first|exact HB.out|apply Ze|apply Zc|apply Zd)|exact HB.out))) : w.heap.size≤gb116));have n3_:=Zf.mk ((by rw [hg];exact (Zo (by repeat (first|(with_reducible first|exact HB.out|apply Ze|apply Zc|apply Zd)|exact HB.out))) : w.heap.size≤gb116));clear HB;have HB:=n0_;have BK116:=n1_;have GW116:=n2_;have GE116:=n3_;clear n0_ n1_ n2_ n3_;clear hb hbox hg;have hcz6_0 : w5.cell? ⟨gb116,0,none⟩=some (.int .i64 a0_0):=(Zb BK116.out 0).trans rfl;have hcz6_1 : w5.cell? ⟨gb116,1,none⟩=some (.int .i64 a0_1):=(Zb BK116.out 1).trans rfl;have hcz6_2 : w5.cell? ⟨gb116,2,none⟩=some (.int .i64 a0_2):=(Zb BK116.out 2).trans rfl;have hcz6_3 : w5.cell? ⟨gb116,3,none⟩=some (.int .i64 a0_3):=(Zb BK116.out 3).trans rfl;have hcz6_4 : w5.cell? ⟨gb116,4,none⟩=some (.int .i64 a0_4):=(Zb BK116.out 4).trans rfl;have hcz6_5 : w5.cell? ⟨gb116,5,none⟩=some (.int .i64 a0_5):=(Zb BK116.out 5).trans rfl;have hcz6_6 : w5.cell? ⟨gb116,6,none⟩=some (.int .i64 a0_6):=(Zb BK116.out 6).trans rfl;have hcz6_7 : w5.cell? ⟨gb116,7,none⟩=some (.int .u8 a0_7):=(Zb BK116.out 7).trans rfl;have hfz6_0:=Za BK116.out 0;have hfz6_1:=Za BK116.out 1;have hfz6_2:=Za BK116.out 2;have hfz6_3:=Za BK116.out 3;have hfz6_4:=Za BK116.out 4;have hfz6_5:=Za BK116.out 5;have hfz6_6:=Za BK116.out 6;have hfz6_7:=Za BK116.out 7)|(go_at_call 44;(with_reducible refine (puny_boot_check.calls a0_0 a0_1 a0_2 a0_3 a0_4 a0_5 a0_6 a0_7 _ _ l1 t117 t118 _ ?side1 ?side2 A3.out).mono ?_);(case side1 => repeat (first|exact (Kd.C_below HR1.out HB.out)|(with_reducible refine Kd.C_alloc ?_ _)|(with_reducible refine Kd.C_drewN ?_ _)|(with_reducible refine Kd.C_drew ?_)));(case side2 => exact HC1.out);rintro e w7 ⟨rfl,hb⟩;have n0_:=Zf.mk (Zw (g:=gb116) (o:=.cells #[.int .i64 a0_0,.int .i64 a0_1,.int .i64 a0_2,.int .i64 a0_3,.int .i64 a0_4,.int .i64 a0_5,.int .i64 a0_6,.int .u8 a0_7] 59 (0,0)) (by (with_reducible repeat (first|refine Zk ?_ _|refine Zn ?_|refine Zl ?_ _));exact BK116.out) hb);have n1_:=Zf.mk (Zm (by repeat (first|(with_reducible first|exact HB.out|apply Ze|apply Zc|apply Zd|refine Zg ?_ GE116.out)|exact HB.out)) hb);clear BK116;clear HB;have BK116:=n0_;have HB:=n1_;clear n0_ n1_;(try clear hb);(try clear hb2);(try clear hk);(try clear hi)))
  repeat (go_quiet (first|((with_reducible refine Yh (N:=2) rfl ?_);refine Ym ?hg (N:=2) ?hd (cs:=#[.int .i64 a0_0,.int .i64 a0_1,.int .i64 a0_2,.int .i64 a0_3,.int .i64 a0_4,.int .i64 a0_5,.int .i64 a0_6,.int .u8 a0_7]) (t:=59) ?hr ?_;(case hd => rfl);(case hg => rfl);(case hr => first|(go_simp;done)|(go_simp;rfl));intro gb116 hg w5 hbox hb;have n0_:=Zf.mk (Zm (by repeat (first|(with_reducible first|exact HB.out|apply Ze|apply Zc|apply Zd)|exact HB.out)) hb);have n1_:=Zf.mk (hbox);have n2_:=Zf.mk ((by rw [hg];exact (Zo (by repeat (first|(with_reducible first|exact HB.out|apply Ze|apply Zc|apply Zd)|exact HB.out))) : w.heap.size≤gb116));have n3_:=Zf.mk ((by rw [hg];exact (Zo (by repeat (first|(with_reducible first|exact HB.out|apply Ze|apply Zc|apply Zd)|exact HB.out))) : w.heap.size≤gb116));clear HB;have HB:=n0_;have BK116:=n1_;have GW116:=n2_;have GE116:=n3_;clear n0_ n1_ n2_ n3_;clear hb hbox hg;have hcz6_0 : w5.cell? ⟨gb116,0,none⟩=some (.int .i64 a0_0):=(Zb BK116.out 0).trans rfl;have hcz6_1 : w5.cell? ⟨gb116,1,none⟩=some (.int .i64 a0_1):=(Zb BK116.out 1).trans rfl;have hcz6_2 : w5.cell? ⟨gb116,2,none⟩=some (.int .i64 a0_2):=(Zb BK116.out 2).trans rfl;have hcz6_3 : w5.cell? ⟨gb116,3,none⟩=some (.int .i64 a0_3):=(Zb BK116.out 3).trans rfl;have hcz6_4 : w5.cell? ⟨gb116,4,none⟩=some (.int .i64 a0_4):=(Zb BK116.out 4).trans rfl;have hcz6_5 : w5.cell? ⟨gb116,5,none⟩=some (.int .i64 a0_5):=(Zb BK116.out 5).trans rfl;have hcz6_6 : w5.cell? ⟨gb116,6,none⟩=some (.int .i64 a0_6):=(Zb BK116.out 6).trans rfl;have hcz6_7 : w5.cell? ⟨gb116,7,none⟩=some (.int .u8 a0_7):=(Zb BK116.out 7).trans rfl;have hfz6_0:=Za BK116.out 0;have hfz6_1:=Za BK116.out 1;have hfz6_2:=Za BK116.out 2;have hfz6_3:=Za BK116.out 3;have hfz6_4:=Za BK116.out 4;have hfz6_5:=Za BK116.out 5;have hfz6_6:=Za BK116.out 6;have hfz6_7:=Za BK116.out 7)|(go_at_call 44;(with_reducible refine (puny_boot_check.calls a0_0 a0_1 a0_2 a0_3 a0_4 a0_5 a0_6 a0_7 _ _ l1 t117 t118 _ ?side1 ?side2 A3.out).mono ?_);(case side1 => repeat (first|exact (Kd.C_below HR1.out HB.out)|(with_reducible refine Kd.C_alloc ?_ _)|(with_reducible refine Kd.C_drewN ?_ _)|(with_reducible refine Kd.C_drew ?_)));(case side2 => exact HC1.out);rintro e w7 ⟨rfl,hb⟩;have n0_:=Zf.mk (Zw (g:=gb116) (o:=.cells #[.int .i64 a0_0,.int .i64 a0_1,.int .i64 a0_2,.int .i64 a0_3,.int .i64 a0_4,.int .i64 a0_5,.int .i64 a0_6,.int .u8 a0_7] 59 (0,0)) (by (with_reducible repeat (first|refine Zk ?_ _|refine Zn ?_|refine Zl ?_ _));exact BK116.out) hb);have n1_:=Zf.mk (Zm (by repeat (first|(with_reducible first|exact HB.out|apply Ze|apply Zc|apply Zd|refine Zg ?_ GE116.out)|exact HB.out)) hb);clear BK116;clear HB;have BK116:=n0_;have HB:=n1_;clear n0_ n1_;(try clear hb);(try clear hb2);(try clear hk);(try clear hi)));try go_wp2_with (first|((with_reducible refine Yh (N:=2) rfl ?_);refine Ym ?hg (N:=2) ?hd (cs:=#[.int .i64 a0_0,.int .i64 a0_1,.int .i64 a0_2,.int .i64 a0_3,.int .i64 a0_4,.int .i64 a0_5,.int .i64 a0_6,.int .u8 a0_7]) (t:=59) ?hr ?_;(case hd => rfl);(case hg => rfl);(case hr => first|(go_simp;done)|(go_simp;rfl));intro gb116 hg w5 hbox hb;have n0_:=Zf.mk (Zm (by repeat (first|(with_reducible first|exact HB.out|apply Ze|apply Zc|apply Zd)|exact HB.out)) hb);have n1_:=Zf.mk (hbox);have n2_:=Zf.mk ((by rw [hg];exact (Zo (by repeat (first|(with_reducible first|exact HB.out|apply Ze|apply Zc|apply Zd)|exact HB.out))) : w.heap.size≤gb116));have n3_:=Zf.mk ((by rw [hg];exact (Zo (by repeat (first|(with_reducible first|exact HB.out|apply Ze|apply Zc|apply Zd)|exact HB.out))) : w.heap.size≤gb116));clear HB;have HB:=n0_;have BK116:=n1_;have GW116:=n2_;have GE116:=n3_;clear n0_ n1_ n2_ n3_;clear hb hbox hg;have hcz6_0 : w5.cell? ⟨gb116,0,none⟩=some (.int .i64 a0_0):=(Zb BK116.out 0).trans rfl;have hcz6_1 : w5.cell? ⟨gb116,1,none⟩=some (.int .i64 a0_1):=(Zb BK116.out 1).trans rfl;have hcz6_2 : w5.cell? ⟨gb116,2,none⟩=some (.int .i64 a0_2):=(Zb BK116.out 2).trans rfl;have hcz6_3 : w5.cell? ⟨gb116,3,none⟩=some (.int .i64 a0_3):=(Zb BK116.out 3).trans rfl;have hcz6_4 : w5.cell? ⟨gb116,4,none⟩=some (.int .i64 a0_4):=(Zb BK116.out 4).trans rfl;have hcz6_5 : w5.cell? ⟨gb116,5,none⟩=some (.int .i64 a0_5):=(Zb BK116.out 5).trans rfl;have hcz6_6 : w5.cell? ⟨gb116,6,none⟩=some (.int .i64 a0_6):=(Zb BK116.out 6).trans rfl;have hcz6_7 : w5.cell? ⟨gb116,7,none⟩=some (.int .u8 a0_7):=(Zb BK116.out 7).trans rfl;have hfz6_0:=Za BK116.out 0;have hfz6_1:=Za BK116.out 1;have hfz6_2:=Za BK116.out 2;have hfz6_3:=Za BK116.out 3;have hfz6_4:=Za BK116.out 4;have hfz6_5:=Za BK116.out 5;have hfz6_6:=Za BK116.out 6;have hfz6_7:=Za BK116.out 7)|(go_at_call 44;(with_reducible refine (puny_boot_check.calls a0_0 a0_1 a0_2 a0_3 a0_4 a0_5 a0_6 a0_7 _ _ l1 t117 t118 _ ?side1 ?side2 A3.out).mono ?_);(case side1 => repeat (first|exact (Kd.C_below HR1.out HB.out)|(with_reducible refine Kd.C_alloc ?_ _)|(with_reducible refine Kd.C_drewN ?_ _)|(with_reducible refine Kd.C_drew ?_)));(case side2 => exact HC1.out);rintro e w7 ⟨rfl,hb⟩;have n0_:=Zf.mk (Zw (g:=gb116) (o:=.cells #[.int .i64 a0_0,.int .i64 a0_1,.int .i64 a0_2,.int .i64 a0_3,.int .i64 a0_4,.int .i64 a0_5,.int .i64 a0_6,.int .u8 a0_7] 59 (0,0)) (by (with_reducible repeat (first|refine Zk ?_ _|refine Zn ?_|refine Zl ?_ _));exact BK116.out) hb);have n1_:=Zf.mk (Zm (by repeat (first|(with_reducible first|exact HB.out|apply Ze|apply Zc|apply Zd|refine Zg ?_ GE116.out)|exact HB.out)) hb);clear BK116;clear HB;have BK116:=n0_;have HB:=n1_;clear n0_ n1_;(try clear hb);(try clear hb2);(try clear hk);(try clear hi))))
  go_loopg [9,36] k (fun kq v9 v36 w' => ∃ (x9_1 : List Int) (x36_1 : Int),v36=.int .i64 x36_1∧Zf (Zr.l0 kq l1 x9_1 l1 (l1.length : Int) x36_1 a0_0 a0_1 a0_2 a0_3 a0_4 a0_5 a0_6 a0_7=some (r1,r2,r3))∧Zf (kq≤k)∧Zf (Kd.R (Kd.int .u8) 5 w' w.heap.size (fun _ => True) v9 x9_1)∧Zf (w'.heap[gb116]?=some (.cells #[.int .i64 a0_0,.int .i64 a0_1,.int .i64 a0_2,.int .i64 a0_3,.int .i64 a0_4,.int .i64 a0_5,.int .i64 a0_6,.int .u8 a0_7] 59 (0,0)))∧Zf (Below w.heap.size w w'))
  case atStart => exact ⟨(([] : List Int)),(0),(by first|rfl|(simp;done)|(simp [*];done)),H',⟨Nat.le_refl _⟩,⟨by first|exact Kd.R_nil _ _ _ _ _|exact Kd.N_nil _ _ _ _ _|exact Kd.V_nil _ _ _ _ _|exact Kd.Q_nil _ _ _ _ _|exact Kd.S_nil _ _ _ _ _⟩,⟨by (with_reducible repeat (first|refine Zk ?_ _|refine Zn ?_|refine Zl ?_ _));exact BK116.out⟩,⟨by repeat (first|(with_reducible first|exact HB.out|apply Ze|apply Zc|apply Zd|refine Zg ?_ GE116.out)|exact HB.out)⟩⟩
  case round =>
   clear H'
   try clear c1
   try clear p2
   try clear c3
   try clear c4
   try clear c4b0
   try clear c4b1
   try clear hcz6_0
   try clear hcz6_1
   try clear hcz6_2
   try clear hcz6_3
   try clear hcz6_4
   try clear hcz6_5
   try clear hcz6_6
   try clear hcz6_7
   try clear hfz6_0
   try clear hfz6_1
   try clear hfz6_2
   try clear hfz6_3
   try clear hfz6_4
   try clear hfz6_5
   try clear hfz6_6
   try clear hfz6_7
   obtain ⟨x9_1,x36_1,rfl,HA,HK1,HO_9,BK116,HB⟩:=hrel
   cases gk with
   | zero => exact absurd HA.out (by simp [Zr.l0])
   | succ k1 =>
    have H:=HA.out
    clear HA
    simp only [Zr.l0] at H
    by_cases c8 : x36_1 < (l1.length : Int)
    ·rw [if_pos c8] at H
     have c8b0 : decide (x36_1 < (l1.length : Int))=true:=decide_eq_true c8
     clear c8
     by_cases c9 : 0≤x36_1
     ·rw [if_pos c9] at H
      have c9b0 : decide (0≤x36_1)=true:=decide_eq_true c9
      clear c9
      by_cases c10 : x36_1 < (l1.length : Int)
      ·rw [if_pos c10] at H
       have c10b0 : decide (x36_1 < (l1.length : Int))=true:=decide_eq_true c10
       clear c10
       replace H:=Option.bind_eq_some_iff.mp H
       obtain ⟨t120,A110,H⟩:=H
       replace H : (if t120=true then (if x9_1.length < 140737488355328 then (Zr.l0 k1 l1 (x9_1++[(rd l1 x36_1) % 256]) l1 (l1.length : Int) (wrap64 (x36_1 + 1)) a0_0 a0_1 a0_2 a0_3 a0_4 a0_5 a0_6 a0_7) else (none)) else (Zr.l0 k1 l1 x9_1 l1 (l1.length : Int) (wrap64 (x36_1 + 1)) a0_0 a0_1 a0_2 a0_3 a0_4 a0_5 a0_6 a0_7))=some (r1,r2,r3):=H
       have A11:=Zf.mk A110
       clear A110
       by_cases c12 : t120=true
       ·subst c12
        have H1 : (if x9_1.length < 140737488355328 then (Zr.l0 k1 l1 (x9_1++[(rd l1 x36_1) % 256]) l1 (l1.length : Int) (wrap64 (x36_1 + 1)) a0_0 a0_1 a0_2 a0_3 a0_4 a0_5 a0_6 a0_7) else (none))=some (r1,r2,r3):=by rw [if_pos rfl] at H;exact H
        clear H
        have H:=H1
        clear H1
        by_cases c13 : x9_1.length < 140737488355328
        ·rw [if_pos c13] at H
         have LMc13:=Zf.mk c13
         clear c13
         obtain ⟨y121,hy121⟩ : ∃ y_ : List Int,y_=(x9_1++[(rd l1 x36_1) % 256]):=⟨_,rfl⟩
         replace H : (Zr.l0 k1 l1 y121 l1 (l1.length : Int) (wrap64 (x36_1 + 1)) a0_0 a0_1 a0_2 a0_3 a0_4 a0_5 a0_6 a0_7)=some (r1,r2,r3):=by first|(rw [hy121];with_reducible exact H)|(have H2_:=(Option.bind_some _ _).symm.trans H;rw [hy121];with_reducible exact H2_)|(have H2_:=(Option.bind_some _ _).symm.trans H;with_reducible exact H2_)|with_reducible exact H|(rw [hy121];exact H)|exact H
         have Ny121:=Zf.mk hy121
         clear hy121
         have H':=Zf.mk H
         clear H
         have p119 : 0≤(x36_1 : Int):=of_decide_eq_true (by first|(with_reducible assumption)|assumption)
         have q119 : x36_1 < (l1.length : Int):=of_decide_eq_true (by first|(with_reducible assumption)|assumption)
         obtain ⟨ad119,e119,hx119_0⟩:=Kd.at_int HR1.out x36_1 p119 q119
         cases e119
         replace hx119_0:=(HB.out.cell (World.block_lt_of_cell? w _ hx119_0)).trans hx119_0
         replace p119:=eq_true p119
         replace q119:=eq_true q119
         have hcz14_0 : wr.cell? ⟨gb116,0,none⟩=some (.int .i64 a0_0):=(Zb BK116.out 0).trans rfl
         have hcz14_1 : wr.cell? ⟨gb116,1,none⟩=some (.int .i64 a0_1):=(Zb BK116.out 1).trans rfl
         have hcz14_2 : wr.cell? ⟨gb116,2,none⟩=some (.int .i64 a0_2):=(Zb BK116.out 2).trans rfl
         have hcz14_3 : wr.cell? ⟨gb116,3,none⟩=some (.int .i64 a0_3):=(Zb BK116.out 3).trans rfl
         have hcz14_4 : wr.cell? ⟨gb116,4,none⟩=some (.int .i64 a0_4):=(Zb BK116.out 4).trans rfl
         have hcz14_5 : wr.cell? ⟨gb116,5,none⟩=some (.int .i64 a0_5):=(Zb BK116.out 5).trans rfl
         have hcz14_6 : wr.cell? ⟨gb116,6,none⟩=some (.int .i64 a0_6):=(Zb BK116.out 6).trans rfl
         have hcz14_7 : wr.cell? ⟨gb116,7,none⟩=some (.int .u8 a0_7):=(Zb BK116.out 7).trans rfl
         have hfz14_0:=Za BK116.out 0
         have hfz14_1:=Za BK116.out 1
         have hfz14_2:=Za BK116.out 2
         have hfz14_3:=Za BK116.out 3
         have hfz14_4:=Za BK116.out 4
         have hfz14_5:=Za BK116.out 5
         have hfz14_6:=Za BK116.out 6
         have hfz14_7:=Za BK116.out 7
         go_wp2_with (first|(go_at_call 45;(with_reducible refine (Yi.calls a0_0 a0_1 a0_2 a0_3 a0_4 a0_5 a0_6 a0_7 (rd l1 x36_1) true _ A11.out).mono ?_);rintro e w15 ⟨rfl,hb⟩;have n0_:=Zf.mk (Kd.Z9 (by (with_reducible repeat (first|apply Kd.Zv|apply Kd.Zu|apply Kd.Zz));exact HO_9.out) hb);have n1_:=Zf.mk (Zw (g:=gb116) (o:=.cells #[.int .i64 a0_0,.int .i64 a0_1,.int .i64 a0_2,.int .i64 a0_3,.int .i64 a0_4,.int .i64 a0_5,.int .i64 a0_6,.int .u8 a0_7] 59 (0,0)) (by (with_reducible repeat (first|refine Zk ?_ _|refine Zn ?_|refine Zl ?_ _));exact BK116.out) hb);have n2_:=Zf.mk (Zm (by repeat (first|(with_reducible first|exact HB.out|apply Ze|apply Zc|apply Zd|refine Zg ?_ GE116.out)|exact HB.out)) hb);clear HO_9;clear BK116;clear HB;have HO_9:=n0_;have BK116:=n1_;have HB:=n2_;clear n0_ n1_ n2_;(try clear hb);(try clear hb2);(try clear hk);(try clear hi))|((with_reducible refine gate_builtin (b:=.append) (xs:=#[.tmp 43,.tmp 46]) rfl ?_);at_builtin;refine Kd.R_append (Kd.int .u8) (w0:=w) w.heap.size rfl (.tmp 43) (.tmp 46) 35 5 (.int .u8 0) 1 rfl Tryd.underlying35 info5 rfl (by decide) (by omega) u9 x9_1 ((rd l1 x36_1) % 256) [.int .u8 ((rd l1 x36_1) % 256)] (fun _ => True) (fun _ => False) rfl rfl ?aP (fun _ hk => hk.elim) ?aF ?aO ?aB ?aS ?aL ?_;(case aP => exact rfl);(case aB => exact (by repeat (first|(with_reducible first|exact HB.out|apply Ze|apply Zc|apply Zd|refine Zg ?_ GE116.out)|exact HB.out)));(case aF => exact (fun _ _ => trivial));(case aO => exact (by (with_reducible repeat (first|apply Kd.Zv|apply Kd.Zu|apply Kd.Zz));exact HO_9.out));(case aS => exact (Zo (by repeat (first|(with_reducible first|exact HB.out|apply Ze|apply Zc|apply Zd|refine Zg ?_ GE116.out)|exact HB.out))));(case aL => have:=LMc13.out;omega);intro v122 w16 ho hb hg hat;rw [← Ny121.out] at ho;have n0_:=Zf.mk (blk_grown (g:=gb116) (o:=.cells #[.int .i64 a0_0,.int .i64 a0_1,.int .i64 a0_2,.int .i64 a0_3,.int .i64 a0_4,.int .i64 a0_5,.int .i64 a0_6,.int .u8 a0_7] 59 (0,0)) (by (with_reducible repeat (first|refine Zk ?_ _|refine Zn ?_|refine Zl ?_ _));exact BK116.out) hg (Kd.R_ne HO_9.out BK116.out (by decide)));have n1_:=Zf.mk (hb);have n2_:=Zf.mk (ho);clear BK116;clear HB;clear HO_9;have BK116:=n0_;have HB:=n1_;have HO123:=n2_;clear n0_ n1_ n2_;clear ho hb hg hat))
         repeat (go_quiet (first|(go_at_call 45;(with_reducible refine (Yi.calls a0_0 a0_1 a0_2 a0_3 a0_4 a0_5 a0_6 a0_7 (rd l1 x36_1) true _ A11.out).mono ?_);rintro e w15 ⟨rfl,hb⟩;have n0_:=Zf.mk (Kd.Z9 (by (with_reducible repeat (first|apply Kd.Zv|apply Kd.Zu|apply Kd.Zz));exact HO_9.out) hb);have n1_:=Zf.mk (Zw (g:=gb116) (o:=.cells #[.int .i64 a0_0,.int .i64 a0_1,.int .i64 a0_2,.int .i64 a0_3,.int .i64 a0_4,.int .i64 a0_5,.int .i64 a0_6,.int .u8 a0_7] 59 (0,0)) (by (with_reducible repeat (first|refine Zk ?_ _|refine Zn ?_|refine Zl ?_ _));exact BK116.out) hb);have n2_:=Zf.mk (Zm (by repeat (first|(with_reducible first|exact HB.out|apply Ze|apply Zc|apply Zd|refine Zg ?_ GE116.out)|exact HB.out)) hb);clear HO_9;clear BK116;clear HB;have HO_9:=n0_;have BK116:=n1_;have HB:=n2_;clear n0_ n1_ n2_;(try clear hb);(try clear hb2);(try clear hk);(try clear hi))|((with_reducible refine gate_builtin (b:=.append) (xs:=#[.tmp 43,.tmp 46]) rfl ?_);at_builtin;refine Kd.R_append (Kd.int .u8) (w0:=w) w.heap.size rfl (.tmp 43) (.tmp 46) 35 5 (.int .u8 0) 1 rfl Tryd.underlying35 info5 rfl (by decide) (by omega) u9 x9_1 ((rd l1 x36_1) % 256) [.int .u8 ((rd l1 x36_1) % 256)] (fun _ => True) (fun _ => False) rfl rfl ?aP (fun _ hk => hk.elim) ?aF ?aO ?aB ?aS ?aL ?_;(case aP => exact rfl);(case aB => exact (by repeat (first|(with_reducible first|exact HB.out|apply Ze|apply Zc|apply Zd|refine Zg ?_ GE116.out)|exact HB.out)));(case aF => exact (fun _ _ => trivial));(case aO => exact (by (with_reducible repeat (first|apply Kd.Zv|apply Kd.Zu|apply Kd.Zz));exact HO_9.out));(case aS => exact (Zo (by repeat (first|(with_reducible first|exact HB.out|apply Ze|apply Zc|apply Zd|refine Zg ?_ GE116.out)|exact HB.out))));(case aL => have:=LMc13.out;omega);intro v122 w16 ho hb hg hat;rw [← Ny121.out] at ho;have n0_:=Zf.mk (blk_grown (g:=gb116) (o:=.cells #[.int .i64 a0_0,.int .i64 a0_1,.int .i64 a0_2,.int .i64 a0_3,.int .i64 a0_4,.int .i64 a0_5,.int .i64 a0_6,.int .u8 a0_7] 59 (0,0)) (by (with_reducible repeat (first|refine Zk ?_ _|refine Zn ?_|refine Zl ?_ _));exact BK116.out) hg (Kd.R_ne HO_9.out BK116.out (by decide)));have n1_:=Zf.mk (hb);have n2_:=Zf.mk (ho);clear BK116;clear HB;clear HO_9;have BK116:=n0_;have HB:=n1_;have HO123:=n2_;clear n0_ n1_ n2_;clear ho hb hg hat));try go_wp2_with (first|(go_at_call 45;(with_reducible refine (Yi.calls a0_0 a0_1 a0_2 a0_3 a0_4 a0_5 a0_6 a0_7 (rd l1 x36_1) true _ A11.out).mono ?_);rintro e w15 ⟨rfl,hb⟩;have n0_:=Zf.mk (Kd.Z9 (by (with_reducible repeat (first|apply Kd.Zv|apply Kd.Zu|apply Kd.Zz));exact HO_9.out) hb);have n1_:=Zf.mk (Zw (g:=gb116) (o:=.cells #[.int .i64 a0_0,.int .i64 a0_1,.int .i64 a0_2,.int .i64 a0_3,.int .i64 a0_4,.int .i64 a0_5,.int .i64 a0_6,.int .u8 a0_7] 59 (0,0)) (by (with_reducible repeat (first|refine Zk ?_ _|refine Zn ?_|refine Zl ?_ _));exact BK116.out) hb);have n2_:=Zf.mk (Zm (by repeat (first|(with_reducible first|exact HB.out|apply Ze|apply Zc|apply Zd|refine Zg ?_ GE116.out)|exact HB.out)) hb);clear HO_9;clear BK116;clear HB;have HO_9:=n0_;have BK116:=n1_;have HB:=n2_;clear n0_ n1_ n2_;(try clear hb);(try clear hb2);(try clear hk);(try clear hi))|((with_reducible refine gate_builtin (b:=.append) (xs:=#[.tmp 43,.tmp 46]) rfl ?_);at_builtin;refine Kd.R_append (Kd.int .u8) (w0:=w) w.heap.size rfl (.tmp 43) (.tmp 46) 35 5 (.int .u8 0) 1 rfl Tryd.underlying35 info5 rfl (by decide) (by omega) u9 x9_1 ((rd l1 x36_1) % 256) [.int .u8 ((rd l1 x36_1) % 256)] (fun _ => True) (fun _ => False) rfl rfl ?aP (fun _ hk => hk.elim) ?aF ?aO ?aB ?aS ?aL ?_;(case aP => exact rfl);(case aB => exact (by repeat (first|(with_reducible first|exact HB.out|apply Ze|apply Zc|apply Zd|refine Zg ?_ GE116.out)|exact HB.out)));(case aF => exact (fun _ _ => trivial));(case aO => exact (by (with_reducible repeat (first|apply Kd.Zv|apply Kd.Zu|apply Kd.Zz));exact HO_9.out));(case aS => exact (Zo (by repeat (first|(with_reducible first|exact HB.out|apply Ze|apply Zc|apply Zd|refine Zg ?_ GE116.out)|exact HB.out))));(case aL => have:=LMc13.out;omega);intro v122 w16 ho hb hg hat;rw [← Ny121.out] at ho;have n0_:=Zf.mk (blk_grown (g:=gb116) (o:=.cells #[.int .i64 a0_0,.int .i64 a0_1,.int .i64 a0_2,.int .i64 a0_3,.int .i64 a0_4,.int .i64 a0_5,.int .i64 a0_6,.int .u8 a0_7] 59 (0,0)) (by (with_reducible repeat (first|refine Zk ?_ _|refine Zn ?_|refine Zl ?_ _));exact BK116.out) hg (Kd.R_ne HO_9.out BK116.out (by decide)));have n1_:=Zf.mk (hb);have n2_:=Zf.mk (ho);clear BK116;clear HB;clear HO_9;have BK116:=n0_;have HB:=n1_;have HO123:=n2_;clear n0_ n1_ n2_;clear ho hb hg hat)))
         go_roundg k1
         case measure => have:=HK1.out;omega
         case rel => exact ⟨(y121),(wrap64 (x36_1 + 1)),(by first|rfl|(simp;done)|(simp [*];done)),H',⟨by have:=HK1.out;omega⟩,⟨by (with_reducible repeat (first|apply Kd.Zv|apply Kd.Zu|apply Kd.Zz));exact HO123.out⟩,⟨by (with_reducible repeat (first|refine Zk ?_ _|refine Zn ?_|refine Zl ?_ _));exact BK116.out⟩,⟨by repeat (first|(with_reducible first|exact HB.out|apply Ze|apply Zc|apply Zd|refine Zg ?_ GE116.out)|exact HB.out)⟩⟩
        ·rw [if_neg c13] at H
         exact absurd H (by simp)
       ·replace c12:=Bool.eq_false_iff.mpr c12
        subst c12
        have H1 : (Zr.l0 k1 l1 x9_1 l1 (l1.length : Int) (wrap64 (x36_1 + 1)) a0_0 a0_1 a0_2 a0_3 a0_4 a0_5 a0_6 a0_7)=some (r1,r2,r3):=by rw [if_neg (show ¬ (false=true) by decide)] at H;exact H
        clear H
        have H:=H1
        clear H1
        have H':=Zf.mk H
        clear H
        have p119 : 0≤(x36_1 : Int):=of_decide_eq_true (by first|(with_reducible assumption)|assumption)
        have q119 : x36_1 < (l1.length : Int):=of_decide_eq_true (by first|(with_reducible assumption)|assumption)
        obtain ⟨ad119,e119,hx119_0⟩:=Kd.at_int HR1.out x36_1 p119 q119
        cases e119
        replace hx119_0:=(HB.out.cell (World.block_lt_of_cell? w _ hx119_0)).trans hx119_0
        replace p119:=eq_true p119
        replace q119:=eq_true q119
        have hcz17_0 : wr.cell? ⟨gb116,0,none⟩=some (.int .i64 a0_0):=(Zb BK116.out 0).trans rfl
        have hcz17_1 : wr.cell? ⟨gb116,1,none⟩=some (.int .i64 a0_1):=(Zb BK116.out 1).trans rfl
        have hcz17_2 : wr.cell? ⟨gb116,2,none⟩=some (.int .i64 a0_2):=(Zb BK116.out 2).trans rfl
        have hcz17_3 : wr.cell? ⟨gb116,3,none⟩=some (.int .i64 a0_3):=(Zb BK116.out 3).trans rfl
        have hcz17_4 : wr.cell? ⟨gb116,4,none⟩=some (.int .i64 a0_4):=(Zb BK116.out 4).trans rfl
        have hcz17_5 : wr.cell? ⟨gb116,5,none⟩=some (.int .i64 a0_5):=(Zb BK116.out 5).trans rfl
        have hcz17_6 : wr.cell? ⟨gb116,6,none⟩=some (.int .i64 a0_6):=(Zb BK116.out 6).trans rfl
        have hcz17_7 : wr.cell? ⟨gb116,7,none⟩=some (.int .u8 a0_7):=(Zb BK116.out 7).trans rfl
        have hfz17_0:=Za BK116.out 0
        have hfz17_1:=Za BK116.out 1
        have hfz17_2:=Za BK116.out 2
        have hfz17_3:=Za BK116.out 3
        have hfz17_4:=Za BK116.out 4
        have hfz17_5:=Za BK116.out 5
        have hfz17_6:=Za BK116.out 6
        have hfz17_7:=Za BK116.out 7
        go_wp2_with (first|(go_at_call 45;(with_reducible refine (Yi.calls a0_0 a0_1 a0_2 a0_3 a0_4 a0_5 a0_6 a0_7 (rd l1 x36_1) false _ A11.out).mono ?_);rintro e w18 ⟨rfl,hb⟩;have n0_:=Zf.mk (Kd.Z9 (by (with_reducible repeat (first|apply Kd.Zv|apply Kd.Zu|apply Kd.Zz));exact HO_9.out) hb);have n1_:=Zf.mk (Zw (g:=gb116) (o:=.cells #[.int .i64 a0_0,.int .i64 a0_1,.int .i64 a0_2,.int .i64 a0_3,.int .i64 a0_4,.int .i64 a0_5,.int .i64 a0_6,.int .u8 a0_7] 59 (0,0)) (by (with_reducible repeat (first|refine Zk ?_ _|refine Zn ?_|refine Zl ?_ _));exact BK116.out) hb);have n2_:=Zf.mk (Zm (by repeat (first|(with_reducible first|exact HB.out|apply Ze|apply Zc|apply Zd|refine Zg ?_ GE116.out)|exact HB.out)) hb);clear HO_9;clear BK116;clear HB;have HO_9:=n0_;have BK116:=n1_;have HB:=n2_;clear n0_ n1_ n2_;(try clear hb);(try clear hb2);(try clear hk);(try clear hi)))
        repeat (go_quiet (first|(go_at_call 45;(with_reducible refine (Yi.calls a0_0 a0_1 a0_2 a0_3 a0_4 a0_5 a0_6 a0_7 (rd l1 x36_1) false _ A11.out).mono ?_);rintro e w18 ⟨rfl,hb⟩;have n0_:=Zf.mk (Kd.Z9 (by (with_reducible repeat (first|apply Kd.Zv|apply Kd.Zu|apply Kd.Zz));exact HO_9.out) hb);have n1_:=Zf.mk (Zw (g:=gb116) (o:=.cells #[.int .i64 a0_0,.int .i64 a0_1,.int .i64 a0_2,.int .i64 a0_3,.int .i64 a0_4,.int .i64 a0_5,.int .i64 a0_6,.int .u8 a0_7] 59 (0,0)) (by (with_reducible repeat (first|refine Zk ?_ _|refine Zn ?_|refine Zl ?_ _));exact BK116.out) hb);have n2_:=Zf.mk (Zm (by repeat (first|(with_reducible first|exact HB.out|apply Ze|apply Zc|apply Zd|refine Zg ?_ GE116.out)|exact HB.out)) hb);clear HO_9;clear BK116;clear HB;have HO_9:=n0_;have BK116:=n1_;have HB:=n2_;clear n0_ n1_ n2_;(try clear hb);(try clear hb2);(try clear hk);(try clear hi)));try go_wp2_with (first|(go_at_call 45;(with_reducible refine (Yi.calls a0_0 a0_1 a0_2 a0_3 a0_4 a0_5 a0_6 a0_7 (rd l1 x36_1) false _ A11.out).mono ?_);rintro e w18 ⟨rfl,hb⟩;have n0_:=Zf.mk (Kd.Z9 (by (with_reducible repeat (first|apply Kd.Zv|apply Kd.Zu|apply Kd.Zz));exact HO_9.out) hb);have n1_:=Zf.mk (Zw (g:=gb116) (o:=.cells #[.int .i64 a0_0,.int .i64 a0_1,.int .i64 a0_2,.int .i64 a0_3,.int .i64 a0_4,.int .i64 a0_5,.int .i64 a0_6,.int .u8 a0_7] 59 (0,0)) (by (with_reducible repeat (first|refine Zk ?_ _|refine Zn ?_|refine Zl ?_ _));exact BK116.out) hb);have n2_:=Zf.mk (Zm (by repeat (first|(with_reducible first|exact HB.out|apply Ze|apply Zc|apply Zd|refine Zg ?_ GE116.out)|exact HB.out)) hb);clear HO_9;clear BK116;clear HB;have HO_9:=n0_;have BK116:=n1_;have HB:=n2_;clear n0_ n1_ n2_;(try clear hb);(try clear hb2);(try clear hk);(try clear hi))))
        go_roundg k1
        case measure => have:=HK1.out;omega
        case rel => exact ⟨(x9_1),(wrap64 (x36_1 + 1)),(by first|rfl|(simp;done)|(simp [*];done)),H',⟨by have:=HK1.out;omega⟩,⟨by (with_reducible repeat (first|apply Kd.Zv|apply Kd.Zu|apply Kd.Zz));exact HO_9.out⟩,⟨by (with_reducible repeat (first|refine Zk ?_ _|refine Zn ?_|refine Zl ?_ _));exact BK116.out⟩,⟨by repeat (first|(with_reducible first|exact HB.out|apply Ze|apply Zc|apply Zd|refine Zg ?_ GE116.out)|exact HB.out)⟩⟩
      ·rw [if_neg c10] at H
       exact absurd H (by simp)
     ·rw [if_neg c9] at H
      exact absurd H (by simp)
    ·rw [if_neg c8] at H
     have c8b0 : decide (x36_1 < (l1.length : Int))=false:=decide_eq_false c8
     clear c8
     have HC19:=Zf.mk H
     clear H
     obtain ⟨Ao20,co20,eo20⟩:=Kd.R_slice HO_9.out
     subst eo20
     go_upto_if 52 with (fail)
     repeat (go_quiet (fail);go_upto_if 52 with (fail))
     go_cut [9] (fun v9 wc => ∃ (kq : Nat) (x9_18 : List Int),Zf (Zr.j1 kq l1 x9_18 (x9_1.length : Int) a0_0 a0_1 a0_2 a0_3 a0_4 a0_5 a0_6 a0_7=some (r1,r2,r3))∧Zf (kq≤k1)∧Zf (Kd.R (Kd.int .u8) 5 wc w.heap.size (fun _ => True) v9 x9_18)∧Zf (wc.heap[gb116]?=some (.cells #[.int .i64 a0_0,.int .i64 a0_1,.int .i64 a0_2,.int .i64 a0_3,.int .i64 a0_4,.int .i64 a0_5,.int .i64 a0_6,.int .u8 a0_7] 59 (0,0)))∧Zf (Below w.heap.size w wc))
     case first =>
      have H:=HC19.out
      clear HC19
      by_cases c21 : (x9_1.length : Int) > 0
      ·rw [if_pos c21] at H
       have c21b0 : decide (0 < (x9_1.length : Int))=true:=decide_eq_true c21
       have c21b1 : decide (0 < x9_1.length)=true:=decide_eq_true (by omega)
       clear c21
       (first|rw [c21b0]|rw [c21b1]|(simp only [i64_w,i32_w];rw [c21b0])|skip)
       by_cases c22 : x9_1.length < 140737488355328
       ·rw [if_pos c22] at H
        have LMc22:=Zf.mk c22
        clear c22
        obtain ⟨y124,hy124⟩ : ∃ y_ : List Int,y_=(x9_1++[a0_7]):=⟨_,rfl⟩
        replace H : (Zr.j1 k1 l1 y124 (x9_1.length : Int) a0_0 a0_1 a0_2 a0_3 a0_4 a0_5 a0_6 a0_7)=some (r1,r2,r3):=by first|(rw [hy124];with_reducible exact H)|(have H2_:=(Option.bind_some _ _).symm.trans H;rw [hy124];with_reducible exact H2_)|(have H2_:=(Option.bind_some _ _).symm.trans H;with_reducible exact H2_)|with_reducible exact H|(rw [hy124];exact H)|exact H
        have Ny124:=Zf.mk hy124
        clear hy124
        have H':=Zf.mk H
        clear H
        have hcz23_0 : wr.cell? ⟨gb116,0,none⟩=some (.int .i64 a0_0):=(Zb BK116.out 0).trans rfl
        have hcz23_1 : wr.cell? ⟨gb116,1,none⟩=some (.int .i64 a0_1):=(Zb BK116.out 1).trans rfl
        have hcz23_2 : wr.cell? ⟨gb116,2,none⟩=some (.int .i64 a0_2):=(Zb BK116.out 2).trans rfl
        have hcz23_3 : wr.cell? ⟨gb116,3,none⟩=some (.int .i64 a0_3):=(Zb BK116.out 3).trans rfl
        have hcz23_4 : wr.cell? ⟨gb116,4,none⟩=some (.int .i64 a0_4):=(Zb BK116.out 4).trans rfl
        have hcz23_5 : wr.cell? ⟨gb116,5,none⟩=some (.int .i64 a0_5):=(Zb BK116.out 5).trans rfl
        have hcz23_6 : wr.cell? ⟨gb116,6,none⟩=some (.int .i64 a0_6):=(Zb BK116.out 6).trans rfl
        have hcz23_7 : wr.cell? ⟨gb116,7,none⟩=some (.int .u8 a0_7):=(Zb BK116.out 7).trans rfl
        have hfz23_0:=Za BK116.out 0
        have hfz23_1:=Za BK116.out 1
        have hfz23_2:=Za BK116.out 2
        have hfz23_3:=Za BK116.out 3
        have hfz23_4:=Za BK116.out 4
        have hfz23_5:=Za BK116.out 5
        have hfz23_6:=Za BK116.out 6
        have hfz23_7:=Za BK116.out 7
        go_wp2_with (first|((with_reducible refine gate_builtin (b:=.append) (xs:=#[.tmp 53,.tmp 56]) rfl ?_);at_builtin;refine Kd.R_append (Kd.int .u8) (w0:=w) w.heap.size rfl (.tmp 53) (.tmp 56) 35 5 (.int .u8 0) 1 rfl Tryd.underlying35 info5 rfl (by decide) (by omega) (.slice Ao20 x9_1.length co20) x9_1 a0_7 [.int .u8 a0_7] (fun _ => True) (fun _ => False) rfl rfl ?aP (fun _ hk => hk.elim) ?aF ?aO ?aB ?aS ?aL ?_;(case aP => exact rfl);(case aB => exact (by repeat (first|(with_reducible first|exact HB.out|apply Ze|apply Zc|apply Zd|refine Zg ?_ GE116.out)|exact HB.out)));(case aF => exact (fun _ _ => trivial));(case aO => exact (by (with_reducible repeat (first|apply Kd.Zv|apply Kd.Zu|apply Kd.Zz));exact HO_9.out));(case aS => exact (Zo (by repeat (first|(with_reducible first|exact HB.out|apply Ze|apply Zc|apply Zd|refine Zg ?_ GE116.out)|exact HB.out))));(case aL => have:=LMc22.out;omega);intro v125 w24 ho hb hg hat;rw [← Ny124.out] at ho;have n0_:=Zf.mk (blk_grown (g:=gb116) (o:=.cells #[.int .i64 a0_0,.int .i64 a0_1,.int .i64 a0_2,.int .i64 a0_3,.int .i64 a0_4,.int .i64 a0_5,.int .i64 a0_6,.int .u8 a0_7] 59 (0,0)) (by (with_reducible repeat (first|refine Zk ?_ _|refine Zn ?_|refine Zl ?_ _));exact BK116.out) hg (Kd.R_ne HO_9.out BK116.out (by decide)));have n1_:=Zf.mk (hb);have n2_:=Zf.mk (ho);clear BK116;clear HB;clear HO_9;have BK116:=n0_;have HB:=n1_;have HO126:=n2_;clear n0_ n1_ n2_;clear ho hb hg hat))
        repeat (go_quiet (first|((with_reducible refine gate_builtin (b:=.append) (xs:=#[.tmp 53,.tmp 56]) rfl ?_);at_builtin;refine Kd.R_append (Kd.int .u8) (w0:=w) w.heap.size rfl (.tmp 53) (.tmp 56) 35 5 (.int .u8 0) 1 rfl Tryd.underlying35 info5 rfl (by decide) (by omega) (.slice Ao20 x9_1.length co20) x9_1 a0_7 [.int .u8 a0_7] (fun _ => True) (fun _ => False) rfl rfl ?aP (fun _ hk => hk.elim) ?aF ?aO ?aB ?aS ?aL ?_;(case aP => exact rfl);(case aB => exact (by repeat (first|(with_reducible first|exact HB.out|apply Ze|apply Zc|apply Zd|refine Zg ?_ GE116.out)|exact HB.out)));(case aF => exact (fun _ _ => trivial));(case aO => exact (by (with_reducible repeat (first|apply Kd.Zv|apply Kd.Zu|apply Kd.Zz));exact HO_9.out));(case aS => exact (Zo (by repeat (first|(with_reducible first|exact HB.out|apply Ze|apply Zc|apply Zd|refine Zg ?_ GE116.out)|exact HB.out))));(case aL => have:=LMc22.out;omega);intro v125 w24 ho hb hg hat;rw [← Ny124.out] at ho;have n0_:=Zf.mk (blk_grown (g:=gb116) (o:=.cells #[.int .i64 a0_0,.int .i64 a0_1,.int .i64 a0_2,.int .i64 a0_3,.int .i64 a0_4,.int .i64 a0_5,.int .i64 a0_6,.int .u8 a0_7] 59 (0,0)) (by (with_reducible repeat (first|refine Zk ?_ _|refine Zn ?_|refine Zl ?_ _));exact BK116.out) hg (Kd.R_ne HO_9.out BK116.out (by decide)));have n1_:=Zf.mk (hb);have n2_:=Zf.mk (ho);clear BK116;clear HB;clear HO_9;have BK116:=n0_;have HB:=n1_;have HO126:=n2_;clear n0_ n1_ n2_;clear ho hb hg hat));try go_wp2_with (first|((with_reducible refine gate_builtin (b:=.append) (xs:=#[.tmp 53,.tmp 56]) rfl ?_);at_builtin;refine Kd.R_append (Kd.int .u8) (w0:=w) w.heap.size rfl (.tmp 53) (.tmp 56) 35 5 (.int .u8 0) 1 rfl Tryd.underlying35 info5 rfl (by decide) (by omega) (.slice Ao20 x9_1.length co20) x9_1 a0_7 [.int .u8 a0_7] (fun _ => True) (fun _ => False) rfl rfl ?aP (fun _ hk => hk.elim) ?aF ?aO ?aB ?aS ?aL ?_;(case aP => exact rfl);(case aB => exact (by repeat (first|(with_reducible first|exact HB.out|apply Ze|apply Zc|apply Zd|refine Zg ?_ GE116.out)|exact HB.out)));(case aF => exact (fun _ _ => trivial));(case aO => exact (by (with_reducible repeat (first|apply Kd.Zv|apply Kd.Zu|apply Kd.Zz));exact HO_9.out));(case aS => exact (Zo (by repeat (first|(with_reducible first|exact HB.out|apply Ze|apply Zc|apply Zd|refine Zg ?_ GE116.out)|exact HB.out))));(case aL => have:=LMc22.out;omega);intro v125 w24 ho hb hg hat;rw [← Ny124.out] at ho;have n0_:=Zf.mk (blk_grown (g:=gb116) (o:=.cells #[.int .i64 a0_0,.int .i64 a0_1,.int .i64 a0_2,.int .i64 a0_3,.int .i64 a0_4,.int .i64 a0_5,.int .i64 a0_6,.int .u8 a0_7] 59 (0,0)) (by (with_reducible repeat (first|refine Zk ?_ _|refine Zn ?_|refine Zl ?_ _));exact BK116.out) hg (Kd.R_ne HO_9.out BK116.out (by decide)));have n1_:=Zf.mk (hb);have n2_:=Zf.mk (ho);clear BK116;clear HB;clear HO_9;have BK116:=n0_;have HB:=n1_;have HO126:=n2_;clear n0_ n1_ n2_;clear ho hb hg hat)))
        go_meet
        case rel => exact ⟨_,(y124),H',⟨by have:=HK1.out;first|omega|exact Nat.le_refl _⟩,⟨by (with_reducible repeat (first|apply Kd.Zv|apply Kd.Zu|apply Kd.Zz));exact HO126.out⟩,⟨by (with_reducible repeat (first|refine Zk ?_ _|refine Zn ?_|refine Zl ?_ _));exact BK116.out⟩,⟨by repeat (first|(with_reducible first|exact HB.out|apply Ze|apply Zc|apply Zd|refine Zg ?_ GE116.out)|exact HB.out)⟩⟩
       ·rw [if_neg c22] at H
        exact absurd H (by simp)
      ·rw [if_neg c21] at H
       have c21b0 : decide (0 < (x9_1.length : Int))=false:=decide_eq_false c21
       have c21b1 : decide (0 < x9_1.length)=false:=decide_eq_false (by omega)
       clear c21
       (first|rw [c21b0]|rw [c21b1]|(simp only [i64_w,i32_w];rw [c21b0])|skip)
       have H':=Zf.mk H
       clear H
       go_wp2
       repeat (go_quiet (fail);try go_wp2)
       go_meet
       case rel => exact ⟨_,(x9_1),H',⟨by have:=HK1.out;first|omega|exact Nat.le_refl _⟩,⟨by (with_reducible repeat (first|apply Kd.Zv|apply Kd.Zu|apply Kd.Zz));exact HO_9.out⟩,⟨by (with_reducible repeat (first|refine Zk ?_ _|refine Zn ?_|refine Zl ?_ _));exact BK116.out⟩,⟨by repeat (first|(with_reducible first|exact HB.out|apply Ze|apply Zc|apply Zd|refine Zg ?_ GE116.out)|exact HB.out)⟩⟩
     case rest =>
      clear HC19
      try clear c1
      try clear p1
      try clear q1
      try clear hx1
      try clear c2
      try clear p2
      try clear c3
      try clear c4
      try clear c4b0
      try clear c4b1
      try clear p6
      try clear c8
      try clear c8b0
      try clear c9
      try clear c9b0
      try clear c10
      try clear c10b0
      try clear p11
      try clear q11
      try clear hx11
      try clear c12
      try clear c13
      try clear c21
      try clear c21b0
      try clear c21b1
      try clear c22
      try clear hcz14_0
      try clear hcz14_1
      try clear hcz14_2
      try clear hcz14_3
      try clear hcz14_4
      try clear hcz14_5
      try clear hcz14_6
      try clear hcz14_7
      try clear hcz17_0
      try clear hcz17_1
      try clear hcz17_2
      try clear hcz17_3
      try clear hcz17_4
      try clear hcz17_5
      try clear hcz17_6
      try clear hcz17_7
      try clear hcz23_0
      try clear hcz23_1
      try clear hcz23_2
      try clear hcz23_3
      try clear hcz23_4
      try clear hcz23_5
      try clear hcz23_6
      try clear hcz23_7
      try clear hcz6_0
      try clear hcz6_1
      try clear hcz6_2
      try clear hcz6_3
      try clear hcz6_4
      try clear hcz6_5
      try clear hcz6_6
      try clear hcz6_7
      try clear hfz14_0
      try clear hfz14_1
      try clear hfz14_2
      try clear hfz14_3
      try clear hfz14_4
      try clear hfz14_5
      try clear hfz14_6
      try clear hfz14_7
      try clear hfz17_0
      try clear hfz17_1
      try clear hfz17_2
      try clear hfz17_3
      try clear hfz17_4
      try clear hfz17_5
      try clear hfz17_6
      try clear hfz17_7
      try clear hfz23_0
      try clear hfz23_1
      try clear hfz23_2
      try clear hfz23_3
      try clear hfz23_4
      try clear hfz23_5
      try clear hfz23_6
      try clear hfz23_7
      try clear hfz6_0
      try clear hfz6_1
      try clear hfz6_2
      try clear hfz6_3
      try clear hfz6_4
      try clear hfz6_5
      try clear hfz6_6
      try clear hfz6_7
      try clear hx119_0
      try clear p119
      try clear p2
      try clear q119
      obtain ⟨kq,x9_18,HA,HJ18,HO_9,BK116,HB⟩:=hcut
      cases kq with
      | zero => exact absurd HA.out (by simp [Zr.j1])
      | succ kj18 =>
       have H:=HA.out
       clear HA
       simp only [Zr.j1] at H
       have H':=Zf.mk H
       clear H
       have hcz25_0 : wc.cell? ⟨gb116,0,none⟩=some (.int .i64 a0_0):=(Zb BK116.out 0).trans rfl
       have hcz25_1 : wc.cell? ⟨gb116,1,none⟩=some (.int .i64 a0_1):=(Zb BK116.out 1).trans rfl
       have hcz25_2 : wc.cell? ⟨gb116,2,none⟩=some (.int .i64 a0_2):=(Zb BK116.out 2).trans rfl
       have hcz25_3 : wc.cell? ⟨gb116,3,none⟩=some (.int .i64 a0_3):=(Zb BK116.out 3).trans rfl
       have hcz25_4 : wc.cell? ⟨gb116,4,none⟩=some (.int .i64 a0_4):=(Zb BK116.out 4).trans rfl
       have hcz25_5 : wc.cell? ⟨gb116,5,none⟩=some (.int .i64 a0_5):=(Zb BK116.out 5).trans rfl
       have hcz25_6 : wc.cell? ⟨gb116,6,none⟩=some (.int .i64 a0_6):=(Zb BK116.out 6).trans rfl
       have hcz25_7 : wc.cell? ⟨gb116,7,none⟩=some (.int .u8 a0_7):=(Zb BK116.out 7).trans rfl
       have hfz25_0:=Za BK116.out 0
       have hfz25_1:=Za BK116.out 1
       have hfz25_2:=Za BK116.out 2
       have hfz25_3:=Za BK116.out 3
       have hfz25_4:=Za BK116.out 4
       have hfz25_5:=Za BK116.out 5
       have hfz25_6:=Za BK116.out 6
       have hfz25_7:=Za BK116.out 7
       go_wp2
       repeat (go_quiet (fail);try go_wp2)
       go_loopg [9,13,14,15,16] kj18 (fun kq v9 v13 v14 v15 v16 w' => ∃ (x9_3 : List Int) (x13_3 : Int) (x14_3 : Int) (x15_3 : Int) (x16_3 : Int),v13=.int .i64 x13_3∧v14=.int .i64 x14_3∧v15=.int .i64 x15_3∧v16=.int .i64 x16_3∧Zf (Zr.l1 kq l1 x9_3 (x9_1.length : Int) x13_3 x14_3 x15_3 x16_3 a0_0 a0_1 a0_2 a0_3 a0_4 a0_5 a0_6 a0_7=some (r1,r2,r3))∧Zf (kq≤kj18)∧Zf (Kd.R (Kd.int .u8) 5 w' w.heap.size (fun _ => True) v9 x9_3)∧Zf (w'.heap[gb116]?=some (.cells #[.int .i64 a0_0,.int .i64 a0_1,.int .i64 a0_2,.int .i64 a0_3,.int .i64 a0_4,.int .i64 a0_5,.int .i64 a0_6,.int .u8 a0_7] 59 (0,0)))∧Zf (Below w.heap.size w w'))
       case atStart => exact ⟨(x9_18),(a0_6),(0),(a0_5),((x9_1.length : Int)),(by first|rfl|(simp;done)|(simp [*];done)),(by first|rfl|(simp;done)|(simp [*];done)),(by first|rfl|(simp;done)|(simp [*];done)),(by first|rfl|(simp;done)|(simp [*];done)),H',⟨Nat.le_refl _⟩,⟨by (with_reducible repeat (first|apply Kd.Zv|apply Kd.Zu|apply Kd.Zz));exact HO_9.out⟩,⟨by (with_reducible repeat (first|refine Zk ?_ _|refine Zn ?_|refine Zl ?_ _));exact BK116.out⟩,⟨by repeat (first|(with_reducible first|exact HB.out|apply Ze|apply Zc|apply Zd|refine Zg ?_ GE116.out)|exact HB.out)⟩⟩
       case round =>
        clear H'
        try clear c1
        try clear p1
        try clear q1
        try clear hx1
        try clear c2
        try clear p2
        try clear c3
        try clear c4
        try clear c4b0
        try clear c4b1
        try clear p6
        try clear c8
        try clear c8b0
        try clear c9
        try clear c9b0
        try clear c10
        try clear c10b0
        try clear p11
        try clear q11
        try clear hx11
        try clear c12
        try clear c13
        try clear c21
        try clear c21b0
        try clear c21b1
        try clear c22
        try clear hcz14_0
        try clear hcz14_1
        try clear hcz14_2
        try clear hcz14_3
        try clear hcz14_4
        try clear hcz14_5
        try clear hcz14_6
        try clear hcz14_7
        try clear hcz17_0
        try clear hcz17_1
        try clear hcz17_2
        try clear hcz17_3
        try clear hcz17_4
        try clear hcz17_5
        try clear hcz17_6
        try clear hcz17_7
        try clear hcz23_0
        try clear hcz23_1
        try clear hcz23_2
        try clear hcz23_3
        try clear hcz23_4
        try clear hcz23_5
        try clear hcz23_6
        try clear hcz23_7
        try clear hcz25_0
        try clear hcz25_1
        try clear hcz25_2
        try clear hcz25_3
        try clear hcz25_4
        try clear hcz25_5
        try clear hcz25_6
        try clear hcz25_7
        try clear hcz6_0
        try clear hcz6_1
        try clear hcz6_2
        try clear hcz6_3
        try clear hcz6_4
        try clear hcz6_5
        try clear hcz6_6
        try clear hcz6_7
        try clear hfz14_0
        try clear hfz14_1
        try clear hfz14_2
        try clear hfz14_3
        try clear hfz14_4
        try clear hfz14_5
        try clear hfz14_6
        try clear hfz14_7
        try clear hfz17_0
        try clear hfz17_1
        try clear hfz17_2
        try clear hfz17_3
        try clear hfz17_4
        try clear hfz17_5
        try clear hfz17_6
        try clear hfz17_7
        try clear hfz23_0
        try clear hfz23_1
        try clear hfz23_2
        try clear hfz23_3
        try clear hfz23_4
        try clear hfz23_5
        try clear hfz23_6
        try clear hfz23_7
        try clear hfz25_0
        try clear hfz25_1
        try clear hfz25_2
        try clear hfz25_3
        try clear hfz25_4
        try clear hfz25_5
        try clear hfz25_6
        try clear hfz25_7
        try clear hfz6_0
        try clear hfz6_1
        try clear hfz6_2
        try clear hfz6_3
        try clear hfz6_4
        try clear hfz6_5
        try clear hfz6_6
        try clear hfz6_7
        try clear hx119_0
        try clear p1
        try clear p11
        try clear p119
        try clear p2
        try clear p6
        try clear q1
        try clear q11
        try clear q119
        obtain ⟨x9_3,x13_3,x14_3,x15_3,x16_3,rfl,rfl,rfl,rfl,HA,HK3,HO_9,BK116,HB⟩:=hrel
        cases gk with
        | zero => exact absurd HA.out (by simp [Zr.l1])
        | succ k3 =>
         have H:=HA.out
         clear HA
         simp only [Zr.l1] at H
         by_cases c26 : x16_3 < (l1.length : Int)
         ·rw [if_pos c26] at H
          have c26b0 : decide (x16_3 < (l1.length : Int))=true:=decide_eq_true c26
          clear c26
          replace H:=Option.bind_eq_some_iff.mp H
          obtain ⟨t132,A270,H⟩:=H
          replace H : (if (wrap64 (x14_3 + (wrap64 ((wrap64 (t132 - x13_3)) * (wrap64 (x16_3 + 1)))))) > 2147483647 then (some ((⟨#[]⟩ : ByteArray),0,142)) else (Zr.l2 k3 l1 x9_3 (x9_1.length : Int) t132 (wrap64 (x14_3 + (wrap64 ((wrap64 (t132 - x13_3)) * (wrap64 (x16_3 + 1)))))) x15_3 x16_3 l1 (l1.length : Int) 0 a0_0 a0_1 a0_2 a0_3 a0_4 a0_5 a0_6 a0_7))=some (r1,r2,r3):=H
          have A27:=Zf.mk A270
          clear A270
          by_cases c28 : (wrap64 (x14_3 + (wrap64 ((wrap64 (t132 - x13_3)) * (wrap64 (x16_3 + 1)))))) > 2147483647
          ·rw [if_pos c28] at H
           have c28b0 : decide (2147483647 < (wrap64 (x14_3 + (wrap64 ((wrap64 (t132 - x13_3)) * (wrap64 (x16_3 + 1)))))))=true:=decide_eq_true c28
           clear c28
           simp only [Option.some.injEq,Prod.mk.injEq] at H
           obtain ⟨rfl,rfl,rfl⟩:=H
           go_wp2_with (first|(go_at_call 46;(with_reducible refine (puny_next.calls k3 _ _ l1 x13_3 t132 _ ?side1 ?side2 A27.out).mono ?_);(case side1 => repeat (first|exact (Kd.C_below HR1.out HB.out)|(with_reducible refine Kd.C_alloc ?_ _)|(with_reducible refine Kd.C_drewN ?_ _)|(with_reducible refine Kd.C_drew ?_)));(case side2 => exact HC1.out);rintro e w29 ⟨rfl,hb⟩;have n0_:=Zf.mk (Kd.Z9 (by (with_reducible repeat (first|apply Kd.Zv|apply Kd.Zu|apply Kd.Zz));exact HO_9.out) hb);have n1_:=Zf.mk (Zw (g:=gb116) (o:=.cells #[.int .i64 a0_0,.int .i64 a0_1,.int .i64 a0_2,.int .i64 a0_3,.int .i64 a0_4,.int .i64 a0_5,.int .i64 a0_6,.int .u8 a0_7] 59 (0,0)) (by (with_reducible repeat (first|refine Zk ?_ _|refine Zn ?_|refine Zl ?_ _));exact BK116.out) hb);have n2_:=Zf.mk (Zm (by repeat (first|(with_reducible first|exact HB.out|apply Ze|apply Zc|apply Zd|refine Zg ?_ GE116.out)|exact HB.out)) hb);clear HO_9;clear BK116;clear HB;have HO_9:=n0_;have BK116:=n1_;have HB:=n2_;clear n0_ n1_ n2_;(try clear hb);(try clear hb2);(try clear hk);(try clear hi)))
           repeat (go_quiet (first|(go_at_call 46;(with_reducible refine (puny_next.calls k3 _ _ l1 x13_3 t132 _ ?side1 ?side2 A27.out).mono ?_);(case side1 => repeat (first|exact (Kd.C_below HR1.out HB.out)|(with_reducible refine Kd.C_alloc ?_ _)|(with_reducible refine Kd.C_drewN ?_ _)|(with_reducible refine Kd.C_drew ?_)));(case side2 => exact HC1.out);rintro e w29 ⟨rfl,hb⟩;have n0_:=Zf.mk (Kd.Z9 (by (with_reducible repeat (first|apply Kd.Zv|apply Kd.Zu|apply Kd.Zz));exact HO_9.out) hb);have n1_:=Zf.mk (Zw (g:=gb116) (o:=.cells #[.int .i64 a0_0,.int .i64 a0_1,.int .i64 a0_2,.int .i64 a0_3,.int .i64 a0_4,.int .i64 a0_5,.int .i64 a0_6,.int .u8 a0_7] 59 (0,0)) (by (with_reducible repeat (first|refine Zk ?_ _|refine Zn ?_|refine Zl ?_ _));exact BK116.out) hb);have n2_:=Zf.mk (Zm (by repeat (first|(with_reducible first|exact HB.out|apply Ze|apply Zc|apply Zd|refine Zg ?_ GE116.out)|exact HB.out)) hb);clear HO_9;clear BK116;clear HB;have HO_9:=n0_;have BK116:=n1_;have HB:=n2_;clear n0_ n1_ n2_;(try clear hb);(try clear hb2);(try clear hk);(try clear hi)));try go_wp2_with (first|(go_at_call 46;(with_reducible refine (puny_next.calls k3 _ _ l1 x13_3 t132 _ ?side1 ?side2 A27.out).mono ?_);(case side1 => repeat (first|exact (Kd.C_below HR1.out HB.out)|(with_reducible refine Kd.C_alloc ?_ _)|(with_reducible refine Kd.C_drewN ?_ _)|(with_reducible refine Kd.C_drew ?_)));(case side2 => exact HC1.out);rintro e w29 ⟨rfl,hb⟩;have n0_:=Zf.mk (Kd.Z9 (by (with_reducible repeat (first|apply Kd.Zv|apply Kd.Zu|apply Kd.Zz));exact HO_9.out) hb);have n1_:=Zf.mk (Zw (g:=gb116) (o:=.cells #[.int .i64 a0_0,.int .i64 a0_1,.int .i64 a0_2,.int .i64 a0_3,.int .i64 a0_4,.int .i64 a0_5,.int .i64 a0_6,.int .u8 a0_7] 59 (0,0)) (by (with_reducible repeat (first|refine Zk ?_ _|refine Zn ?_|refine Zl ?_ _));exact BK116.out) hb);have n2_:=Zf.mk (Zm (by repeat (first|(with_reducible first|exact HB.out|apply Ze|apply Zc|apply Zd|refine Zg ?_ GE116.out)|exact HB.out)) hb);clear HO_9;clear BK116;clear HB;have HO_9:=n0_;have BK116:=n1_;have HB:=n2_;clear n0_ n1_ n2_;(try clear hb);(try clear hb2);(try clear hk);(try clear hi))))
           go_ret3
           exact ⟨by first|rfl|(simp [Zp,Zq] <;> rfl)|(simp [*,Zp,Zq] <;> rfl),by repeat (first|(with_reducible first|exact HB.out|apply Ze|apply Zc|apply Zd|refine Zg ?_ GE116.out)|exact HB.out)⟩
          ·rw [if_neg c28] at H
           have c28b0 : decide (2147483647 < (wrap64 (x14_3 + (wrap64 ((wrap64 (t132 - x13_3)) * (wrap64 (x16_3 + 1)))))))=false:=decide_eq_false c28
           clear c28
           have H':=Zf.mk H
           clear H
           go_wp2_with (first|(go_at_call 46;(with_reducible refine (puny_next.calls k3 _ _ l1 x13_3 t132 _ ?side1 ?side2 A27.out).mono ?_);(case side1 => repeat (first|exact (Kd.C_below HR1.out HB.out)|(with_reducible refine Kd.C_alloc ?_ _)|(with_reducible refine Kd.C_drewN ?_ _)|(with_reducible refine Kd.C_drew ?_)));(case side2 => exact HC1.out);rintro e w30 ⟨rfl,hb⟩;have n0_:=Zf.mk (Kd.Z9 (by (with_reducible repeat (first|apply Kd.Zv|apply Kd.Zu|apply Kd.Zz));exact HO_9.out) hb);have n1_:=Zf.mk (Zw (g:=gb116) (o:=.cells #[.int .i64 a0_0,.int .i64 a0_1,.int .i64 a0_2,.int .i64 a0_3,.int .i64 a0_4,.int .i64 a0_5,.int .i64 a0_6,.int .u8 a0_7] 59 (0,0)) (by (with_reducible repeat (first|refine Zk ?_ _|refine Zn ?_|refine Zl ?_ _));exact BK116.out) hb);have n2_:=Zf.mk (Zm (by repeat (first|(with_reducible first|exact HB.out|apply Ze|apply Zc|apply Zd|refine Zg ?_ GE116.out)|exact HB.out)) hb);clear HO_9;clear BK116;clear HB;have HO_9:=n0_;have BK116:=n1_;have HB:=n2_;clear n0_ n1_ n2_;(try clear hb);(try clear hb2);(try clear hk);(try clear hi)))
           repeat (go_quiet (first|(go_at_call 46;(with_reducible refine (puny_next.calls k3 _ _ l1 x13_3 t132 _ ?side1 ?side2 A27.out).mono ?_);(case side1 => repeat (first|exact (Kd.C_below HR1.out HB.out)|(with_reducible refine Kd.C_alloc ?_ _)|(with_reducible refine Kd.C_drewN ?_ _)|(with_reducible refine Kd.C_drew ?_)));(case side2 => exact HC1.out);rintro e w30 ⟨rfl,hb⟩;have n0_:=Zf.mk (Kd.Z9 (by (with_reducible repeat (first|apply Kd.Zv|apply Kd.Zu|apply Kd.Zz));exact HO_9.out) hb);have n1_:=Zf.mk (Zw (g:=gb116) (o:=.cells #[.int .i64 a0_0,.int .i64 a0_1,.int .i64 a0_2,.int .i64 a0_3,.int .i64 a0_4,.int .i64 a0_5,.int .i64 a0_6,.int .u8 a0_7] 59 (0,0)) (by (with_reducible repeat (first|refine Zk ?_ _|refine Zn ?_|refine Zl ?_ _));exact BK116.out) hb);have n2_:=Zf.mk (Zm (by repeat (first|(with_reducible first|exact HB.out|apply Ze|apply Zc|apply Zd|refine Zg ?_ GE116.out)|exact HB.out)) hb);clear HO_9;clear BK116;clear HB;have HO_9:=n0_;have BK116:=n1_;have HB:=n2_;clear n0_ n1_ n2_;(try clear hb);(try clear hb2);(try clear hk);(try clear hi)));try go_wp2_with (first|(go_at_call 46;(with_reducible refine (puny_next.calls k3 _ _ l1 x13_3 t132 _ ?side1 ?side2 A27.out).mono ?_);(case side1 => repeat (first|exact (Kd.C_below HR1.out HB.out)|(with_reducible refine Kd.C_alloc ?_ _)|(with_reducible refine Kd.C_drewN ?_ _)|(with_reducible refine Kd.C_drew ?_)));(case side2 => exact HC1.out);rintro e w30 ⟨rfl,hb⟩;have n0_:=Zf.mk (Kd.Z9 (by (with_reducible repeat (first|apply Kd.Zv|apply Kd.Zu|apply Kd.Zz));exact HO_9.out) hb);have n1_:=Zf.mk (Zw (g:=gb116) (o:=.cells #[.int .i64 a0_0,.int .i64 a0_1,.int .i64 a0_2,.int .i64 a0_3,.int .i64 a0_4,.int .i64 a0_5,.int .i64 a0_6,.int .u8 a0_7] 59 (0,0)) (by (with_reducible repeat (first|refine Zk ?_ _|refine Zn ?_|refine Zl ?_ _));exact BK116.out) hb);have n2_:=Zf.mk (Zm (by repeat (first|(with_reducible first|exact HB.out|apply Ze|apply Zc|apply Zd|refine Zg ?_ GE116.out)|exact HB.out)) hb);clear HO_9;clear BK116;clear HB;have HO_9:=n0_;have BK116:=n1_;have HB:=n2_;clear n0_ n1_ n2_;(try clear hb);(try clear hb2);(try clear hk);(try clear hi))))
           go_loopg [9,14,15,16,83] k3 (fun kq v9 v14 v15 v16 v83 w' => ∃ (x9_4 : List Int) (x14_4 : Int) (x15_4 : Int) (x16_4 : Int) (x83_4 : Int),v14=.int .i64 x14_4∧v15=.int .i64 x15_4∧v16=.int .i64 x16_4∧v83=.int .i64 x83_4∧Zf (Zr.l2 kq l1 x9_4 (x9_1.length : Int) t132 x14_4 x15_4 x16_4 l1 (l1.length : Int) x83_4 a0_0 a0_1 a0_2 a0_3 a0_4 a0_5 a0_6 a0_7=some (r1,r2,r3))∧Zf (kq≤k3)∧Zf (Kd.R (Kd.int .u8) 5 w' w.heap.size (fun _ => True) v9 x9_4)∧Zf (w'.heap[gb116]?=some (.cells #[.int .i64 a0_0,.int .i64 a0_1,.int .i64 a0_2,.int .i64 a0_3,.int .i64 a0_4,.int .i64 a0_5,.int .i64 a0_6,.int .u8 a0_7] 59 (0,0)))∧Zf (Below w.heap.size w w'))
           case atStart => exact ⟨(x9_3),(wrap64 (x14_3 + (wrap64 ((wrap64 (t132 - x13_3)) * (wrap64 (x16_3 + 1)))))),(x15_3),(x16_3),(0),(by first|rfl|(simp;done)|(simp [*];done)),(by first|rfl|(simp;done)|(simp [*];done)),(by first|rfl|(simp;done)|(simp [*];done)),(by first|rfl|(simp;done)|(simp [*];done)),H',⟨Nat.le_refl _⟩,⟨by (with_reducible repeat (first|apply Kd.Zv|apply Kd.Zu|apply Kd.Zz));exact HO_9.out⟩,⟨by (with_reducible repeat (first|refine Zk ?_ _|refine Zn ?_|refine Zl ?_ _));exact BK116.out⟩,⟨by repeat (first|(with_reducible first|exact HB.out|apply Ze|apply Zc|apply Zd|refine Zg ?_ GE116.out)|exact HB.out)⟩⟩
           case round =>
            clear H'
            try clear c1
            try clear p1
            try clear q1
            try clear hx1
            try clear c2
            try clear p2
            try clear c3
            try clear c4
            try clear c4b0
            try clear c4b1
            try clear p6
            try clear c8
            try clear c8b0
            try clear c9
            try clear c9b0
            try clear c10
            try clear c10b0
            try clear p11
            try clear q11
            try clear hx11
            try clear c12
            try clear c13
            try clear c21
            try clear c21b0
            try clear c21b1
            try clear c22
            try clear c26
            try clear c26b0
            try clear c28
            try clear c28b0
            try clear hcz14_0
            try clear hcz14_1
            try clear hcz14_2
            try clear hcz14_3
            try clear hcz14_4
            try clear hcz14_5
            try clear hcz14_6
            try clear hcz14_7
            try clear hcz17_0
            try clear hcz17_1
            try clear hcz17_2
            try clear hcz17_3
            try clear hcz17_4
            try clear hcz17_5
            try clear hcz17_6
            try clear hcz17_7
            try clear hcz23_0
            try clear hcz23_1
            try clear hcz23_2
            try clear hcz23_3
            try clear hcz23_4
            try clear hcz23_5
            try clear hcz23_6
            try clear hcz23_7
            try clear hcz25_0
            try clear hcz25_1
            try clear hcz25_2
            try clear hcz25_3
            try clear hcz25_4
            try clear hcz25_5
            try clear hcz25_6
            try clear hcz25_7
            try clear hcz6_0
            try clear hcz6_1
            try clear hcz6_2
            try clear hcz6_3
            try clear hcz6_4
            try clear hcz6_5
            try clear hcz6_6
            try clear hcz6_7
            try clear hfz14_0
            try clear hfz14_1
            try clear hfz14_2
            try clear hfz14_3
            try clear hfz14_4
            try clear hfz14_5
            try clear hfz14_6
            try clear hfz14_7
            try clear hfz17_0
            try clear hfz17_1
            try clear hfz17_2
            try clear hfz17_3
            try clear hfz17_4
            try clear hfz17_5
            try clear hfz17_6
            try clear hfz17_7
            try clear hfz23_0
            try clear hfz23_1
            try clear hfz23_2
            try clear hfz23_3
            try clear hfz23_4
            try clear hfz23_5
            try clear hfz23_6
            try clear hfz23_7
            try clear hfz25_0
            try clear hfz25_1
            try clear hfz25_2
            try clear hfz25_3
            try clear hfz25_4
            try clear hfz25_5
            try clear hfz25_6
            try clear hfz25_7
            try clear hfz6_0
            try clear hfz6_1
            try clear hfz6_2
            try clear hfz6_3
            try clear hfz6_4
            try clear hfz6_5
            try clear hfz6_6
            try clear hfz6_7
            try clear hx119_0
            try clear p1
            try clear p11
            try clear p119
            try clear p2
            try clear p6
            try clear q1
            try clear q11
            try clear q119
            obtain ⟨x9_4,x14_4,x15_4,x16_4,x83_4,rfl,rfl,rfl,rfl,HA,HK4,HO_9,BK116,HB⟩:=hrel
            cases gk with
            | zero => exact absurd HA.out (by simp [Zr.l2])
            | succ k4 =>
             have H:=HA.out
             clear HA
             simp only [Zr.l2] at H
             by_cases c31 : x83_4 < (l1.length : Int)
             ·rw [if_pos c31] at H
              have c31b0 : decide (x83_4 < (l1.length : Int))=true:=decide_eq_true c31
              clear c31
              by_cases c32 : 0≤x83_4
              ·rw [if_pos c32] at H
               have c32b0 : decide (0≤x83_4)=true:=decide_eq_true c32
               clear c32
               by_cases c33 : x83_4 < (l1.length : Int)
               ·rw [if_pos c33] at H
                have c33b0 : decide (x83_4 < (l1.length : Int))=true:=decide_eq_true c33
                clear c33
                by_cases c34 : (wrap64 (rd l1 x83_4)) < t132
                ·rw [if_pos c34] at H
                 have c34b0 : decide ((wrap64 (rd l1 x83_4)) < t132)=true:=decide_eq_true c34
                 clear c34
                 by_cases c35 : (wrap64 (x14_4 + 1)) > 2147483647
                 ·rw [if_pos c35] at H
                  have c35b0 : decide (2147483647 < (wrap64 (x14_4 + 1)))=true:=decide_eq_true c35
                  clear c35
                  simp only [Option.some.injEq,Prod.mk.injEq] at H
                  obtain ⟨rfl,rfl,rfl⟩:=H
                  have p133 : 0≤(x83_4 : Int):=of_decide_eq_true (by first|(with_reducible assumption)|assumption)
                  have q133 : x83_4 < (l1.length : Int):=of_decide_eq_true (by first|(with_reducible assumption)|assumption)
                  obtain ⟨ad133,e133,hx133_0⟩:=Kd.at_int HR1.out x83_4 p133 q133
                  cases e133
                  replace hx133_0:=(HB.out.cell (World.block_lt_of_cell? w _ hx133_0)).trans hx133_0
                  replace p133:=eq_true p133
                  replace q133:=eq_true q133
                  go_wp2
                  repeat (go_quiet (fail);try go_wp2)
                  go_ret3
                  exact ⟨by first|rfl|(simp [Zp,Zq] <;> rfl)|(simp [*,Zp,Zq] <;> rfl),by repeat (first|(with_reducible first|exact HB.out|apply Ze|apply Zc|apply Zd|refine Zg ?_ GE116.out)|exact HB.out)⟩
                 ·rw [if_neg c35] at H
                  have c35b0 : decide (2147483647 < (wrap64 (x14_4 + 1)))=false:=decide_eq_false c35
                  clear c35
                  have H':=Zf.mk H
                  clear H
                  have p133 : 0≤(x83_4 : Int):=of_decide_eq_true (by first|(with_reducible assumption)|assumption)
                  have q133 : x83_4 < (l1.length : Int):=of_decide_eq_true (by first|(with_reducible assumption)|assumption)
                  obtain ⟨ad133,e133,hx133_0⟩:=Kd.at_int HR1.out x83_4 p133 q133
                  cases e133
                  replace hx133_0:=(HB.out.cell (World.block_lt_of_cell? w _ hx133_0)).trans hx133_0
                  replace p133:=eq_true p133
                  replace q133:=eq_true q133
                  go_wp2
                  repeat (go_quiet (fail);try go_wp2)
                  go_roundg k4
                  case measure => have:=HK1.out;have:=HJ18.out;have:=HK3.out;have:=HK4.out;omega
                  case rel => exact ⟨(x9_4),(wrap64 (x14_4 + 1)),(x15_4),(x16_4),(wrap64 (x83_4 + 1)),(by first|rfl|(simp;done)|(simp [*];done)),(by first|rfl|(simp;done)|(simp [*];done)),(by first|rfl|(simp;done)|(simp [*];done)),(by first|rfl|(simp;done)|(simp [*];done)),H',⟨by have:=HK1.out;have:=HJ18.out;have:=HK3.out;have:=HK4.out;omega⟩,⟨by (with_reducible repeat (first|apply Kd.Zv|apply Kd.Zu|apply Kd.Zz));exact HO_9.out⟩,⟨by (with_reducible repeat (first|refine Zk ?_ _|refine Zn ?_|refine Zl ?_ _));exact BK116.out⟩,⟨by repeat (first|(with_reducible first|exact HB.out|apply Ze|apply Zc|apply Zd|refine Zg ?_ GE116.out)|exact HB.out)⟩⟩
                ·rw [if_neg c34] at H
                 have c34b0 : decide ((wrap64 (rd l1 x83_4)) < t132)=false:=decide_eq_false c34
                 clear c34
                 by_cases c36 : (wrap64 (rd l1 x83_4))=t132
                 ·rw [if_pos c36] at H
                  have c36b0 : ((wrap64 (rd l1 x83_4)) == t132)=true:=beq_iff_eq.mpr c36
                  have c36b1 : ((wrap64 (rd l1 x83_4)) != t132)=false:=bne_eq_false_iff_eq.mpr c36
                  clear c36
                  replace H:=Option.bind_eq_some_iff.mp H
                  obtain ⟨t134,A370,H⟩:=H
                  replace H : (if x9_4.length + t134.length < 140737488355328 then ((Zt.f k4 a0_0 a0_1 a0_2 a0_3 a0_4 a0_5 a0_6 a0_7 x14_4 (wrap64 (x16_4 + 1)) (x16_4 == (x9_1.length : Int))).bind fun t140 => (if 0 > 2147483647 then (some ((⟨#[]⟩ : ByteArray),0,142)) else (Zr.l2 k4 l1 (x9_4++t134) (x9_1.length : Int) t132 0 t140 (wrap64 (x16_4 + 1)) l1 (l1.length : Int) (wrap64 (x83_4 + 1)) a0_0 a0_1 a0_2 a0_3 a0_4 a0_5 a0_6 a0_7))) else (none))=some (r1,r2,r3):=H
                  have A37:=Zf.mk A370
                  clear A370
                  by_cases c38 : x9_4.length + t134.length < 140737488355328
                  ·rw [if_pos c38] at H
                   have LMc38:=Zf.mk c38
                   clear c38
                   obtain ⟨y137,hy137⟩ : ∃ y_ : List Int,y_=(x9_4++t134):=⟨_,rfl⟩
                   replace H : ((Zt.f k4 a0_0 a0_1 a0_2 a0_3 a0_4 a0_5 a0_6 a0_7 x14_4 (wrap64 (x16_4 + 1)) (x16_4 == (x9_1.length : Int))).bind fun t140 => (if 0 > 2147483647 then (some ((⟨#[]⟩ : ByteArray),0,142)) else (Zr.l2 k4 l1 y137 (x9_1.length : Int) t132 0 t140 (wrap64 (x16_4 + 1)) l1 (l1.length : Int) (wrap64 (x83_4 + 1)) a0_0 a0_1 a0_2 a0_3 a0_4 a0_5 a0_6 a0_7)))=some (r1,r2,r3):=by first|(rw [hy137];with_reducible exact H)|(have H2_:=(Option.bind_some _ _).symm.trans H;rw [hy137];with_reducible exact H2_)|(have H2_:=(Option.bind_some _ _).symm.trans H;with_reducible exact H2_)|with_reducible exact H|(rw [hy137];exact H)|exact H
                   have Ny137:=Zf.mk hy137
                   clear hy137
                   replace H:=Option.bind_eq_some_iff.mp H
                   obtain ⟨t140,A390,H⟩:=H
                   replace H : (if 0 > 2147483647 then (some ((⟨#[]⟩ : ByteArray),0,142)) else (Zr.l2 k4 l1 y137 (x9_1.length : Int) t132 0 t140 (wrap64 (x16_4 + 1)) l1 (l1.length : Int) (wrap64 (x83_4 + 1)) a0_0 a0_1 a0_2 a0_3 a0_4 a0_5 a0_6 a0_7))=some (r1,r2,r3):=H
                   have A39:=Zf.mk A390
                   clear A390
                   by_cases c40 : 0 > 2147483647
                   ·exact absurd c40 (by decide)
                   ·rw [if_neg c40] at H
                    have c40b0 : decide (2147483647 < 0)=false:=decide_eq_false c40
                    clear c40
                    have H':=Zf.mk H
                    clear H
                    have p133 : 0≤(x83_4 : Int):=of_decide_eq_true (by first|(with_reducible assumption)|assumption)
                    have q133 : x83_4 < (l1.length : Int):=of_decide_eq_true (by first|(with_reducible assumption)|assumption)
                    obtain ⟨ad133,e133,hx133_0⟩:=Kd.at_int HR1.out x83_4 p133 q133
                    cases e133
                    replace hx133_0:=(HB.out.cell (World.block_lt_of_cell? w _ hx133_0)).trans hx133_0
                    replace p133:=eq_true p133
                    replace q133:=eq_true q133
                    have hcz47_0 : wr.cell? ⟨gb116,0,none⟩=some (.int .i64 a0_0):=(Zb BK116.out 0).trans rfl
                    have hcz47_1 : wr.cell? ⟨gb116,1,none⟩=some (.int .i64 a0_1):=(Zb BK116.out 1).trans rfl
                    have hcz47_2 : wr.cell? ⟨gb116,2,none⟩=some (.int .i64 a0_2):=(Zb BK116.out 2).trans rfl
                    have hcz47_3 : wr.cell? ⟨gb116,3,none⟩=some (.int .i64 a0_3):=(Zb BK116.out 3).trans rfl
                    have hcz47_4 : wr.cell? ⟨gb116,4,none⟩=some (.int .i64 a0_4):=(Zb BK116.out 4).trans rfl
                    have hcz47_5 : wr.cell? ⟨gb116,5,none⟩=some (.int .i64 a0_5):=(Zb BK116.out 5).trans rfl
                    have hcz47_6 : wr.cell? ⟨gb116,6,none⟩=some (.int .i64 a0_6):=(Zb BK116.out 6).trans rfl
                    have hcz47_7 : wr.cell? ⟨gb116,7,none⟩=some (.int .u8 a0_7):=(Zb BK116.out 7).trans rfl
                    have hfz47_0:=Za BK116.out 0
                    have hfz47_1:=Za BK116.out 1
                    have hfz47_2:=Za BK116.out 2
                    have hfz47_3:=Za BK116.out 3
                    have hfz47_4:=Za BK116.out 4
                    have hfz47_5:=Za BK116.out 5
                    have hfz47_6:=Za BK116.out 6
                    have hfz47_7:=Za BK116.out 7
                    go_wp2_with (first|(go_at_call 47;(with_reducible refine (Ya.calls k4 a0_0 a0_1 a0_2 a0_3 a0_4 a0_5 a0_6 a0_7 x14_4 x15_4 t134 _ A37.out).mono ?_);rintro e w48 ⟨v135,rfl,ho0,hb⟩;have n0_:=Zf.mk (Kd.R_elder' (by (with_reducible repeat (first|apply Kd.Zv|apply Kd.Zu|apply Kd.Zz));exact HO_9.out) (Kd.R_base ho0) hb);have n1_:=Zf.mk (Kd.R_lower (Kd.R_new' ho0 (Kd.R_lt (by (with_reducible repeat (first|apply Kd.Zv|apply Kd.Zu|apply Kd.Zz));exact HO_9.out))) (Zo (by repeat (first|(with_reducible first|exact HB.out|apply Ze|apply Zc|apply Zd|refine Zg ?_ GE116.out)|exact HB.out))));have n2_:=Zf.mk (Zw (g:=gb116) (o:=.cells #[.int .i64 a0_0,.int .i64 a0_1,.int .i64 a0_2,.int .i64 a0_3,.int .i64 a0_4,.int .i64 a0_5,.int .i64 a0_6,.int .u8 a0_7] 59 (0,0)) (by (with_reducible repeat (first|refine Zk ?_ _|refine Zn ?_|refine Zl ?_ _));exact BK116.out) hb);have n3_:=Zf.mk (Zm (by repeat (first|(with_reducible first|exact HB.out|apply Ze|apply Zc|apply Zd|refine Zg ?_ GE116.out)|exact HB.out)) hb);clear HO_9;clear BK116;clear HB;have HO_9:=n0_;have HO136:=n1_;have BK116:=n2_;have HB:=n3_;clear n0_ n1_ n2_ n3_;(try clear hb);(try clear hb2);(try clear hk);(try clear hi);(try clear ho0);obtain ⟨Ao50,co50,eo50⟩:=Kd.R_slice HO136.out;subst eo50)|((with_reducible refine gate_builtin (b:=.append) (xs:=#[.tmp 99,.tmp 103]) rfl ?_);at_builtin;refine Kd.R_append_rows (Kd.int .u8) (w0:=w) w.heap.size rfl (.tmp 99) (.tmp 103) 35 5 (.int .u8 0) 1 rfl Tryd.underlying35 info5 rfl (by decide) (by omega) u9 x9_4 t134 _ _ _ (fun k_ => some k_ ≠ (.slice Ao50 t134.length co50 : Value).ownBlock) (fun _ => False) rfl rfl ?aO ?aR (fun _ _ h => h) (fun _ h => h.elim) ?aF ?aB ?aS ?aL ?_;(case aR => repeat (first|exact (Kd.R_reads' HO136.out).2.2|(with_reducible refine Kd.C_alloc ?_ _)|(with_reducible refine Kd.C_drewN ?_ _)|(with_reducible refine Kd.C_drew ?_)));(case aB => exact (by repeat (first|(with_reducible first|exact HB.out|apply Ze|apply Zc|apply Zd|refine Zg ?_ GE116.out)|exact HB.out)));(case aF => exact (fun k_ hk => Kd.fresh' (Kd.R_lt (by (with_reducible repeat (first|apply Kd.Zv|apply Kd.Zu|apply Kd.Zz));exact HO136.out)) k_ hk));(case aO => exact (by (with_reducible repeat (first|apply Kd.Zv|apply Kd.Zu|apply Kd.Zz));exact Kd.R_mono HO_9.out (fun _ hk => hk.2)));(case aS => exact (Zo (by repeat (first|(with_reducible first|exact HB.out|apply Ze|apply Zc|apply Zd|refine Zg ?_ GE116.out)|exact HB.out))));(case aL => have:=LMc38.out;omega);intro v138 w49 ho hb hg hat;rw [← Ny137.out] at ho;have n0_:=Zf.mk (blk_grown (g:=gb116) (o:=.cells #[.int .i64 a0_0,.int .i64 a0_1,.int .i64 a0_2,.int .i64 a0_3,.int .i64 a0_4,.int .i64 a0_5,.int .i64 a0_6,.int .u8 a0_7] 59 (0,0)) (by (with_reducible repeat (first|refine Zk ?_ _|refine Zn ?_|refine Zl ?_ _));exact BK116.out) hg (Kd.R_ne HO_9.out BK116.out (by decide)));have n1_:=Zf.mk (Kd.R_after (ok:=(fun _ => True)) (by (with_reducible repeat (first|apply Kd.Zv|apply Kd.Zu|apply Kd.Zz));exact HO136.out) hg hat);have n2_:=Zf.mk (hb);have n3_:=Zf.mk (ho);clear BK116;clear HO136;clear HB;clear HO_9;have BK116:=n0_;have HO136:=n1_;have HB:=n2_;have HO139:=n3_;clear n0_ n1_ n2_ n3_;clear ho hb hg hat;have hcz51_0 : w49.cell? ⟨gb116,0,none⟩=some (.int .i64 a0_0):=(Zb BK116.out 0).trans rfl;have hcz51_1 : w49.cell? ⟨gb116,1,none⟩=some (.int .i64 a0_1):=(Zb BK116.out 1).trans rfl;have hcz51_2 : w49.cell? ⟨gb116,2,none⟩=some (.int .i64 a0_2):=(Zb BK116.out 2).trans rfl;have hcz51_3 : w49.cell? ⟨gb116,3,none⟩=some (.int .i64 a0_3):=(Zb BK116.out 3).trans rfl;have hcz51_4 : w49.cell? ⟨gb116,4,none⟩=some (.int .i64 a0_4):=(Zb BK116.out 4).trans rfl;have hcz51_5 : w49.cell? ⟨gb116,5,none⟩=some (.int .i64 a0_5):=(Zb BK116.out 5).trans rfl;have hcz51_6 : w49.cell? ⟨gb116,6,none⟩=some (.int .i64 a0_6):=(Zb BK116.out 6).trans rfl;have hcz51_7 : w49.cell? ⟨gb116,7,none⟩=some (.int .u8 a0_7):=(Zb BK116.out 7).trans rfl;have hfz51_0:=Za BK116.out 0;have hfz51_1:=Za BK116.out 1;have hfz51_2:=Za BK116.out 2;have hfz51_3:=Za BK116.out 3;have hfz51_4:=Za BK116.out 4;have hfz51_5:=Za BK116.out 5;have hfz51_6:=Za BK116.out 6;have hfz51_7:=Za BK116.out 7)|(go_at_call 37;(with_reducible refine (Zt.calls k4 a0_0 a0_1 a0_2 a0_3 a0_4 a0_5 a0_6 a0_7 x14_4 (wrap64 (x16_4 + 1)) (x16_4 == (x9_1.length : Int)) t140 _ A39.out).mono ?_);rintro e w52 ⟨rfl,hb⟩;have n0_:=Zf.mk (Kd.Z9 (by (with_reducible repeat (first|apply Kd.Zv|apply Kd.Zu|apply Kd.Zz));exact HO136.out) hb);have n1_:=Zf.mk (Kd.Z9 (by (with_reducible repeat (first|apply Kd.Zv|apply Kd.Zu|apply Kd.Zz));exact HO139.out) hb);have n2_:=Zf.mk (Zw (g:=gb116) (o:=.cells #[.int .i64 a0_0,.int .i64 a0_1,.int .i64 a0_2,.int .i64 a0_3,.int .i64 a0_4,.int .i64 a0_5,.int .i64 a0_6,.int .u8 a0_7] 59 (0,0)) (by (with_reducible repeat (first|refine Zk ?_ _|refine Zn ?_|refine Zl ?_ _));exact BK116.out) hb);have n3_:=Zf.mk (Zm (by repeat (first|(with_reducible first|exact HB.out|apply Ze|apply Zc|apply Zd|refine Zg ?_ GE116.out)|exact HB.out)) hb);clear HO136;clear HO139;clear BK116;clear HB;have HO136:=n0_;have HO139:=n1_;have BK116:=n2_;have HB:=n3_;clear n0_ n1_ n2_ n3_;(try clear hb);(try clear hb2);(try clear hk);(try clear hi)))
                    repeat (go_quiet (first|(go_at_call 47;(with_reducible refine (Ya.calls k4 a0_0 a0_1 a0_2 a0_3 a0_4 a0_5 a0_6 a0_7 x14_4 x15_4 t134 _ A37.out).mono ?_);rintro e w48 ⟨v135,rfl,ho0,hb⟩;have n0_:=Zf.mk (Kd.R_elder' (by (with_reducible repeat (first|apply Kd.Zv|apply Kd.Zu|apply Kd.Zz));exact HO_9.out) (Kd.R_base ho0) hb);have n1_:=Zf.mk (Kd.R_lower (Kd.R_new' ho0 (Kd.R_lt (by (with_reducible repeat (first|apply Kd.Zv|apply Kd.Zu|apply Kd.Zz));exact HO_9.out))) (Zo (by repeat (first|(with_reducible first|exact HB.out|apply Ze|apply Zc|apply Zd|refine Zg ?_ GE116.out)|exact HB.out))));have n2_:=Zf.mk (Zw (g:=gb116) (o:=.cells #[.int .i64 a0_0,.int .i64 a0_1,.int .i64 a0_2,.int .i64 a0_3,.int .i64 a0_4,.int .i64 a0_5,.int .i64 a0_6,.int .u8 a0_7] 59 (0,0)) (by (with_reducible repeat (first|refine Zk ?_ _|refine Zn ?_|refine Zl ?_ _));exact BK116.out) hb);have n3_:=Zf.mk (Zm (by repeat (first|(with_reducible first|exact HB.out|apply Ze|apply Zc|apply Zd|refine Zg ?_ GE116.out)|exact HB.out)) hb);clear HO_9;clear BK116;clear HB;have HO_9:=n0_;have HO136:=n1_;have BK116:=n2_;have HB:=n3_;clear n0_ n1_ n2_ n3_;(try clear hb);(try clear hb2);(try clear hk);(try clear hi);(try clear ho0);obtain ⟨Ao50,co50,eo50⟩:=Kd.R_slice HO136.out;subst eo50)|((with_reducible refine gate_builtin (b:=.append) (xs:=#[.tmp 99,.tmp 103]) rfl ?_);at_builtin;refine Kd.R_append_rows (Kd.int .u8) (w0:=w) w.heap.size rfl (.tmp 99) (.tmp 103) 35 5 (.int .u8 0) 1 rfl Tryd.underlying35 info5 rfl (by decide) (by omega) u9 x9_4 t134 _ _ _ (fun k_ => some k_ ≠ (.slice Ao50 t134.length co50 : Value).ownBlock) (fun _ => False) rfl rfl ?aO ?aR (fun _ _ h => h) (fun _ h => h.elim) ?aF ?aB ?aS ?aL ?_;(case aR => repeat (first|exact (Kd.R_reads' HO136.out).2.2|(with_reducible refine Kd.C_alloc ?_ _)|(with_reducible refine Kd.C_drewN ?_ _)|(with_reducible refine Kd.C_drew ?_)));(case aB => exact (by repeat (first|(with_reducible first|exact HB.out|apply Ze|apply Zc|apply Zd|refine Zg ?_ GE116.out)|exact HB.out)));(case aF => exact (fun k_ hk => Kd.fresh' (Kd.R_lt (by (with_reducible repeat (first|apply Kd.Zv|apply Kd.Zu|apply Kd.Zz));exact HO136.out)) k_ hk));(case aO => exact (by (with_reducible repeat (first|apply Kd.Zv|apply Kd.Zu|apply Kd.Zz));exact Kd.R_mono HO_9.out (fun _ hk => hk.2)));(case aS => exact (Zo (by repeat (first|(with_reducible first|exact HB.out|apply Ze|apply Zc|apply Zd|refine Zg ?_ GE116.out)|exact HB.out))));(case aL => have:=LMc38.out;omega);intro v138 w49 ho hb hg hat;rw [← Ny137.out] at ho;have n0_:=Zf.mk (blk_grown (g:=gb116) (o:=.cells #[.int .i64 a0_0,.int .i64 a0_1,.int .i64 a0_2,.int .i64 a0_3,.int .i64 a0_4,.int .i64 a0_5,.int .i64 a0_6,.int .u8 a0_7] 59 (0,0)) (by (with_reducible repeat (first|refine Zk ?_ _|refine Zn ?_|refine Zl ?_ _));exact BK116.out) hg (Kd.R_ne HO_9.out BK116.out (by decide)));have n1_:=Zf.mk (Kd.R_after (ok:=(fun _ => True)) (by (with_reducible repeat (first|apply Kd.Zv|apply Kd.Zu|apply Kd.Zz));exact HO136.out) hg hat);have n2_:=Zf.mk (hb);have n3_:=Zf.mk (ho);clear BK116;clear HO136;clear HB;clear HO_9;have BK116:=n0_;have HO136:=n1_;have HB:=n2_;have HO139:=n3_;clear n0_ n1_ n2_ n3_;clear ho hb hg hat;have hcz51_0 : w49.cell? ⟨gb116,0,none⟩=some (.int .i64 a0_0):=(Zb BK116.out 0).trans rfl;have hcz51_1 : w49.cell? ⟨gb116,1,none⟩=some (.int .i64 a0_1):=(Zb BK116.out 1).trans rfl;have hcz51_2 : w49.cell? ⟨gb116,2,none⟩=some (.int .i64 a0_2):=(Zb BK116.out 2).trans rfl;have hcz51_3 : w49.cell? ⟨gb116,3,none⟩=some (.int .i64 a0_3):=(Zb BK116.out 3).trans rfl;have hcz51_4 : w49.cell? ⟨gb116,4,none⟩=some (.int .i64 a0_4):=(Zb BK116.out 4).trans rfl;have hcz51_5 : w49.cell? ⟨gb116,5,none⟩=some (.int .i64 a0_5):=(Zb BK116.out 5).trans rfl;have hcz51_6 : w49.cell? ⟨gb116,6,none⟩=some (.int .i64 a0_6):=(Zb BK116.out 6).trans rfl;have hcz51_7 : w49.cell? ⟨gb116,7,none⟩=some (.int .u8 a0_7):=(Zb BK116.out 7).trans rfl;have hfz51_0:=Za BK116.out 0;have hfz51_1:=Za BK116.out 1;have hfz51_2:=Za BK116.out 2;have hfz51_3:=Za BK116.out 3;have hfz51_4:=Za BK116.out 4;have hfz51_5:=Za BK116.out 5;have hfz51_6:=Za BK116.out 6;have hfz51_7:=Za BK116.out 7)|(go_at_call 37;(with_reducible refine (Zt.calls k4 a0_0 a0_1 a0_2 a0_3 a0_4 a0_5 a0_6 a0_7 x14_4 (wrap64 (x16_4 + 1)) (x16_4 == (x9_1.length : Int)) t140 _ A39.out).mono ?_);rintro e w52 ⟨rfl,hb⟩;have n0_:=Zf.mk (Kd.Z9 (by (with_reducible repeat (first|apply Kd.Zv|apply Kd.Zu|apply Kd.Zz));exact HO136.out) hb);have n1_:=Zf.mk (Kd.Z9 (by (with_reducible repeat (first|apply Kd.Zv|apply Kd.Zu|apply Kd.Zz));exact HO139.out) hb);have n2_:=Zf.mk (Zw (g:=gb116) (o:=.cells #[.int .i64 a0_0,.int .i64 a0_1,.int .i64 a0_2,.int .i64 a0_3,.int .i64 a0_4,.int .i64 a0_5,.int .i64 a0_6,.int .u8 a0_7] 59 (0,0)) (by (with_reducible repeat (first|refine Zk ?_ _|refine Zn ?_|refine Zl ?_ _));exact BK116.out) hb);have n3_:=Zf.mk (Zm (by repeat (first|(with_reducible first|exact HB.out|apply Ze|apply Zc|apply Zd|refine Zg ?_ GE116.out)|exact HB.out)) hb);clear HO136;clear HO139;clear BK116;clear HB;have HO136:=n0_;have HO139:=n1_;have BK116:=n2_;have HB:=n3_;clear n0_ n1_ n2_ n3_;(try clear hb);(try clear hb2);(try clear hk);(try clear hi)));try go_wp2_with (first|(go_at_call 47;(with_reducible refine (Ya.calls k4 a0_0 a0_1 a0_2 a0_3 a0_4 a0_5 a0_6 a0_7 x14_4 x15_4 t134 _ A37.out).mono ?_);rintro e w48 ⟨v135,rfl,ho0,hb⟩;have n0_:=Zf.mk (Kd.R_elder' (by (with_reducible repeat (first|apply Kd.Zv|apply Kd.Zu|apply Kd.Zz));exact HO_9.out) (Kd.R_base ho0) hb);have n1_:=Zf.mk (Kd.R_lower (Kd.R_new' ho0 (Kd.R_lt (by (with_reducible repeat (first|apply Kd.Zv|apply Kd.Zu|apply Kd.Zz));exact HO_9.out))) (Zo (by repeat (first|(with_reducible first|exact HB.out|apply Ze|apply Zc|apply Zd|refine Zg ?_ GE116.out)|exact HB.out))));have n2_:=Zf.mk (Zw (g:=gb116) (o:=.cells #[.int .i64 a0_0,.int .i64 a0_1,.int .i64 a0_2,.int .i64 a0_3,.int .i64 a0_4,.int .i64 a0_5,.int .i64 a0_6,.int .u8 a0_7] 59 (0,0)) (by (with_reducible repeat (first|refine Zk ?_ _|refine Zn ?_|refine Zl ?_ _));exact BK116.out) hb);have n3_:=Zf.mk (Zm (by repeat (first|(with_reducible first|exact HB.out|apply Ze|apply Zc|apply Zd|refine Zg ?_ GE116.out)|exact HB.out)) hb);clear HO_9;clear BK116;clear HB;have HO_9:=n0_;have HO136:=n1_;have BK116:=n2_;have HB:=n3_;clear n0_ n1_ n2_ n3_;(try clear hb);(try clear hb2);(try clear hk);(try clear hi);(try clear ho0);obtain ⟨Ao50,co50,eo50⟩:=Kd.R_slice HO136.out;subst eo50)|((with_reducible refine gate_builtin (b:=.append) (xs:=#[.tmp 99,.tmp 103]) rfl ?_);at_builtin;refine Kd.R_append_rows (Kd.int .u8) (w0:=w) w.heap.size rfl (.tmp 99) (.tmp 103) 35 5 (.int .u8 0) 1 rfl Tryd.underlying35 info5 rfl (by decide) (by omega) u9 x9_4 t134 _ _ _ (fun k_ => some k_ ≠ (.slice Ao50 t134.length co50 : Value).ownBlock) (fun _ => False) rfl rfl ?aO ?aR (fun _ _ h => h) (fun _ h => h.elim) ?aF ?aB ?aS ?aL ?_;(case aR => repeat (first|exact (Kd.R_reads' HO136.out).2.2|(with_reducible refine Kd.C_alloc ?_ _)|(with_reducible refine Kd.C_drewN ?_ _)|(with_reducible refine Kd.C_drew ?_)));(case aB => exact (by repeat (first|(with_reducible first|exact HB.out|apply Ze|apply Zc|apply Zd|refine Zg ?_ GE116.out)|exact HB.out)));(case aF => exact (fun k_ hk => Kd.fresh' (Kd.R_lt (by (with_reducible repeat (first|apply Kd.Zv|apply Kd.Zu|apply Kd.Zz));exact HO136.out)) k_ hk));(case aO => exact (by (with_reducible repeat (first|apply Kd.Zv|apply Kd.Zu|apply Kd.Zz));exact Kd.R_mono HO_9.out (fun _ hk => hk.2)));(case aS => exact (Zo (by repeat (first|(with_reducible first|exact HB.out|apply Ze|apply Zc|apply Zd|refine Zg ?_ GE116.out)|exact HB.out))));(case aL => have:=LMc38.out;omega);intro v138 w49 ho hb hg hat;rw [← Ny137.out] at ho;have n0_:=Zf.mk (blk_grown (g:=gb116) (o:=.cells #[.int .i64 a0_0,.int .i64 a0_1,.int .i64 a0_2,.int .i64 a0_3,.int .i64 a0_4,.int .i64 a0_5,.int .i64 a0_6,.int .u8 a0_7] 59 (0,0)) (by (with_reducible repeat (first|refine Zk ?_ _|refine Zn ?_|refine Zl ?_ _));exact BK116.out) hg (Kd.R_ne HO_9.out BK116.out (by decide)));have n1_:=Zf.mk (Kd.R_after (ok:=(fun _ => True)) (by (with_reducible repeat (first|apply Kd.Zv|apply Kd.Zu|apply Kd.Zz));exact HO136.out) hg hat);have n2_:=Zf.mk (hb);have n3_:=Zf.mk (ho);clear BK116;clear HO136;clear HB;clear HO_9;have BK116:=n0_;have HO136:=n1_;have HB:=n2_;have HO139:=n3_;clear n0_ n1_ n2_ n3_;clear ho hb hg hat;have hcz51_0 : w49.cell? ⟨gb116,0,none⟩=some (.int .i64 a0_0):=(Zb BK116.out 0).trans rfl;have hcz51_1 : w49.cell? ⟨gb116,1,none⟩=some (.int .i64 a0_1):=(Zb BK116.out 1).trans rfl;have hcz51_2 : w49.cell? ⟨gb116,2,none⟩=some (.int .i64 a0_2):=(Zb BK116.out 2).trans rfl;have hcz51_3 : w49.cell? ⟨gb116,3,none⟩=some (.int .i64 a0_3):=(Zb BK116.out 3).trans rfl;have hcz51_4 : w49.cell? ⟨gb116,4,none⟩=some (.int .i64 a0_4):=(Zb BK116.out 4).trans rfl;have hcz51_5 : w49.cell? ⟨gb116,5,none⟩=some (.int .i64 a0_5):=(Zb BK116.out 5).trans rfl;have hcz51_6 : w49.cell? ⟨gb116,6,none⟩=some (.int .i64 a0_6):=(Zb BK116.out 6).trans rfl;have hcz51_7 : w49.cell? ⟨gb116,7,none⟩=some (.int .u8 a0_7):=(Zb BK116.out 7).trans rfl;have hfz51_0:=Za BK116.out 0;have hfz51_1:=Za BK116.out 1;have hfz51_2:=Za BK116.out 2;have hfz51_3:=Za BK116.out 3;have hfz51_4:=Za BK116.out 4;have hfz51_5:=Za BK116.out 5;have hfz51_6:=Za BK116.out 6;have hfz51_7:=Za BK116.out 7)|(go_at_call 37;(with_reducible refine (Zt.calls k4 a0_0 a0_1 a0_2 a0_3 a0_4 a0_5 a0_6 a0_7 x14_4 (wrap64 (x16_4 + 1)) (x16_4 == (x9_1.length : Int)) t140 _ A39.out).mono ?_);rintro e w52 ⟨rfl,hb⟩;have n0_:=Zf.mk (Kd.Z9 (by (with_reducible repeat (first|apply Kd.Zv|apply Kd.Zu|apply Kd.Zz));exact HO136.out) hb);have n1_:=Zf.mk (Kd.Z9 (by (with_reducible repeat (first|apply Kd.Zv|apply Kd.Zu|apply Kd.Zz));exact HO139.out) hb);have n2_:=Zf.mk (Zw (g:=gb116) (o:=.cells #[.int .i64 a0_0,.int .i64 a0_1,.int .i64 a0_2,.int .i64 a0_3,.int .i64 a0_4,.int .i64 a0_5,.int .i64 a0_6,.int .u8 a0_7] 59 (0,0)) (by (with_reducible repeat (first|refine Zk ?_ _|refine Zn ?_|refine Zl ?_ _));exact BK116.out) hb);have n3_:=Zf.mk (Zm (by repeat (first|(with_reducible first|exact HB.out|apply Ze|apply Zc|apply Zd|refine Zg ?_ GE116.out)|exact HB.out)) hb);clear HO136;clear HO139;clear BK116;clear HB;have HO136:=n0_;have HO139:=n1_;have BK116:=n2_;have HB:=n3_;clear n0_ n1_ n2_ n3_;(try clear hb);(try clear hb2);(try clear hk);(try clear hi))))
                    go_roundg k4
                    case measure => have:=HK1.out;have:=HJ18.out;have:=HK3.out;have:=HK4.out;omega
                    case rel => exact ⟨(y137),(0),(t140),(wrap64 (x16_4 + 1)),(wrap64 (x83_4 + 1)),(by first|rfl|(simp;done)|(simp [*];done)),(by first|rfl|(simp;done)|(simp [*];done)),(by first|rfl|(simp;done)|(simp [*];done)),(by first|rfl|(simp;done)|(simp [*];done)),H',⟨by have:=HK1.out;have:=HJ18.out;have:=HK3.out;have:=HK4.out;omega⟩,⟨by (with_reducible repeat (first|apply Kd.Zv|apply Kd.Zu|apply Kd.Zz));exact Kd.R_mono HO139.out (fun _ hk => trivial)⟩,⟨by (with_reducible repeat (first|refine Zk ?_ _|refine Zn ?_|refine Zl ?_ _));exact BK116.out⟩,⟨by repeat (first|(with_reducible first|exact HB.out|apply Ze|apply Zc|apply Zd|refine Zg ?_ GE116.out)|exact HB.out)⟩⟩
                  ·rw [if_neg c38] at H
                   exact absurd H (by simp)
                 ·rw [if_neg c36] at H
                  have c36b0 : ((wrap64 (rd l1 x83_4)) == t132)=false:=beq_eq_false_iff_ne.mpr c36
                  have c36b1 : ((wrap64 (rd l1 x83_4)) != t132)=true:=bne_iff_ne.mpr c36
                  by_cases c53 : x14_4 > 2147483647
                  ·rw [if_pos c53] at H
                   have c53b0 : decide (2147483647 < x14_4)=true:=decide_eq_true c53
                   clear c53
                   simp only [Option.some.injEq,Prod.mk.injEq] at H
                   obtain ⟨rfl,rfl,rfl⟩:=H
                   have p133 : 0≤(x83_4 : Int):=of_decide_eq_true (by first|(with_reducible assumption)|assumption)
                   have q133 : x83_4 < (l1.length : Int):=of_decide_eq_true (by first|(with_reducible assumption)|assumption)
                   obtain ⟨ad133,e133,hx133_0⟩:=Kd.at_int HR1.out x83_4 p133 q133
                   cases e133
                   replace hx133_0:=(HB.out.cell (World.block_lt_of_cell? w _ hx133_0)).trans hx133_0
                   replace p133:=eq_true p133
                   replace q133:=eq_true q133
                   go_wp2
                   repeat (go_quiet (fail);try go_wp2)
                   go_ret3
                   exact ⟨by first|rfl|(simp [Zp,Zq] <;> rfl)|(simp [*,Zp,Zq] <;> rfl),by repeat (first|(with_reducible first|exact HB.out|apply Ze|apply Zc|apply Zd|refine Zg ?_ GE116.out)|exact HB.out)⟩
                  ·rw [if_neg c53] at H
                   have c53b0 : decide (2147483647 < x14_4)=false:=decide_eq_false c53
                   clear c53
                   have H':=Zf.mk H
                   clear H
                   have p133 : 0≤(x83_4 : Int):=of_decide_eq_true (by first|(with_reducible assumption)|assumption)
                   have q133 : x83_4 < (l1.length : Int):=of_decide_eq_true (by first|(with_reducible assumption)|assumption)
                   obtain ⟨ad133,e133,hx133_0⟩:=Kd.at_int HR1.out x83_4 p133 q133
                   cases e133
                   replace hx133_0:=(HB.out.cell (World.block_lt_of_cell? w _ hx133_0)).trans hx133_0
                   replace p133:=eq_true p133
                   replace q133:=eq_true q133
                   go_wp2
                   repeat (go_quiet (fail);try go_wp2)
                   go_roundg k4
                   case measure => have:=HK1.out;have:=HJ18.out;have:=HK3.out;have:=HK4.out;omega
                   case rel => exact ⟨(x9_4),(x14_4),(x15_4),(x16_4),(wrap64 (x83_4 + 1)),(by first|rfl|(simp;done)|(simp [*];done)),(by first|rfl|(simp;done)|(simp [*];done)),(by first|rfl|(simp;done)|(simp [*];done)),(by first|rfl|(simp;done)|(simp [*];done)),H',⟨by have:=HK1.out;have:=HJ18.out;have:=HK3.out;have:=HK4.out;omega⟩,⟨by (with_reducible repeat (first|apply Kd.Zv|apply Kd.Zu|apply Kd.Zz));exact HO_9.out⟩,⟨by (with_reducible repeat (first|refine Zk ?_ _|refine Zn ?_|refine Zl ?_ _));exact BK116.out⟩,⟨by repeat (first|(with_reducible first|exact HB.out|apply Ze|apply Zc|apply Zd|refine Zg ?_ GE116.out)|exact HB.out)⟩⟩
               ·rw [if_neg c33] at H
                exact absurd H (by simp)
              ·rw [if_neg c32] at H
               exact absurd H (by simp)
             ·rw [if_neg c31] at H
              have c31b0 : decide (x83_4 < (l1.length : Int))=false:=decide_eq_false c31
              clear c31
              by_cases c54 : x16_4=(l1.length : Int)
              ·rw [if_pos c54] at H
               have c54b0 : (x16_4 == (l1.length : Int))=true:=beq_iff_eq.mpr c54
               have c54b1 : (x16_4 != (l1.length : Int))=false:=bne_eq_false_iff_eq.mpr c54
               clear c54
               replace H:=Option.bind_eq_some_iff.mp H
               obtain ⟨⟨t141,t144,t145⟩,A550,H⟩:=H
               replace H : (if t145=0 then (some (strOfNums x9_4,0,0)) else (some ((⟨#[]⟩ : ByteArray),0,142)))=some (r1,r2,r3):=H
               have A55:=Zf.mk A550
               clear A550
               by_cases c56 : t145=0
               ·rw [if_pos c56] at H
                have c56b0 : (t145 == 0)=true:=beq_iff_eq.mpr c56
                have c56b1 : (t145 != 0)=false:=bne_eq_false_iff_eq.mpr c56
                clear c56
                simp only [Option.some.injEq,Prod.mk.injEq] at H
                obtain ⟨rfl,rfl,rfl⟩:=H
                have hcv57:=own_string (P:=Tryd.prog) Tryd.underlying35 Tryd.underlying5 Tryd.underlying9 (Kd.own_of_R HO_9.out)
                have hcz58_0 : wr.cell? ⟨gb116,0,none⟩=some (.int .i64 a0_0):=(Zb BK116.out 0).trans rfl
                have hcz58_1 : wr.cell? ⟨gb116,1,none⟩=some (.int .i64 a0_1):=(Zb BK116.out 1).trans rfl
                have hcz58_2 : wr.cell? ⟨gb116,2,none⟩=some (.int .i64 a0_2):=(Zb BK116.out 2).trans rfl
                have hcz58_3 : wr.cell? ⟨gb116,3,none⟩=some (.int .i64 a0_3):=(Zb BK116.out 3).trans rfl
                have hcz58_4 : wr.cell? ⟨gb116,4,none⟩=some (.int .i64 a0_4):=(Zb BK116.out 4).trans rfl
                have hcz58_5 : wr.cell? ⟨gb116,5,none⟩=some (.int .i64 a0_5):=(Zb BK116.out 5).trans rfl
                have hcz58_6 : wr.cell? ⟨gb116,6,none⟩=some (.int .i64 a0_6):=(Zb BK116.out 6).trans rfl
                have hcz58_7 : wr.cell? ⟨gb116,7,none⟩=some (.int .u8 a0_7):=(Zb BK116.out 7).trans rfl
                have hfz58_0:=Za BK116.out 0
                have hfz58_1:=Za BK116.out 1
                have hfz58_2:=Za BK116.out 2
                have hfz58_3:=Za BK116.out 3
                have hfz58_4:=Za BK116.out 4
                have hfz58_5:=Za BK116.out 5
                have hfz58_6:=Za BK116.out 6
                have hfz58_7:=Za BK116.out 7
                go_wp2_with (first|(go_at_call 35;(with_reducible refine (Z7.calls a0_0 a0_1 a0_2 a0_3 a0_4 a0_5 a0_6 a0_7 (strOfNums x9_4) t141 t144 t145 _ A55.out (by first|exact T_|exact (Utf8Tabs_below T_ (by repeat (first|(with_reducible first|exact HB.out|apply Ze|apply Zc|apply Zd|refine Zg ?_ GE116.out)|exact HB.out))))).mono ?_);rintro e w59 ⟨v142,rfl,ho0,hb⟩;have n0_:=Zf.mk (Kd.Z9 (by (with_reducible repeat (first|apply Kd.Zv|apply Kd.Zu|apply Kd.Zz));exact HO_9.out) hb);have n1_:=Zf.mk (Kd.R_lower ho0 (Zo (by repeat (first|(with_reducible first|exact HB.out|apply Ze|apply Zc|apply Zd|refine Zg ?_ GE116.out)|exact HB.out))));have n2_:=Zf.mk (Zw (g:=gb116) (o:=.cells #[.int .i64 a0_0,.int .i64 a0_1,.int .i64 a0_2,.int .i64 a0_3,.int .i64 a0_4,.int .i64 a0_5,.int .i64 a0_6,.int .u8 a0_7] 59 (0,0)) (by (with_reducible repeat (first|refine Zk ?_ _|refine Zn ?_|refine Zl ?_ _));exact BK116.out) hb);have n3_:=Zf.mk (Zm (by repeat (first|(with_reducible first|exact HB.out|apply Ze|apply Zc|apply Zd|refine Zg ?_ GE116.out)|exact HB.out)) hb);clear HO_9;clear BK116;clear HB;have HO_9:=n0_;have HO143:=n1_;have BK116:=n2_;have HB:=n3_;clear n0_ n1_ n2_ n3_;(try clear hb);(try clear hb2);(try clear hk);(try clear hi);(try clear ho0)))
                repeat (go_quiet (first|(go_at_call 35;(with_reducible refine (Z7.calls a0_0 a0_1 a0_2 a0_3 a0_4 a0_5 a0_6 a0_7 (strOfNums x9_4) t141 t144 t145 _ A55.out (by first|exact T_|exact (Utf8Tabs_below T_ (by repeat (first|(with_reducible first|exact HB.out|apply Ze|apply Zc|apply Zd|refine Zg ?_ GE116.out)|exact HB.out))))).mono ?_);rintro e w59 ⟨v142,rfl,ho0,hb⟩;have n0_:=Zf.mk (Kd.Z9 (by (with_reducible repeat (first|apply Kd.Zv|apply Kd.Zu|apply Kd.Zz));exact HO_9.out) hb);have n1_:=Zf.mk (Kd.R_lower ho0 (Zo (by repeat (first|(with_reducible first|exact HB.out|apply Ze|apply Zc|apply Zd|refine Zg ?_ GE116.out)|exact HB.out))));have n2_:=Zf.mk (Zw (g:=gb116) (o:=.cells #[.int .i64 a0_0,.int .i64 a0_1,.int .i64 a0_2,.int .i64 a0_3,.int .i64 a0_4,.int .i64 a0_5,.int .i64 a0_6,.int .u8 a0_7] 59 (0,0)) (by (with_reducible repeat (first|refine Zk ?_ _|refine Zn ?_|refine Zl ?_ _));exact BK116.out) hb);have n3_:=Zf.mk (Zm (by repeat (first|(with_reducible first|exact HB.out|apply Ze|apply Zc|apply Zd|refine Zg ?_ GE116.out)|exact HB.out)) hb);clear HO_9;clear BK116;clear HB;have HO_9:=n0_;have HO143:=n1_;have BK116:=n2_;have HB:=n3_;clear n0_ n1_ n2_ n3_;(try clear hb);(try clear hb2);(try clear hk);(try clear hi);(try clear ho0)));try go_wp2_with (first|(go_at_call 35;(with_reducible refine (Z7.calls a0_0 a0_1 a0_2 a0_3 a0_4 a0_5 a0_6 a0_7 (strOfNums x9_4) t141 t144 t145 _ A55.out (by first|exact T_|exact (Utf8Tabs_below T_ (by repeat (first|(with_reducible first|exact HB.out|apply Ze|apply Zc|apply Zd|refine Zg ?_ GE116.out)|exact HB.out))))).mono ?_);rintro e w59 ⟨v142,rfl,ho0,hb⟩;have n0_:=Zf.mk (Kd.Z9 (by (with_reducible repeat (first|apply Kd.Zv|apply Kd.Zu|apply Kd.Zz));exact HO_9.out) hb);have n1_:=Zf.mk (Kd.R_lower ho0 (Zo (by repeat (first|(with_reducible first|exact HB.out|apply Ze|apply Zc|apply Zd|refine Zg ?_ GE116.out)|exact HB.out))));have n2_:=Zf.mk (Zw (g:=gb116) (o:=.cells #[.int .i64 a0_0,.int .i64 a0_1,.int .i64 a0_2,.int .i64 a0_3,.int .i64 a0_4,.int .i64 a0_5,.int .i64 a0_6,.int .u8 a0_7] 59 (0,0)) (by (with_reducible repeat (first|refine Zk ?_ _|refine Zn ?_|refine Zl ?_ _));exact BK116.out) hb);have n3_:=Zf.mk (Zm (by repeat (first|(with_reducible first|exact HB.out|apply Ze|apply Zc|apply Zd|refine Zg ?_ GE116.out)|exact HB.out)) hb);clear HO_9;clear BK116;clear HB;have HO_9:=n0_;have HO143:=n1_;have BK116:=n2_;have HB:=n3_;clear n0_ n1_ n2_ n3_;(try clear hb);(try clear hb2);(try clear hk);(try clear hi);(try clear ho0))))
                go_ret3
                exact ⟨by first|rfl|(simp [Zp,Zq] <;> rfl)|(simp [*,Zp,Zq] <;> rfl),by repeat (first|(with_reducible first|exact HB.out|apply Ze|apply Zc|apply Zd|refine Zg ?_ GE116.out)|exact HB.out)⟩
               ·rw [if_neg c56] at H
                have c56b0 : (t145 == 0)=false:=beq_eq_false_iff_ne.mpr c56
                have c56b1 : (t145 != 0)=true:=bne_iff_ne.mpr c56
                simp only [Option.some.injEq,Prod.mk.injEq] at H
                obtain ⟨rfl,rfl,rfl⟩:=H
                have hcv60:=own_string (P:=Tryd.prog) Tryd.underlying35 Tryd.underlying5 Tryd.underlying9 (Kd.own_of_R HO_9.out)
                have hcz61_0 : wr.cell? ⟨gb116,0,none⟩=some (.int .i64 a0_0):=(Zb BK116.out 0).trans rfl
                have hcz61_1 : wr.cell? ⟨gb116,1,none⟩=some (.int .i64 a0_1):=(Zb BK116.out 1).trans rfl
                have hcz61_2 : wr.cell? ⟨gb116,2,none⟩=some (.int .i64 a0_2):=(Zb BK116.out 2).trans rfl
                have hcz61_3 : wr.cell? ⟨gb116,3,none⟩=some (.int .i64 a0_3):=(Zb BK116.out 3).trans rfl
                have hcz61_4 : wr.cell? ⟨gb116,4,none⟩=some (.int .i64 a0_4):=(Zb BK116.out 4).trans rfl
                have hcz61_5 : wr.cell? ⟨gb116,5,none⟩=some (.int .i64 a0_5):=(Zb BK116.out 5).trans rfl
                have hcz61_6 : wr.cell? ⟨gb116,6,none⟩=some (.int .i64 a0_6):=(Zb BK116.out 6).trans rfl
                have hcz61_7 : wr.cell? ⟨gb116,7,none⟩=some (.int .u8 a0_7):=(Zb BK116.out 7).trans rfl
                have hfz61_0:=Za BK116.out 0
                have hfz61_1:=Za BK116.out 1
                have hfz61_2:=Za BK116.out 2
                have hfz61_3:=Za BK116.out 3
                have hfz61_4:=Za BK116.out 4
                have hfz61_5:=Za BK116.out 5
                have hfz61_6:=Za BK116.out 6
                have hfz61_7:=Za BK116.out 7
                go_wp2_with (first|(go_at_call 35;(with_reducible refine (Z7.calls a0_0 a0_1 a0_2 a0_3 a0_4 a0_5 a0_6 a0_7 (strOfNums x9_4) t141 t144 t145 _ A55.out (by first|exact T_|exact (Utf8Tabs_below T_ (by repeat (first|(with_reducible first|exact HB.out|apply Ze|apply Zc|apply Zd|refine Zg ?_ GE116.out)|exact HB.out))))).mono ?_);rintro e w62 ⟨v142,rfl,ho0,hb⟩;have n0_:=Zf.mk (Kd.Z9 (by (with_reducible repeat (first|apply Kd.Zv|apply Kd.Zu|apply Kd.Zz));exact HO_9.out) hb);have n1_:=Zf.mk (Kd.R_lower ho0 (Zo (by repeat (first|(with_reducible first|exact HB.out|apply Ze|apply Zc|apply Zd|refine Zg ?_ GE116.out)|exact HB.out))));have n2_:=Zf.mk (Zw (g:=gb116) (o:=.cells #[.int .i64 a0_0,.int .i64 a0_1,.int .i64 a0_2,.int .i64 a0_3,.int .i64 a0_4,.int .i64 a0_5,.int .i64 a0_6,.int .u8 a0_7] 59 (0,0)) (by (with_reducible repeat (first|refine Zk ?_ _|refine Zn ?_|refine Zl ?_ _));exact BK116.out) hb);have n3_:=Zf.mk (Zm (by repeat (first|(with_reducible first|exact HB.out|apply Ze|apply Zc|apply Zd|refine Zg ?_ GE116.out)|exact HB.out)) hb);clear HO_9;clear BK116;clear HB;have HO_9:=n0_;have HO143:=n1_;have BK116:=n2_;have HB:=n3_;clear n0_ n1_ n2_ n3_;(try clear hb);(try clear hb2);(try clear hk);(try clear hi);(try clear ho0)))
                repeat (go_quiet (first|(go_at_call 35;(with_reducible refine (Z7.calls a0_0 a0_1 a0_2 a0_3 a0_4 a0_5 a0_6 a0_7 (strOfNums x9_4) t141 t144 t145 _ A55.out (by first|exact T_|exact (Utf8Tabs_below T_ (by repeat (first|(with_reducible first|exact HB.out|apply Ze|apply Zc|apply Zd|refine Zg ?_ GE116.out)|exact HB.out))))).mono ?_);rintro e w62 ⟨v142,rfl,ho0,hb⟩;have n0_:=Zf.mk (Kd.Z9 (by (with_reducible repeat (first|apply Kd.Zv|apply Kd.Zu|apply Kd.Zz));exact HO_9.out) hb);have n1_:=Zf.mk (Kd.R_lower ho0 (Zo (by repeat (first|(with_reducible first|exact HB.out|apply Ze|apply Zc|apply Zd|refine Zg ?_ GE116.out)|exact HB.out))));have n2_:=Zf.mk (Zw (g:=gb116) (o:=.cells #[.int .i64 a0_0,.int .i64 a0_1,.int .i64 a0_2,.int .i64 a0_3,.int .i64 a0_4,.int .i64 a0_5,.int .i64 a0_6,.int .u8 a0_7] 59 (0,0)) (by (with_reducible repeat (first|refine Zk ?_ _|refine Zn ?_|refine Zl ?_ _));exact BK116.out) hb);have n3_:=Zf.mk (Zm (by repeat (first|(with_reducible first|exact HB.out|apply Ze|apply Zc|apply Zd|refine Zg ?_ GE116.out)|exact HB.out)) hb);clear HO_9;clear BK116;clear HB;have HO_9:=n0_;have HO143:=n1_;have BK116:=n2_;have HB:=n3_;clear n0_ n1_ n2_ n3_;(try clear hb);(try clear hb2);(try clear hk);(try clear hi);(try clear ho0)));try go_wp2_with (first|(go_at_call 35;(with_reducible refine (Z7.calls a0_0 a0_1 a0_2 a0_3 a0_4 a0_5 a0_6 a0_7 (strOfNums x9_4) t141 t144 t145 _ A55.out (by first|exact T_|exact (Utf8Tabs_below T_ (by repeat (first|(with_reducible first|exact HB.out|apply Ze|apply Zc|apply Zd|refine Zg ?_ GE116.out)|exact HB.out))))).mono ?_);rintro e w62 ⟨v142,rfl,ho0,hb⟩;have n0_:=Zf.mk (Kd.Z9 (by (with_reducible repeat (first|apply Kd.Zv|apply Kd.Zu|apply Kd.Zz));exact HO_9.out) hb);have n1_:=Zf.mk (Kd.R_lower ho0 (Zo (by repeat (first|(with_reducible first|exact HB.out|apply Ze|apply Zc|apply Zd|refine Zg ?_ GE116.out)|exact HB.out))));have n2_:=Zf.mk (Zw (g:=gb116) (o:=.cells #[.int .i64 a0_0,.int .i64 a0_1,.int .i64 a0_2,.int .i64 a0_3,.int .i64 a0_4,.int .i64 a0_5,.int .i64 a0_6,.int .u8 a0_7] 59 (0,0)) (by (with_reducible repeat (first|refine Zk ?_ _|refine Zn ?_|refine Zl ?_ _));exact BK116.out) hb);have n3_:=Zf.mk (Zm (by repeat (first|(with_reducible first|exact HB.out|apply Ze|apply Zc|apply Zd|refine Zg ?_ GE116.out)|exact HB.out)) hb);clear HO_9;clear BK116;clear HB;have HO_9:=n0_;have HO143:=n1_;have BK116:=n2_;have HB:=n3_;clear n0_ n1_ n2_ n3_;(try clear hb);(try clear hb2);(try clear hk);(try clear hi);(try clear ho0))))
                go_ret3
                exact ⟨by first|rfl|(simp [Zp,Zq] <;> rfl)|(simp [*,Zp,Zq] <;> rfl),by repeat (first|(with_reducible first|exact HB.out|apply Ze|apply Zc|apply Zd|refine Zg ?_ GE116.out)|exact HB.out)⟩
              ·rw [if_neg c54] at H
               have c54b0 : (x16_4 == (l1.length : Int))=false:=beq_eq_false_iff_ne.mpr c54
               have c54b1 : (x16_4 != (l1.length : Int))=true:=bne_iff_ne.mpr c54
               by_cases c63 : (wrap64 (x14_4 + 1)) > 2147483647
               ·rw [if_pos c63] at H
                have c63b0 : decide (2147483647 < (wrap64 (x14_4 + 1)))=true:=decide_eq_true c63
                clear c63
                simp only [Option.some.injEq,Prod.mk.injEq] at H
                obtain ⟨rfl,rfl,rfl⟩:=H
                go_wp2
                repeat (go_quiet (fail);try go_wp2)
                go_ret3
                exact ⟨by first|rfl|(simp [Zp,Zq] <;> rfl)|(simp [*,Zp,Zq] <;> rfl),by repeat (first|(with_reducible first|exact HB.out|apply Ze|apply Zc|apply Zd|refine Zg ?_ GE116.out)|exact HB.out)⟩
               ·rw [if_neg c63] at H
                have c63b0 : decide (2147483647 < (wrap64 (x14_4 + 1)))=false:=decide_eq_false c63
                clear c63
                have H':=Zf.mk H
                clear H
                go_wp2
                repeat (go_quiet (fail);try go_wp2)
                go_roundg k4
                case measure => have:=HK1.out;have:=HJ18.out;have:=HK3.out;have:=HK4.out;omega
                case rel => exact ⟨(x9_4),(wrap64 (t132 + 1)),(wrap64 (x14_4 + 1)),(x15_4),(x16_4),(by first|rfl|(simp;done)|(simp [*];done)),(by first|rfl|(simp;done)|(simp [*];done)),(by first|rfl|(simp;done)|(simp [*];done)),(by first|rfl|(simp;done)|(simp [*];done)),H',⟨by have:=HK1.out;have:=HJ18.out;have:=HK3.out;have:=HK4.out;omega⟩,⟨by (with_reducible repeat (first|apply Kd.Zv|apply Kd.Zu|apply Kd.Zz));exact HO_9.out⟩,⟨by (with_reducible repeat (first|refine Zk ?_ _|refine Zn ?_|refine Zl ?_ _));exact BK116.out⟩,⟨by repeat (first|(with_reducible first|exact HB.out|apply Ze|apply Zc|apply Zd|refine Zg ?_ GE116.out)|exact HB.out)⟩⟩
         ·rw [if_neg c26] at H
          have c26b0 : decide (x16_3 < (l1.length : Int))=false:=decide_eq_false c26
          clear c26
          replace H:=Option.bind_eq_some_iff.mp H
          obtain ⟨⟨t127,t130,t131⟩,A640,H⟩:=H
          replace H : (if t131=0 then (some (strOfNums x9_3,0,0)) else (some ((⟨#[]⟩ : ByteArray),0,142)))=some (r1,r2,r3):=H
          have A64:=Zf.mk A640
          clear A640
          by_cases c65 : t131=0
          ·rw [if_pos c65] at H
           have c65b0 : (t131 == 0)=true:=beq_iff_eq.mpr c65
           have c65b1 : (t131 != 0)=false:=bne_eq_false_iff_eq.mpr c65
           clear c65
           simp only [Option.some.injEq,Prod.mk.injEq] at H
           obtain ⟨rfl,rfl,rfl⟩:=H
           have hcv66:=own_string (P:=Tryd.prog) Tryd.underlying35 Tryd.underlying5 Tryd.underlying9 (Kd.own_of_R HO_9.out)
           have hcz67_0 : wr.cell? ⟨gb116,0,none⟩=some (.int .i64 a0_0):=(Zb BK116.out 0).trans rfl
           have hcz67_1 : wr.cell? ⟨gb116,1,none⟩=some (.int .i64 a0_1):=(Zb BK116.out 1).trans rfl
           have hcz67_2 : wr.cell? ⟨gb116,2,none⟩=some (.int .i64 a0_2):=(Zb BK116.out 2).trans rfl
           have hcz67_3 : wr.cell? ⟨gb116,3,none⟩=some (.int .i64 a0_3):=(Zb BK116.out 3).trans rfl
           have hcz67_4 : wr.cell? ⟨gb116,4,none⟩=some (.int .i64 a0_4):=(Zb BK116.out 4).trans rfl
           have hcz67_5 : wr.cell? ⟨gb116,5,none⟩=some (.int .i64 a0_5):=(Zb BK116.out 5).trans rfl
           have hcz67_6 : wr.cell? ⟨gb116,6,none⟩=some (.int .i64 a0_6):=(Zb BK116.out 6).trans rfl
           have hcz67_7 : wr.cell? ⟨gb116,7,none⟩=some (.int .u8 a0_7):=(Zb BK116.out 7).trans rfl
           have hfz67_0:=Za BK116.out 0
           have hfz67_1:=Za BK116.out 1
           have hfz67_2:=Za BK116.out 2
           have hfz67_3:=Za BK116.out 3
           have hfz67_4:=Za BK116.out 4
           have hfz67_5:=Za BK116.out 5
           have hfz67_6:=Za BK116.out 6
           have hfz67_7:=Za BK116.out 7
           go_wp2_with (first|(go_at_call 35;(with_reducible refine (Z7.calls a0_0 a0_1 a0_2 a0_3 a0_4 a0_5 a0_6 a0_7 (strOfNums x9_3) t127 t130 t131 _ A64.out (by first|exact T_|exact (Utf8Tabs_below T_ (by repeat (first|(with_reducible first|exact HB.out|apply Ze|apply Zc|apply Zd|refine Zg ?_ GE116.out)|exact HB.out))))).mono ?_);rintro e w68 ⟨v128,rfl,ho0,hb⟩;have n0_:=Zf.mk (Kd.Z9 (by (with_reducible repeat (first|apply Kd.Zv|apply Kd.Zu|apply Kd.Zz));exact HO_9.out) hb);have n1_:=Zf.mk (Kd.R_lower ho0 (Zo (by repeat (first|(with_reducible first|exact HB.out|apply Ze|apply Zc|apply Zd|refine Zg ?_ GE116.out)|exact HB.out))));have n2_:=Zf.mk (Zw (g:=gb116) (o:=.cells #[.int .i64 a0_0,.int .i64 a0_1,.int .i64 a0_2,.int .i64 a0_3,.int .i64 a0_4,.int .i64 a0_5,.int .i64 a0_6,.int .u8 a0_7] 59 (0,0)) (by (with_reducible repeat (first|refine Zk ?_ _|refine Zn ?_|refine Zl ?_ _));exact BK116.out) hb);have n3_:=Zf.mk (Zm (by repeat (first|(with_reducible first|exact HB.out|apply Ze|apply Zc|apply Zd|refine Zg ?_ GE116.out)|exact HB.out)) hb);clear HO_9;clear BK116;clear HB;have HO_9:=n0_;have HO129:=n1_;have BK116:=n2_;have HB:=n3_;clear n0_ n1_ n2_ n3_;(try clear hb);(try clear hb2);(try clear hk);(try clear hi);(try clear ho0)))
           repeat (go_quiet (first|(go_at_call 35;(with_reducible refine (Z7.calls a0_0 a0_1 a0_2 a0_3 a0_4 a0_5 a0_6 a0_7 (strOfNums x9_3) t127 t130 t131 _ A64.out (by first|exact T_|exact (Utf8Tabs_below T_ (by repeat (first|(with_reducible first|exact HB.out|apply Ze|apply Zc|apply Zd|refine Zg ?_ GE116.out)|exact HB.out))))).mono ?_);rintro e w68 ⟨v128,rfl,ho0,hb⟩;have n0_:=Zf.mk (Kd.Z9 (by (with_reducible repeat (first|apply Kd.Zv|apply Kd.Zu|apply Kd.Zz));exact HO_9.out) hb);have n1_:=Zf.mk (Kd.R_lower ho0 (Zo (by repeat (first|(with_reducible first|exact HB.out|apply Ze|apply Zc|apply Zd|refine Zg ?_ GE116.out)|exact HB.out))));have n2_:=Zf.mk (Zw (g:=gb116) (o:=.cells #[.int .i64 a0_0,.int .i64 a0_1,.int .i64 a0_2,.int .i64 a0_3,.int .i64 a0_4,.int .i64 a0_5,.int .i64 a0_6,.int .u8 a0_7] 59 (0,0)) (by (with_reducible repeat (first|refine Zk ?_ _|refine Zn ?_|refine Zl ?_ _));exact BK116.out) hb);have n3_:=Zf.mk (Zm (by repeat (first|(with_reducible first|exact HB.out|apply Ze|apply Zc|apply Zd|refine Zg ?_ GE116.out)|exact HB.out)) hb);clear HO_9;clear BK116;clear HB;have HO_9:=n0_;have HO129:=n1_;have BK116:=n2_;have HB:=n3_;clear n0_ n1_ n2_ n3_;(try clear hb);(try clear hb2);(try clear hk);(try clear hi);(try clear ho0)));try go_wp2_with (first|(go_at_call 35;(with_reducible refine (Z7.calls a0_0 a0_1 a0_2 a0_3 a0_4 a0_5 a0_6 a0_7 (strOfNums x9_3) t127 t130 t131 _ A64.out (by first|exact T_|exact (Utf8Tabs_below T_ (by repeat (first|(with_reducible first|exact HB.out|apply Ze|apply Zc|apply Zd|refine Zg ?_ GE116.out)|exact HB.out))))).mono ?_);rintro e w68 ⟨v128,rfl,ho0,hb⟩;have n0_:=Zf.mk (Kd.Z9 (by (with_reducible repeat (first|apply Kd.Zv|apply Kd.Zu|apply Kd.Zz));exact HO_9.out) hb);have n1_:=Zf.mk (Kd.R_lower ho0 (Zo (by repeat (first|(with_reducible first|exact HB.out|apply Ze|apply Zc|apply Zd|refine Zg ?_ GE116.out)|exact HB.out))));have n2_:=Zf.mk (Zw (g:=gb116) (o:=.cells #[.int .i64 a0_0,.int .i64 a0_1,.int .i64 a0_2,.int .i64 a0_3,.int .i64 a0_4,.int .i64 a0_5,.int .i64 a0_6,.int .u8 a0_7] 59 (0,0)) (by (with_reducible repeat (first|refine Zk ?_ _|refine Zn ?_|refine Zl ?_ _));exact BK116.out) hb);have n3_:=Zf.mk (Zm (by repeat (first|(with_reducible first|exact HB.out|apply Ze|apply Zc|apply Zd|refine Zg ?_ GE116.out)|exact HB.out)) hb);clear HO_9;clear BK116;clear HB;have HO_9:=n0_;have HO129:=n1_;have BK116:=n2_;have HB:=n3_;clear n0_ n1_ n2_ n3_;(try clear hb);(try clear hb2);(try clear hk);(try clear hi);(try clear ho0))))
           go_ret3
           exact ⟨by first|rfl|(simp [Zp,Zq] <;> rfl)|(simp [*,Zp,Zq] <;> rfl),by repeat (first|(with_reducible first|exact HB.out|apply Ze|apply Zc|apply Zd|refine Zg ?_ GE116.out)|exact HB.out)⟩
          ·rw [if_neg c65] at H
           have c65b0 : (t131 == 0)=false:=beq_eq_false_iff_ne.mpr c65
           have c65b1 : (t131 != 0)=true:=bne_iff_ne.mpr c65
           simp only [Option.some.injEq,Prod.mk.injEq] at H
           obtain ⟨rfl,rfl,rfl⟩:=H
           have hcv69:=own_string (P:=Tryd.prog) Tryd.underlying35 Tryd.underlying5 Tryd.underlying9 (Kd.own_of_R HO_9.out)
           have hcz70_0 : wr.cell? ⟨gb116,0,none⟩=some (.int .i64 a0_0):=(Zb BK116.out 0).trans rfl
           have hcz70_1 : wr.cell? ⟨gb116,1,none⟩=some (.int .i64 a0_1):=(Zb BK116.out 1).trans rfl
           have hcz70_2 : wr.cell? ⟨gb116,2,none⟩=some (.int .i64 a0_2):=(Zb BK116.out 2).trans rfl
           have hcz70_3 : wr.cell? ⟨gb116,3,none⟩=some (.int .i64 a0_3):=(Zb BK116.out 3).trans rfl
           have hcz70_4 : wr.cell? ⟨gb116,4,none⟩=some (.int .i64 a0_4):=(Zb BK116.out 4).trans rfl
           have hcz70_5 : wr.cell? ⟨gb116,5,none⟩=some (.int .i64 a0_5):=(Zb BK116.out 5).trans rfl
           have hcz70_6 : wr.cell? ⟨gb116,6,none⟩=some (.int .i64 a0_6):=(Zb BK116.out 6).trans rfl
           have hcz70_7 : wr.cell? ⟨gb116,7,none⟩=some (.int .u8 a0_7):=(Zb BK116.out 7).trans rfl
           have hfz70_0:=Za BK116.out 0
           have hfz70_1:=Za BK116.out 1
           have hfz70_2:=Za BK116.out 2
           have hfz70_3:=Za BK116.out 3
           have hfz70_4:=Za BK116.out 4
           have hfz70_5:=Za BK116.out 5
           have hfz70_6:=Za BK116.out 6
           have hfz70_7:=Za BK116.out 7
           go_wp2_with (first|(go_at_call 35;(with_reducible refine (Z7.calls a0_0 a0_1 a0_2 a0_3 a0_4 a0_5 a0_6 a0_7 (strOfNums x9_3) t127 t130 t131 _ A64.out (by first|exact T_|exact (Utf8Tabs_below T_ (by repeat (first|(with_reducible first|exact HB.out|apply Ze|apply Zc|apply Zd|refine Zg ?_ GE116.out)|exact HB.out))))).mono ?_);rintro e w71 ⟨v128,rfl,ho0,hb⟩;have n0_:=Zf.mk (Kd.Z9 (by (with_reducible repeat (first|apply Kd.Zv|apply Kd.Zu|apply Kd.Zz));exact HO_9.out) hb);have n1_:=Zf.mk (Kd.R_lower ho0 (Zo (by repeat (first|(with_reducible first|exact HB.out|apply Ze|apply Zc|apply Zd|refine Zg ?_ GE116.out)|exact HB.out))));have n2_:=Zf.mk (Zw (g:=gb116) (o:=.cells #[.int .i64 a0_0,.int .i64 a0_1,.int .i64 a0_2,.int .i64 a0_3,.int .i64 a0_4,.int .i64 a0_5,.int .i64 a0_6,.int .u8 a0_7] 59 (0,0)) (by (with_reducible repeat (first|refine Zk ?_ _|refine Zn ?_|refine Zl ?_ _));exact BK116.out) hb);have n3_:=Zf.mk (Zm (by repeat (first|(with_reducible first|exact HB.out|apply Ze|apply Zc|apply Zd|refine Zg ?_ GE116.out)|exact HB.out)) hb);clear HO_9;clear BK116;clear HB;have HO_9:=n0_;have HO129:=n1_;have BK116:=n2_;have HB:=n3_;clear n0_ n1_ n2_ n3_;(try clear hb);(try clear hb2);(try clear hk);(try clear hi);(try clear ho0)))
           repeat (go_quiet (first|(go_at_call 35;(with_reducible refine (Z7.calls a0_0 a0_1 a0_2 a0_3 a0_4 a0_5 a0_6 a0_7 (strOfNums x9_3) t127 t130 t131 _ A64.out (by first|exact T_|exact (Utf8Tabs_below T_ (by repeat (first|(with_reducible first|exact HB.out|apply Ze|apply Zc|apply Zd|refine Zg ?_ GE116.out)|exact HB.out))))).mono ?_);rintro e w71 ⟨v128,rfl,ho0,hb⟩;have n0_:=Zf.mk (Kd.Z9 (by (with_reducible repeat (first|apply Kd.Zv|apply Kd.Zu|apply Kd.Zz));exact HO_9.out) hb);have n1_:=Zf.mk (Kd.R_lower ho0 (Zo (by repeat (first|(with_reducible first|exact HB.out|apply Ze|apply Zc|apply Zd|refine Zg ?_ GE116.out)|exact HB.out))));have n2_:=Zf.mk (Zw (g:=gb116) (o:=.cells #[.int .i64 a0_0,.int .i64 a0_1,.int .i64 a0_2,.int .i64 a0_3,.int .i64 a0_4,.int .i64 a0_5,.int .i64 a0_6,.int .u8 a0_7] 59 (0,0)) (by (with_reducible repeat (first|refine Zk ?_ _|refine Zn ?_|refine Zl ?_ _));exact BK116.out) hb);have n3_:=Zf.mk (Zm (by repeat (first|(with_reducible first|exact HB.out|apply Ze|apply Zc|apply Zd|refine Zg ?_ GE116.out)|exact HB.out)) hb);clear HO_9;clear BK116;clear HB;have HO_9:=n0_;have HO129:=n1_;have BK116:=n2_;have HB:=n3_;clear n0_ n1_ n2_ n3_;(try clear hb);(try clear hb2);(try clear hk);(try clear hi);(try clear ho0)));try go_wp2_with (first|(go_at_call 35;(with_reducible refine (Z7.calls a0_0 a0_1 a0_2 a0_3 a0_4 a0_5 a0_6 a0_7 (strOfNums x9_3) t127 t130 t131 _ A64.out (by first|exact T_|exact (Utf8Tabs_below T_ (by repeat (first|(with_reducible first|exact HB.out|apply Ze|apply Zc|apply Zd|refine Zg ?_ GE116.out)|exact HB.out))))).mono ?_);rintro e w71 ⟨v128,rfl,ho0,hb⟩;have n0_:=Zf.mk (Kd.Z9 (by (with_reducible repeat (first|apply Kd.Zv|apply Kd.Zu|apply Kd.Zz));exact HO_9.out) hb);have n1_:=Zf.mk (Kd.R_lower ho0 (Zo (by repeat (first|(with_reducible first|exact HB.out|apply Ze|apply Zc|apply Zd|refine Zg ?_ GE116.out)|exact HB.out))));have n2_:=Zf.mk (Zw (g:=gb116) (o:=.cells #[.int .i64 a0_0,.int .i64 a0_1,.int .i64 a0_2,.int .i64 a0_3,.int .i64 a0_4,.int .i64 a0_5,.int .i64 a0_6,.int .u8 a0_7] 59 (0,0)) (by (with_reducible repeat (first|refine Zk ?_ _|refine Zn ?_|refine Zl ?_ _));exact BK116.out) hb);have n3_:=Zf.mk (Zm (by repeat (first|(with_reducible first|exact HB.out|apply Ze|apply Zc|apply Zd|refine Zg ?_ GE116.out)|exact HB.out)) hb);clear HO_9;clear BK116;clear HB;have HO_9:=n0_;have HO129:=n1_;have BK116:=n2_;have HB:=n3_;clear n0_ n1_ n2_ n3_;(try clear hb);(try clear hb2);(try clear hk);(try clear hi);(try clear ho0))))
           go_ret3
           exact ⟨by first|rfl|(simp [Zp,Zq] <;> rfl)|(simp [*,Zp,Zq] <;> rfl),by repeat (first|(with_reducible first|exact HB.out|apply Ze|apply Zc|apply Zd|refine Zg ?_ GE116.out)|exact HB.out)⟩
 ·rw [if_neg c4] at H
  have c4b0 : (t118 == 0)=false:=beq_eq_false_iff_ne.mpr c4
  have c4b1 : (t118 != 0)=true:=bne_iff_ne.mpr c4
  simp only [Option.some.injEq,Prod.mk.injEq] at H
  obtain ⟨rfl,rfl,rfl⟩:=H
  go_enter Tryd.func32,Tryd.ntmps32
  go_wp2_with (first|((with_reducible refine Yh (N:=2) rfl ?_);refine Ym ?hg (N:=2) ?hd (cs:=#[.int .i64 a0_0,.int .i64 a0_1,.int .i64 a0_2,.int .i64 a0_3,.int .i64 a0_4,.int .i64 a0_5,.int .i64 a0_6,.int .u8 a0_7]) (t:=59) ?hr ?_;(case hd => rfl);(case hg => rfl);(case hr => first|(go_simp;done)|(go_simp;rfl));intro gb116 hg w72 hbox hb;have n0_:=Zf.mk (Zm (by repeat (first|(with_reducible first|exact HB.out|apply Ze|apply Zc|apply Zd)|exact HB.out)) hb);have n1_:=Zf.mk (hbox);have n2_:=Zf.mk ((by rw [hg];exact (Zo (by repeat (first|(with_reducible first|exact HB.out|apply Ze|apply Zc|apply Zd)|exact HB.out))) : w.heap.size≤gb116));have n3_:=Zf.mk ((by rw [hg];exact (Zo (by repeat (first|(with_reducible first|exact HB.out|apply Ze|apply Zc|apply Zd)|exact HB.out))) : w.heap.size≤gb116));clear HB;have HB:=n0_;have BK116:=n1_;have GW116:=n2_;have GE116:=n3_;clear n0_ n1_ n2_ n3_;clear hb hbox hg;have hcz73_0 : w72.cell? ⟨gb116,0,none⟩=some (.int .i64 a0_0):=(Zb BK116.out 0).trans rfl;have hcz73_1 : w72.cell? ⟨gb116,1,none⟩=some (.int .i64 a0_1):=(Zb BK116.out 1).trans rfl;have hcz73_2 : w72.cell? ⟨gb116,2,none⟩=some (.int .i64 a0_2):=(Zb BK116.out 2).trans rfl;have hcz73_3 : w72.cell? ⟨gb116,3,none⟩=some (.int .i64 a0_3):=(Zb BK116.out 3).trans rfl;have hcz73_4 : w72.cell? ⟨gb116,4,none⟩=some (.int .i64 a0_4):=(Zb BK116.out 4).trans rfl;have hcz73_5 : w72.cell? ⟨gb116,5,none⟩=some (.int .i64 a0_5):=(Zb BK116.out 5).trans rfl;have hcz73_6 : w72.cell? ⟨gb116,6,none⟩=some (.int .i64 a0_6):=(Zb BK116.out 6).trans rfl;have hcz73_7 : w72.cell? ⟨gb116,7,none⟩=some (.int .u8 a0_7):=(Zb BK116.out 7).trans rfl;have hfz73_0:=Za BK116.out 0;have hfz73_1:=Za BK116.out 1;have hfz73_2:=Za BK116.out 2;have hfz73_3:=Za BK116.out 3;have hfz73_4:=Za BK116.out 4;have hfz73_5:=Za BK116.out 5;have hfz73_6:=Za BK116.out 6;have hfz73_7:=Za BK116.out 7)|(go_at_call 44;(with_reducible refine (puny_boot_check.calls a0_0 a0_1 a0_2 a0_3 a0_4 a0_5 a0_6 a0_7 _ _ l1 t117 t118 _ ?side1 ?side2 A3.out).mono ?_);(case side1 => repeat (first|exact (Kd.C_below HR1.out HB.out)|(with_reducible refine Kd.C_alloc ?_ _)|(with_reducible refine Kd.C_drewN ?_ _)|(with_reducible refine Kd.C_drew ?_)));(case side2 => exact HC1.out);rintro e w74 ⟨rfl,hb⟩;have n0_:=Zf.mk (Zw (g:=gb116) (o:=.cells #[.int .i64 a0_0,.int .i64 a0_1,.int .i64 a0_2,.int .i64 a0_3,.int .i64 a0_4,.int .i64 a0_5,.int .i64 a0_6,.int .u8 a0_7] 59 (0,0)) (by (with_reducible repeat (first|refine Zk ?_ _|refine Zn ?_|refine Zl ?_ _));exact BK116.out) hb);have n1_:=Zf.mk (Zm (by repeat (first|(with_reducible first|exact HB.out|apply Ze|apply Zc|apply Zd|refine Zg ?_ GE116.out)|exact HB.out)) hb);clear BK116;clear HB;have BK116:=n0_;have HB:=n1_;clear n0_ n1_;(try clear hb);(try clear hb2);(try clear hk);(try clear hi)))
  repeat (go_quiet (first|((with_reducible refine Yh (N:=2) rfl ?_);refine Ym ?hg (N:=2) ?hd (cs:=#[.int .i64 a0_0,.int .i64 a0_1,.int .i64 a0_2,.int .i64 a0_3,.int .i64 a0_4,.int .i64 a0_5,.int .i64 a0_6,.int .u8 a0_7]) (t:=59) ?hr ?_;(case hd => rfl);(case hg => rfl);(case hr => first|(go_simp;done)|(go_simp;rfl));intro gb116 hg w72 hbox hb;have n0_:=Zf.mk (Zm (by repeat (first|(with_reducible first|exact HB.out|apply Ze|apply Zc|apply Zd)|exact HB.out)) hb);have n1_:=Zf.mk (hbox);have n2_:=Zf.mk ((by rw [hg];exact (Zo (by repeat (first|(with_reducible first|exact HB.out|apply Ze|apply Zc|apply Zd)|exact HB.out))) : w.heap.size≤gb116));have n3_:=Zf.mk ((by rw [hg];exact (Zo (by repeat (first|(with_reducible first|exact HB.out|apply Ze|apply Zc|apply Zd)|exact HB.out))) : w.heap.size≤gb116));clear HB;have HB:=n0_;have BK116:=n1_;have GW116:=n2_;have GE116:=n3_;clear n0_ n1_ n2_ n3_;clear hb hbox hg;have hcz73_0 : w72.cell? ⟨gb116,0,none⟩=some (.int .i64 a0_0):=(Zb BK116.out 0).trans rfl;have hcz73_1 : w72.cell? ⟨gb116,1,none⟩=some (.int .i64 a0_1):=(Zb BK116.out 1).trans rfl;have hcz73_2 : w72.cell? ⟨gb116,2,none⟩=some (.int .i64 a0_2):=(Zb BK116.out 2).trans rfl;have hcz73_3 : w72.cell? ⟨gb116,3,none⟩=some (.int .i64 a0_3):=(Zb BK116.out 3).trans rfl;have hcz73_4 : w72.cell? ⟨gb116,4,none⟩=some (.int .i64 a0_4):=(Zb BK116.out 4).trans rfl;have hcz73_5 : w72.cell? ⟨gb116,5,none⟩=some (.int .i64 a0_5):=(Zb BK116.out 5).trans rfl;have hcz73_6 : w72.cell? ⟨gb116,6,none⟩=some (.int .i64 a0_6):=(Zb BK116.out 6).trans rfl;have hcz73_7 : w72.cell? ⟨gb116,7,none⟩=some (.int .u8 a0_7):=(Zb BK116.out 7).trans rfl;have hfz73_0:=Za BK116.out 0;have hfz73_1:=Za BK116.out 1;have hfz73_2:=Za BK116.out 2;have hfz73_3:=Za BK116.out 3;have hfz73_4:=Za BK116.out 4;have hfz73_5:=Za BK116.out 5;have hfz73_6:=Za BK116.out 6;have hfz73_7:=Za BK116.out 7)|(go_at_call 44;(with_reducible refine (puny_boot_check.calls a0_0 a0_1 a0_2 a0_3 a0_4 a0_5 a0_6 a0_7 _ _ l1 t117 t118 _ ?side1 ?side2 A3.out).mono ?_);(case side1 => repeat (first|exact (Kd.C_below HR1.out HB.out)|(with_reducible refine Kd.C_alloc ?_ _)|(with_reducible refine Kd.C_drewN ?_ _)|(with_reducible refine Kd.C_drew ?_)));(case side2 => exact HC1.out);rintro e w74 ⟨rfl,hb⟩;have n0_:=Zf.mk (Zw (g:=gb116) (o:=.cells #[.int .i64 a0_0,.int .i64 a0_1,.int .i64 a0_2,.int .i64 a0_3,.int .i64 a0_4,.int .i64 a0_5,.int .i64 a0_6,.int .u8 a0_7] 59 (0,0)) (by (with_reducible repeat (first|refine Zk ?_ _|refine Zn ?_|refine Zl ?_ _));exact BK116.out) hb);have n1_:=Zf.mk (Zm (by repeat (first|(with_reducible first|exact HB.out|apply Ze|apply Zc|apply Zd|refine Zg ?_ GE116.out)|exact HB.out)) hb);clear BK116;clear HB;have BK116:=n0_;have HB:=n1_;clear n0_ n1_;(try clear hb);(try clear hb2);(try clear hk);(try clear hi)));try go_wp2_with (first|((with_reducible refine Yh (N:=2) rfl ?_);refine Ym ?hg (N:=2) ?hd (cs:=#[.int .i64 a0_0,.int .i64 a0_1,.int .i64 a0_2,.int .i64 a0_3,.int .i64 a0_4,.int .i64 a0_5,.int .i64 a0_6,.int .u8 a0_7]) (t:=59) ?hr ?_;(case hd => rfl);(case hg => rfl);(case hr => first|(go_simp;done)|(go_simp;rfl));intro gb116 hg w72 hbox hb;have n0_:=Zf.mk (Zm (by repeat (first|(with_reducible first|exact HB.out|apply Ze|apply Zc|apply Zd)|exact HB.out)) hb);have n1_:=Zf.mk (hbox);have n2_:=Zf.mk ((by rw [hg];exact (Zo (by repeat (first|(with_reducible first|exact HB.out|apply Ze|apply Zc|apply Zd)|exact HB.out))) : w.heap.size≤gb116));have n3_:=Zf.mk ((by rw [hg];exact (Zo (by repeat (first|(with_reducible first|exact HB.out|apply Ze|apply Zc|apply Zd)|exact HB.out))) : w.heap.size≤gb116));clear HB;have HB:=n0_;have BK116:=n1_;have GW116:=n2_;have GE116:=n3_;clear n0_ n1_ n2_ n3_;clear hb hbox hg;have hcz73_0 : w72.cell? ⟨gb116,0,none⟩=some (.int .i64 a0_0):=(Zb BK116.out 0).trans rfl;have hcz73_1 : w72.cell? ⟨gb116,1,none⟩=some (.int .i64 a0_1):=(Zb BK116.out 1).trans rfl;have hcz73_2 : w72.cell? ⟨gb116,2,none⟩=some (.int .i64 a0_2):=(Zb BK116.out 2).trans rfl;have hcz73_3 : w72.cell? ⟨gb116,3,none⟩=some (.int .i64 a0_3):=(Zb BK116.out 3).trans rfl;have hcz73_4 : w72.cell? ⟨gb116,4,none⟩=some (.int .i64 a0_4):=(Zb BK116.out 4).trans rfl;have hcz73_5 : w72.cell? ⟨gb116,5,none⟩=some (.int .i64 a0_5):=(Zb BK116.out 5).trans rfl;have hcz73_6 : w72.cell? ⟨gb116,6,none⟩=some (.int .i64 a0_6):=(Zb BK116.out 6).trans rfl;have hcz73_7 : w72.cell? ⟨gb116,7,none⟩=some (.int .u8 a0_7):=(Zb BK116.out 7).trans rfl;have hfz73_0:=Za BK116.out 0;have hfz73_1:=Za BK116.out 1;have hfz73_2:=Za BK116.out 2;have hfz73_3:=Za BK116.out 3;have hfz73_4:=Za BK116.out 4;have hfz73_5:=Za BK116.out 5;have hfz73_6:=Za BK116.out 6;have hfz73_7:=Za BK116.out 7)|(go_at_call 44;(with_reducible refine (puny_boot_check.calls a0_0 a0_1 a0_2 a0_3 a0_4 a0_5 a0_6 a0_7 _ _ l1 t117 t118 _ ?side1 ?side2 A3.out).mono ?_);(case side1 => repeat (first|exact (Kd.C_below HR1.out HB.out)|(with_reducible refine Kd.C_alloc ?_ _)|(with_reducible refine Kd.C_drewN ?_ _)|(with_reducible refine Kd.C_drew ?_)));(case side2 => exact HC1.out);rintro e w74 ⟨rfl,hb⟩;have n0_:=Zf.mk (Zw (g:=gb116) (o:=.cells #[.int .i64 a0_0,.int .i64 a0_1,.int .i64 a0_2,.int .i64 a0_3,.int .i64 a0_4,.int .i64 a0_5,.int .i64 a0_6,.int .u8 a0_7] 59 (0,0)) (by (with_reducible repeat (first|refine Zk ?_ _|refine Zn ?_|refine Zl ?_ _));exact BK116.out) hb);have n1_:=Zf.mk (Zm (by repeat (first|(with_reducible first|exact HB.out|apply Ze|apply Zc|apply Zd|refine Zg ?_ GE116.out)|exact HB.out)) hb);clear BK116;clear HB;have BK116:=n0_;have HB:=n1_;clear n0_ n1_;(try clear hb);(try clear hb2);(try clear hk);(try clear hi))))
  go_ret3
  exact ⟨by first|rfl|(simp [Zp,Zq] <;> rfl)|(simp [*,Zp,Zq] <;> rfl),by repeat (first|(with_reducible first|exact HB.out|apply Ze|apply Zc|apply Zd|refine Zg ?_ GE116.out)|exact HB.out)⟩
end Go.Proofs.YtmjlkifmbhaiiaaDoorQ.Pw
end
