/- What these functions of the program compute, and that they compute it: printed by wip/tools/orac.py over the kit's print.py; merged. -/
import Derived.Test.YtmjlkifmbhaiiaaDoorQPwx0
import Derived.Test.YtmjlkifmbhaiiaaDoorQPwx2
import Derived.Test.YtmjlkifmbhaiiaaDoorQPwx4
section
namespace Go.Proofs.YtmjlkifmbhaiiaaDoorQ.Pw
open Go.RowKit Go.Proofs.YtmjlkifmbhaiiaaDoorW.PrintWords Go.Proofs.YtmjlkifmbhaiiaaDoorW.PrintLast Go.Proofs.YtmjlkifmbhaiiaaDoorW.PrintMore
attribute [local go_sem] Go.Proofs.YtmjlkifmbhaiiaaDoor.Ye
attribute [local go_sem] max2_int min2_int max_two min_two max_three min_three max_four min_four   -- for this text's walks alone
set_option linter.unusedVariables false
set_option linter.unusedSimpArgs false
/-! ### Z8: function 26 -/
def Z8.f (a0_0 : Int) (a0_1 : Int) (a0_2 : Int) (a0_3 : Int) (a0_4 : Int) (a0_5 : Int) (a0_6 : Int) (a0_7 : Int) : Option (Int × Int × Int × Int × Int × Int × Int × Int):=some (a0_0,a0_1,a0_2,a0_3,a0_4,a0_5,a0_6,a0_7)
set_option maxHeartbeats 8000000 in
set_option maxRecDepth 100000 in
theorem Z8.calls (a0_0 : Int) (a0_1 : Int) (a0_2 : Int) (a0_3 : Int) (a0_4 : Int) (a0_5 : Int) (a0_6 : Int) (a0_7 : Int) (r1 : Int) (r2 : Int) (r3 : Int) (r4 : Int) (r5 : Int) (r6 : Int) (r7 : Int) (r8 : Int) (w : World) (h : Z8.f a0_0 a0_1 a0_2 a0_3 a0_4 a0_5 a0_6 a0_7=some (r1,r2,r3,r4,r5,r6,r7,r8)) :
  Calls Tryd.prog 26 #[.agg #[.int .i64 a0_0,.int .i64 a0_1,.int .i64 a0_2,.int .i64 a0_3,.int .i64 a0_4,.int .i64 a0_5,.int .i64 a0_6,.int .u8 a0_7]] w fun e w' => e=.returned (.agg #[.int .i64 r1,.int .i64 r2,.int .i64 r3,.int .i64 r4,.int .i64 r5,.int .i64 r6,.int .i64 r7,.int .u8 r8])∧Below w.heap.size w w':=by
 have hu48:=Tryd.underlying48
 have hu51:=Tryd.underlying51
 have HB:=Zf.mk (Below.refl w.heap.size w)
 have H : (some (a0_0,a0_1,a0_2,a0_3,a0_4,a0_5,a0_6,a0_7))=some (r1,r2,r3,r4,r5,r6,r7,r8):=h
 clear h
 simp only [Option.some.injEq,Prod.mk.injEq] at H
 obtain ⟨rfl,rfl,rfl,rfl,rfl,rfl,rfl,rfl⟩:=H
 go_enter Tryd.func26,Tryd.ntmps26
 go_wp2_with (first|((with_reducible refine Yh (N:=1) rfl ?_);refine Ym ?hg (N:=1) ?hd (cs:=#[.int .i64 a0_0,.int .i64 a0_1,.int .i64 a0_2,.int .i64 a0_3,.int .i64 a0_4,.int .i64 a0_5,.int .i64 a0_6,.int .u8 a0_7]) (t:=48) ?hr ?_;(case hd => rfl);(case hg => rfl);(case hr => first|(go_simp;done)|(go_simp;rfl));intro gb187 hg w2 hbox hb;have n0_:=Zf.mk (Zm (by repeat (first|(with_reducible first|exact HB.out|apply Ze|apply Zc|apply Zd)|exact HB.out)) hb);have n1_:=Zf.mk (hbox);have n2_:=Zf.mk ((by rw [hg];exact (Zo (by repeat (first|(with_reducible first|exact HB.out|apply Ze|apply Zc|apply Zd)|exact HB.out))) : w.heap.size≤gb187));have n3_:=Zf.mk ((by rw [hg];exact (Zo (by repeat (first|(with_reducible first|exact HB.out|apply Ze|apply Zc|apply Zd)|exact HB.out))) : w.heap.size≤gb187));clear HB;have HB:=n0_;have BK187:=n1_;have GW187:=n2_;have GE187:=n3_;clear n0_ n1_ n2_ n3_;clear hb hbox hg)|((with_reducible refine Yh (N:=2) rfl ?_);refine Ym ?hg (N:=2) ?hd (cs:=#[.int .i64 0,.int .i64 0,.int .i64 0,.int .i64 0,.int .i64 0,.int .i64 0,.int .i64 0,.int .u8 0]) (t:=51) ?hr ?_;(case hd => rfl);(case hg => rfl);(case hr => first|(go_simp;done)|(go_simp;rfl));intro gb188 hg w3 hbox hb;have n0_:=Zf.mk (Zw (g:=gb187) (o:=.cells #[.int .i64 a0_0,.int .i64 a0_1,.int .i64 a0_2,.int .i64 a0_3,.int .i64 a0_4,.int .i64 a0_5,.int .i64 a0_6,.int .u8 a0_7] 48 (0,0)) (by (with_reducible repeat (first|refine Zk ?_ _|refine Zn ?_|refine Zl ?_ _));exact BK187.out) hb);have n1_:=Zf.mk (Zm (by repeat (first|(with_reducible first|exact HB.out|apply Ze|apply Zc|apply Zd|refine Zg ?_ GE187.out)|exact HB.out)) hb);have n2_:=Zf.mk (hbox);have n3_:=Zf.mk ((by rw [hg];exact (Zo (by repeat (first|(with_reducible first|exact HB.out|apply Ze|apply Zc|apply Zd|refine Zg ?_ GE187.out)|exact HB.out))) : w.heap.size≤gb188));have n4_:=Zf.mk ((by rw [hg];exact (Zo (by repeat (first|(with_reducible first|exact HB.out|apply Ze|apply Zc|apply Zd|refine Zg ?_ GE187.out)|exact HB.out))) : w.heap.size≤gb188));have n5_:=Zf.mk ((by rw [hg];exact Nat.ne_of_lt (blk_lt (g:=gb187) (o:=.cells #[.int .i64 a0_0,.int .i64 a0_1,.int .i64 a0_2,.int .i64 a0_3,.int .i64 a0_4,.int .i64 a0_5,.int .i64 a0_6,.int .u8 a0_7] 48 (0,0)) (by (with_reducible repeat (first|refine Zk ?_ _|refine Zn ?_|refine Zl ?_ _));exact BK187.out)) : gb187 ≠ gb188));have n6_:=Zf.mk ((by rw [hg];exact Nat.ne_of_gt (blk_lt (g:=gb187) (o:=.cells #[.int .i64 a0_0,.int .i64 a0_1,.int .i64 a0_2,.int .i64 a0_3,.int .i64 a0_4,.int .i64 a0_5,.int .i64 a0_6,.int .u8 a0_7] 48 (0,0)) (by (with_reducible repeat (first|refine Zk ?_ _|refine Zn ?_|refine Zl ?_ _));exact BK187.out)) : gb188 ≠ gb187));clear BK187;clear HB;have BK187:=n0_;have HB:=n1_;have BK188:=n2_;have GW188:=n3_;have GE188:=n4_;have NB187_188:=n5_;have NB188_187:=n6_;clear n0_ n1_ n2_ n3_ n4_ n5_ n6_;clear hb hbox hg;have hnb4:=NB187_188.out;have hnc4:=NB188_187.out;have hcz5_0 : w3.cell? ⟨gb187,0,none⟩=some (.int .i64 a0_0):=(Zb BK187.out 0).trans rfl;have hcz5_1 : w3.cell? ⟨gb187,1,none⟩=some (.int .i64 a0_1):=(Zb BK187.out 1).trans rfl;have hcz5_2 : w3.cell? ⟨gb187,2,none⟩=some (.int .i64 a0_2):=(Zb BK187.out 2).trans rfl;have hcz5_3 : w3.cell? ⟨gb187,3,none⟩=some (.int .i64 a0_3):=(Zb BK187.out 3).trans rfl;have hcz5_4 : w3.cell? ⟨gb187,4,none⟩=some (.int .i64 a0_4):=(Zb BK187.out 4).trans rfl;have hcz5_5 : w3.cell? ⟨gb187,5,none⟩=some (.int .i64 a0_5):=(Zb BK187.out 5).trans rfl;have hcz5_6 : w3.cell? ⟨gb187,6,none⟩=some (.int .i64 a0_6):=(Zb BK187.out 6).trans rfl;have hcz5_7 : w3.cell? ⟨gb187,7,none⟩=some (.int .u8 a0_7):=(Zb BK187.out 7).trans rfl;have hfz5_0:=Za BK187.out 0;have hfz5_1:=Za BK187.out 1;have hfz5_2:=Za BK187.out 2;have hfz5_3:=Za BK187.out 3;have hfz5_4:=Za BK187.out 4;have hfz5_5:=Za BK187.out 5;have hfz5_6:=Za BK187.out 6;have hfz5_7:=Za BK187.out 7;have hcz6_0 : w3.cell? ⟨gb188,0,none⟩=some (.int .i64 0):=(Zb BK188.out 0).trans rfl;have hcz6_1 : w3.cell? ⟨gb188,1,none⟩=some (.int .i64 0):=(Zb BK188.out 1).trans rfl;have hcz6_2 : w3.cell? ⟨gb188,2,none⟩=some (.int .i64 0):=(Zb BK188.out 2).trans rfl;have hcz6_3 : w3.cell? ⟨gb188,3,none⟩=some (.int .i64 0):=(Zb BK188.out 3).trans rfl;have hcz6_4 : w3.cell? ⟨gb188,4,none⟩=some (.int .i64 0):=(Zb BK188.out 4).trans rfl;have hcz6_5 : w3.cell? ⟨gb188,5,none⟩=some (.int .i64 0):=(Zb BK188.out 5).trans rfl;have hcz6_6 : w3.cell? ⟨gb188,6,none⟩=some (.int .i64 0):=(Zb BK188.out 6).trans rfl;have hcz6_7 : w3.cell? ⟨gb188,7,none⟩=some (.int .u8 0):=(Zb BK188.out 7).trans rfl;have hfz6_0:=Za BK188.out 0;have hfz6_1:=Za BK188.out 1;have hfz6_2:=Za BK188.out 2;have hfz6_3:=Za BK188.out 3;have hfz6_4:=Za BK188.out 4;have hfz6_5:=Za BK188.out 5;have hfz6_6:=Za BK188.out 6;have hfz6_7:=Za BK188.out 7))
 refine bodyPost_ret (results_cell_row rfl _ _ gb188 51 #[.int .i64 a0_0,.int .i64 a0_1,.int .i64 a0_2,.int .i64 a0_3,.int .i64 a0_4,.int .i64 a0_5,.int .i64 a0_6,.int .u8 a0_7] (0,0) _ rfl (by (with_reducible repeat (first|refine Zk ?_ _|refine Zn ?_|refine Zl ?_ _));refine blk_put (cs:=#[.int .i64 a0_0,.int .i64 a0_1,.int .i64 a0_2,.int .i64 a0_3,.int .i64 a0_4,.int .i64 a0_5,.int .i64 a0_6,.int .u8 0]) ?_ 7 _ rfl;(with_reducible repeat (first|refine Zk ?_ _|refine Zn ?_|refine Zl ?_ _));refine blk_put (cs:=#[.int .i64 a0_0,.int .i64 a0_1,.int .i64 a0_2,.int .i64 a0_3,.int .i64 a0_4,.int .i64 a0_5,.int .i64 0,.int .u8 0]) ?_ 6 _ rfl;(with_reducible repeat (first|refine Zk ?_ _|refine Zn ?_|refine Zl ?_ _));refine blk_put (cs:=#[.int .i64 a0_0,.int .i64 a0_1,.int .i64 a0_2,.int .i64 a0_3,.int .i64 a0_4,.int .i64 0,.int .i64 0,.int .u8 0]) ?_ 5 _ rfl;(with_reducible repeat (first|refine Zk ?_ _|refine Zn ?_|refine Zl ?_ _));refine blk_put (cs:=#[.int .i64 a0_0,.int .i64 a0_1,.int .i64 a0_2,.int .i64 a0_3,.int .i64 0,.int .i64 0,.int .i64 0,.int .u8 0]) ?_ 4 _ rfl;(with_reducible repeat (first|refine Zk ?_ _|refine Zn ?_|refine Zl ?_ _));refine blk_put (cs:=#[.int .i64 a0_0,.int .i64 a0_1,.int .i64 a0_2,.int .i64 0,.int .i64 0,.int .i64 0,.int .i64 0,.int .u8 0]) ?_ 3 _ rfl;(with_reducible repeat (first|refine Zk ?_ _|refine Zn ?_|refine Zl ?_ _));refine blk_put (cs:=#[.int .i64 a0_0,.int .i64 a0_1,.int .i64 0,.int .i64 0,.int .i64 0,.int .i64 0,.int .i64 0,.int .u8 0]) ?_ 2 _ rfl;(with_reducible repeat (first|refine Zk ?_ _|refine Zn ?_|refine Zl ?_ _));refine blk_put (cs:=#[.int .i64 a0_0,.int .i64 0,.int .i64 0,.int .i64 0,.int .i64 0,.int .i64 0,.int .i64 0,.int .u8 0]) ?_ 1 _ rfl;(with_reducible repeat (first|refine Zk ?_ _|refine Zn ?_|refine Zl ?_ _));refine blk_put (cs:=#[.int .i64 0,.int .i64 0,.int .i64 0,.int .i64 0,.int .i64 0,.int .i64 0,.int .i64 0,.int .u8 0]) ?_ 0 _ rfl;(with_reducible repeat (first|refine Zk ?_ _|refine Zn ?_|refine Zl ?_ _));exact BK188.out) Tryd.underlying51 rfl (by kernel_rfl)) rfl ?_
 exact ⟨by first|rfl|(simp [Zp,Zq] <;> rfl)|(simp [*,Zp,Zq] <;> rfl),by repeat (first|(with_reducible first|exact HB.out|apply Ze|apply Zc|apply Zd|refine Zg ?_ GE187.out|refine Zg ?_ GE188.out)|exact HB.out)⟩
end Go.Proofs.YtmjlkifmbhaiiaaDoorQ.Pw
end
section
namespace Go.Proofs.YtmjlkifmbhaiiaaDoorQ.Pw
open Go.RowKit Go.Proofs.YtmjlkifmbhaiiaaDoorW.PrintWords Go.Proofs.YtmjlkifmbhaiiaaDoorW.PrintLast Go.Proofs.YtmjlkifmbhaiiaaDoorW.PrintMore
attribute [local go_sem] Go.Proofs.YtmjlkifmbhaiiaaDoor.Ye
attribute [local go_sem] max2_int min2_int max_two min_two max_three min_three max_four min_four   -- for this text's walks alone
set_option linter.unusedVariables false
set_option linter.unusedSimpArgs false
/-! ### puny_EncodeBy: function 27 -/
def puny_EncodeBy.f (k : Nat) (a0_0 : Int) (a0_1 : Int) (a0_2 : Int) (a0_3 : Int) (a0_4 : Int) (a0_5 : Int) (a0_6 : Int) (a0_7 : Int) (l1 : List Int) : Option (ByteArray × Int × Int):=(Yg.f a0_0 a0_1 a0_2 a0_3 a0_4 a0_5 a0_6 a0_7).bind fun t190 => (if t190=0 then ((Zr.f k a0_0 a0_1 a0_2 a0_3 a0_4 a0_5 a0_6 a0_7 l1).bind fun bt191 => (some (bt191.1,bt191.2.1,bt191.2.2))) else (some ((⟨#[]⟩ : ByteArray),0,t190)))
set_option maxHeartbeats 8000000 in
set_option maxRecDepth 100000 in
theorem puny_EncodeBy.calls (k : Nat) (a0_0 : Int) (a0_1 : Int) (a0_2 : Int) (a0_3 : Int) (a0_4 : Int) (a0_5 : Int) (a0_6 : Int) (a0_7 : Int) (A1 : Option Addr) (c1 : Nat) (l1 : List Int) (r1 : ByteArray) (r2 : Int) (r3 : Int) (w : World) (hr1 : Kd.C (Kd.int .i32) w A1 l1.length l1) (hc1 : l1.length≤c1) (h : puny_EncodeBy.f k a0_0 a0_1 a0_2 a0_3 a0_4 a0_5 a0_6 a0_7 l1=some (r1,r2,r3)) (T_ : Go.Proofs.YtmjlkifmbhaiiaaDoor.Tabs w) :
  Calls Tryd.prog 27 #[.agg #[.int .i64 a0_0,.int .i64 a0_1,.int .i64 a0_2,.int .i64 a0_3,.int .i64 a0_4,.int .i64 a0_5,.int .i64 a0_6,.int .u8 a0_7],.slice A1 l1.length c1] w fun e w' => e=.returned (.tuple #[.string r1,.int .i64 r2,.int .i64 r3])∧Below w.heap.size w w':=by
 have hu48:=Tryd.underlying48
 have HR1:=Zf.mk hr1
 have HC1:=Zf.mk hc1
 clear hr1 hc1
 have HB:=Zf.mk (Below.refl w.heap.size w)
 have H : ((Yg.f a0_0 a0_1 a0_2 a0_3 a0_4 a0_5 a0_6 a0_7).bind fun t190 => (if t190=0 then ((Zr.f k a0_0 a0_1 a0_2 a0_3 a0_4 a0_5 a0_6 a0_7 l1).bind fun bt191 => (some (bt191.1,bt191.2.1,bt191.2.2))) else (some ((⟨#[]⟩ : ByteArray),0,t190))))=some (r1,r2,r3):=h
 clear h
 replace H:=Option.bind_eq_some_iff.mp H
 obtain ⟨t190,A30,H⟩:=H
 replace H : (if t190=0 then ((Zr.f k a0_0 a0_1 a0_2 a0_3 a0_4 a0_5 a0_6 a0_7 l1).bind fun bt191 => (some (bt191.1,bt191.2.1,bt191.2.2))) else (some ((⟨#[]⟩ : ByteArray),0,t190)))=some (r1,r2,r3):=H
 have A3:=Zf.mk A30
 clear A30
 by_cases c4 : t190=0
 ·rw [if_pos c4] at H
  have c4b0 : (t190 == 0)=true:=beq_iff_eq.mpr c4
  have c4b1 : (t190 != 0)=false:=bne_eq_false_iff_eq.mpr c4
  clear c4
  replace H:=Option.bind_eq_some_iff.mp H
  obtain ⟨⟨t191,t192,t193⟩,A50,H⟩:=H
  replace H : (some (t191,t192,t193))=some (r1,r2,r3):=H
  have A5:=Zf.mk A50
  clear A50
  simp only [Option.some.injEq,Prod.mk.injEq] at H
  obtain ⟨rfl,rfl,rfl⟩:=H
  go_enter Tryd.func27,Tryd.ntmps27
  go_wp2_with (first|((with_reducible refine Yh (N:=2) rfl ?_);refine Ym ?hg (N:=2) ?hd (cs:=#[.int .i64 a0_0,.int .i64 a0_1,.int .i64 a0_2,.int .i64 a0_3,.int .i64 a0_4,.int .i64 a0_5,.int .i64 a0_6,.int .u8 a0_7]) (t:=48) ?hr ?_;(case hd => rfl);(case hg => rfl);(case hr => first|(go_simp;done)|(go_simp;rfl));intro gb189 hg w6 hbox hb;have n0_:=Zf.mk (Zm (by repeat (first|(with_reducible first|exact HB.out|apply Ze|apply Zc|apply Zd)|exact HB.out)) hb);have n1_:=Zf.mk (hbox);have n2_:=Zf.mk ((by rw [hg];exact (Zo (by repeat (first|(with_reducible first|exact HB.out|apply Ze|apply Zc|apply Zd)|exact HB.out))) : w.heap.size≤gb189));have n3_:=Zf.mk ((by rw [hg];exact (Zo (by repeat (first|(with_reducible first|exact HB.out|apply Ze|apply Zc|apply Zd)|exact HB.out))) : w.heap.size≤gb189));clear HB;have HB:=n0_;have BK189:=n1_;have GW189:=n2_;have GE189:=n3_;clear n0_ n1_ n2_ n3_;clear hb hbox hg;have hcz7_0 : w6.cell? ⟨gb189,0,none⟩=some (.int .i64 a0_0):=(Zb BK189.out 0).trans rfl;have hcz7_1 : w6.cell? ⟨gb189,1,none⟩=some (.int .i64 a0_1):=(Zb BK189.out 1).trans rfl;have hcz7_2 : w6.cell? ⟨gb189,2,none⟩=some (.int .i64 a0_2):=(Zb BK189.out 2).trans rfl;have hcz7_3 : w6.cell? ⟨gb189,3,none⟩=some (.int .i64 a0_3):=(Zb BK189.out 3).trans rfl;have hcz7_4 : w6.cell? ⟨gb189,4,none⟩=some (.int .i64 a0_4):=(Zb BK189.out 4).trans rfl;have hcz7_5 : w6.cell? ⟨gb189,5,none⟩=some (.int .i64 a0_5):=(Zb BK189.out 5).trans rfl;have hcz7_6 : w6.cell? ⟨gb189,6,none⟩=some (.int .i64 a0_6):=(Zb BK189.out 6).trans rfl;have hcz7_7 : w6.cell? ⟨gb189,7,none⟩=some (.int .u8 a0_7):=(Zb BK189.out 7).trans rfl;have hfz7_0:=Za BK189.out 0;have hfz7_1:=Za BK189.out 1;have hfz7_2:=Za BK189.out 2;have hfz7_3:=Za BK189.out 3;have hfz7_4:=Za BK189.out 4;have hfz7_5:=Za BK189.out 5;have hfz7_6:=Za BK189.out 6;have hfz7_7:=Za BK189.out 7)|((with_reducible refine Z0 (f:=24) rfl ?_);refine goesL_ (some 9) rfl rfl Tryd.func24 (by kernel_rfl) rfl #[.agg #[.int .i64 a0_0,.int .i64 a0_1,.int .i64 a0_2,.int .i64 a0_3,.int .i64 a0_4,.int .i64 a0_5,.int .i64 a0_6,.int .u8 a0_7]] rfl (by (try simp only [List.map_toArray,List.map_cons,List.map_nil]);first|done|rfl|(simp only [List.length_drop,List.length_take];rfl)) ?_;(with_reducible refine (Yg.calls a0_0 a0_1 a0_2 a0_3 a0_4 a0_5 a0_6 a0_7 t190 _ A3.out).mono ?_);rintro e w8 ⟨rfl,hb⟩;refine ⟨_,rfl,?_⟩;have n0_:=Zf.mk (Zw (g:=gb189) (o:=.cells #[.int .i64 a0_0,.int .i64 a0_1,.int .i64 a0_2,.int .i64 a0_3,.int .i64 a0_4,.int .i64 a0_5,.int .i64 a0_6,.int .u8 a0_7] 48 (0,0)) (by (with_reducible repeat (first|refine Zk ?_ _|refine Zn ?_|refine Zl ?_ _));exact BK189.out) hb);have n1_:=Zf.mk (Zm (by repeat (first|(with_reducible first|exact HB.out|apply Ze|apply Zc|apply Zd|refine Zg ?_ GE189.out)|exact HB.out)) hb);clear BK189;clear HB;have BK189:=n0_;have HB:=n1_;clear n0_ n1_;(try clear hb);(try clear hb2);(try clear hk);(try clear hi);have hcz9_0 : w8.cell? ⟨gb189,0,none⟩=some (.int .i64 a0_0):=(Zb BK189.out 0).trans rfl;have hcz9_1 : w8.cell? ⟨gb189,1,none⟩=some (.int .i64 a0_1):=(Zb BK189.out 1).trans rfl;have hcz9_2 : w8.cell? ⟨gb189,2,none⟩=some (.int .i64 a0_2):=(Zb BK189.out 2).trans rfl;have hcz9_3 : w8.cell? ⟨gb189,3,none⟩=some (.int .i64 a0_3):=(Zb BK189.out 3).trans rfl;have hcz9_4 : w8.cell? ⟨gb189,4,none⟩=some (.int .i64 a0_4):=(Zb BK189.out 4).trans rfl;have hcz9_5 : w8.cell? ⟨gb189,5,none⟩=some (.int .i64 a0_5):=(Zb BK189.out 5).trans rfl;have hcz9_6 : w8.cell? ⟨gb189,6,none⟩=some (.int .i64 a0_6):=(Zb BK189.out 6).trans rfl;have hcz9_7 : w8.cell? ⟨gb189,7,none⟩=some (.int .u8 a0_7):=(Zb BK189.out 7).trans rfl;have hfz9_0:=Za BK189.out 0;have hfz9_1:=Za BK189.out 1;have hfz9_2:=Za BK189.out 2;have hfz9_3:=Za BK189.out 3;have hfz9_4:=Za BK189.out 4;have hfz9_5:=Za BK189.out 5;have hfz9_6:=Za BK189.out 6;have hfz9_7:=Za BK189.out 7)|((with_reducible refine Z0 (f:=32) rfl ?_);refine goesL_ (some 15) rfl rfl Tryd.func32 (by kernel_rfl) rfl #[.agg #[.int .i64 a0_0,.int .i64 a0_1,.int .i64 a0_2,.int .i64 a0_3,.int .i64 a0_4,.int .i64 a0_5,.int .i64 a0_6,.int .u8 a0_7],.slice A1 l1.length c1] rfl (by (try simp only [List.map_toArray,List.map_cons,List.map_nil]);first|done|rfl|(simp only [List.length_drop,List.length_take];rfl)) ?_;(with_reducible refine (Zr.calls k a0_0 a0_1 a0_2 a0_3 a0_4 a0_5 a0_6 a0_7 _ _ l1 t191 t192 t193 _ ?side1 ?side2 A5.out (by first|exact T_|exact (Utf8Tabs_below T_ (by repeat (first|(with_reducible first|exact HB.out|apply Ze|apply Zc|apply Zd|refine Zg ?_ GE189.out)|exact HB.out))))).mono ?_);(case side1 => repeat (first|exact (Kd.C_below HR1.out HB.out)|(with_reducible refine Kd.C_alloc ?_ _)|(with_reducible refine Kd.C_drewN ?_ _)|(with_reducible refine Kd.C_drew ?_)));(case side2 => exact HC1.out);rintro e w10 ⟨rfl,hb⟩;refine ⟨_,rfl,?_⟩;have n0_:=Zf.mk (Zw (g:=gb189) (o:=.cells #[.int .i64 a0_0,.int .i64 a0_1,.int .i64 a0_2,.int .i64 a0_3,.int .i64 a0_4,.int .i64 a0_5,.int .i64 a0_6,.int .u8 a0_7] 48 (0,0)) (by (with_reducible repeat (first|refine Zk ?_ _|refine Zn ?_|refine Zl ?_ _));exact BK189.out) hb);have n1_:=Zf.mk (Zm (by repeat (first|(with_reducible first|exact HB.out|apply Ze|apply Zc|apply Zd|refine Zg ?_ GE189.out)|exact HB.out)) hb);clear BK189;clear HB;have BK189:=n0_;have HB:=n1_;clear n0_ n1_;(try clear hb);(try clear hb2);(try clear hk);(try clear hi)))
  go_ret3
  exact ⟨by first|rfl|(simp [Zp,Zq] <;> rfl)|(simp [*,Zp,Zq] <;> rfl),by repeat (first|(with_reducible first|exact HB.out|apply Ze|apply Zc|apply Zd|refine Zg ?_ GE189.out)|exact HB.out)⟩
 ·rw [if_neg c4] at H
  have c4b0 : (t190 == 0)=false:=beq_eq_false_iff_ne.mpr c4
  have c4b1 : (t190 != 0)=true:=bne_iff_ne.mpr c4
  simp only [Option.some.injEq,Prod.mk.injEq] at H
  obtain ⟨rfl,rfl,rfl⟩:=H
  go_enter Tryd.func27,Tryd.ntmps27
  go_wp2_with (first|((with_reducible refine Yh (N:=2) rfl ?_);refine Ym ?hg (N:=2) ?hd (cs:=#[.int .i64 a0_0,.int .i64 a0_1,.int .i64 a0_2,.int .i64 a0_3,.int .i64 a0_4,.int .i64 a0_5,.int .i64 a0_6,.int .u8 a0_7]) (t:=48) ?hr ?_;(case hd => rfl);(case hg => rfl);(case hr => first|(go_simp;done)|(go_simp;rfl));intro gb189 hg w11 hbox hb;have n0_:=Zf.mk (Zm (by repeat (first|(with_reducible first|exact HB.out|apply Ze|apply Zc|apply Zd)|exact HB.out)) hb);have n1_:=Zf.mk (hbox);have n2_:=Zf.mk ((by rw [hg];exact (Zo (by repeat (first|(with_reducible first|exact HB.out|apply Ze|apply Zc|apply Zd)|exact HB.out))) : w.heap.size≤gb189));have n3_:=Zf.mk ((by rw [hg];exact (Zo (by repeat (first|(with_reducible first|exact HB.out|apply Ze|apply Zc|apply Zd)|exact HB.out))) : w.heap.size≤gb189));clear HB;have HB:=n0_;have BK189:=n1_;have GW189:=n2_;have GE189:=n3_;clear n0_ n1_ n2_ n3_;clear hb hbox hg;have hcz12_0 : w11.cell? ⟨gb189,0,none⟩=some (.int .i64 a0_0):=(Zb BK189.out 0).trans rfl;have hcz12_1 : w11.cell? ⟨gb189,1,none⟩=some (.int .i64 a0_1):=(Zb BK189.out 1).trans rfl;have hcz12_2 : w11.cell? ⟨gb189,2,none⟩=some (.int .i64 a0_2):=(Zb BK189.out 2).trans rfl;have hcz12_3 : w11.cell? ⟨gb189,3,none⟩=some (.int .i64 a0_3):=(Zb BK189.out 3).trans rfl;have hcz12_4 : w11.cell? ⟨gb189,4,none⟩=some (.int .i64 a0_4):=(Zb BK189.out 4).trans rfl;have hcz12_5 : w11.cell? ⟨gb189,5,none⟩=some (.int .i64 a0_5):=(Zb BK189.out 5).trans rfl;have hcz12_6 : w11.cell? ⟨gb189,6,none⟩=some (.int .i64 a0_6):=(Zb BK189.out 6).trans rfl;have hcz12_7 : w11.cell? ⟨gb189,7,none⟩=some (.int .u8 a0_7):=(Zb BK189.out 7).trans rfl;have hfz12_0:=Za BK189.out 0;have hfz12_1:=Za BK189.out 1;have hfz12_2:=Za BK189.out 2;have hfz12_3:=Za BK189.out 3;have hfz12_4:=Za BK189.out 4;have hfz12_5:=Za BK189.out 5;have hfz12_6:=Za BK189.out 6;have hfz12_7:=Za BK189.out 7)|((with_reducible refine Z0 (f:=24) rfl ?_);refine goesL_ (some 9) rfl rfl Tryd.func24 (by kernel_rfl) rfl #[.agg #[.int .i64 a0_0,.int .i64 a0_1,.int .i64 a0_2,.int .i64 a0_3,.int .i64 a0_4,.int .i64 a0_5,.int .i64 a0_6,.int .u8 a0_7]] rfl (by (try simp only [List.map_toArray,List.map_cons,List.map_nil]);first|done|rfl|(simp only [List.length_drop,List.length_take];rfl)) ?_;(with_reducible refine (Yg.calls a0_0 a0_1 a0_2 a0_3 a0_4 a0_5 a0_6 a0_7 t190 _ A3.out).mono ?_);rintro e w13 ⟨rfl,hb⟩;refine ⟨_,rfl,?_⟩;have n0_:=Zf.mk (Zw (g:=gb189) (o:=.cells #[.int .i64 a0_0,.int .i64 a0_1,.int .i64 a0_2,.int .i64 a0_3,.int .i64 a0_4,.int .i64 a0_5,.int .i64 a0_6,.int .u8 a0_7] 48 (0,0)) (by (with_reducible repeat (first|refine Zk ?_ _|refine Zn ?_|refine Zl ?_ _));exact BK189.out) hb);have n1_:=Zf.mk (Zm (by repeat (first|(with_reducible first|exact HB.out|apply Ze|apply Zc|apply Zd|refine Zg ?_ GE189.out)|exact HB.out)) hb);clear BK189;clear HB;have BK189:=n0_;have HB:=n1_;clear n0_ n1_;(try clear hb);(try clear hb2);(try clear hk);(try clear hi)))
  go_ret3
  exact ⟨by first|rfl|(simp [Zp,Zq] <;> rfl)|(simp [*,Zp,Zq] <;> rfl),by repeat (first|(with_reducible first|exact HB.out|apply Ze|apply Zc|apply Zd|refine Zg ?_ GE189.out)|exact HB.out)⟩
end Go.Proofs.YtmjlkifmbhaiiaaDoorQ.Pw
end
section
namespace Go.Proofs.YtmjlkifmbhaiiaaDoorQ.Pw
open Go.RowKit Go.Proofs.YtmjlkifmbhaiiaaDoorW.PrintWords Go.Proofs.YtmjlkifmbhaiiaaDoorW.PrintLast Go.Proofs.YtmjlkifmbhaiiaaDoorW.PrintMore
attribute [local go_sem] Go.Proofs.YtmjlkifmbhaiiaaDoor.Ye
attribute [local go_sem] max2_int min2_int max_two min_two max_three min_three max_four min_four   -- for this text's walks alone
set_option linter.unusedVariables false
set_option linter.unusedSimpArgs false
/-! ### Yk: function 21 -/
def Yk.f (a0 : Int) : Option (Int):=if a0 < 26 then (some ((wrap64 (97 + a0)) % 256)) else (some ((wrap64 ((wrap64 (48 + a0)) - 26)) % 256))
set_option maxHeartbeats 8000000 in
set_option maxRecDepth 100000 in
theorem Yk.calls (a0 : Int) (r : Int) (w : World) (h : Yk.f a0=some r) :
  Calls Tryd.prog 21 #[.int .i64 a0] w fun e w' => e=.returned (.int .u8 r)∧Yb w w':=by
 have H : (if a0 < 26 then (some ((wrap64 (97 + a0)) % 256)) else (some ((wrap64 ((wrap64 (48 + a0)) - 26)) % 256)))=some r:=h
 clear h
 by_cases c2 : a0 < 26
 ·rw [if_pos c2] at H
  have c2b0 : decide (a0 < 26)=true:=decide_eq_true c2
  clear c2
  obtain rfl:=Option.some.inj H
  go_enter Tryd.func21,Tryd.ntmps21
  go_wp2
  go_ret
  exact ⟨by first|rfl|(simp;done)|(simp [*];done),by repeat (first|exact Yb.refl _|apply Yb.step)⟩
 ·rw [if_neg c2] at H
  have c2b0 : decide (a0 < 26)=false:=decide_eq_false c2
  clear c2
  obtain rfl:=Option.some.inj H
  go_enter Tryd.func21,Tryd.ntmps21
  go_wp2
  go_ret
  exact ⟨by first|rfl|(simp;done)|(simp [*];done),by repeat (first|exact Yb.refl _|apply Yb.step)⟩
end Go.Proofs.YtmjlkifmbhaiiaaDoorQ.Pw
end
section
namespace Go.Proofs.YtmjlkifmbhaiiaaDoorQ.Pw
open Go.RowKit Go.Proofs.YtmjlkifmbhaiiaaDoorW.PrintWords Go.Proofs.YtmjlkifmbhaiiaaDoorW.PrintLast Go.Proofs.YtmjlkifmbhaiiaaDoorW.PrintMore
attribute [local go_sem] Go.Proofs.YtmjlkifmbhaiiaaDoor.Ye
attribute [local go_sem] max2_int min2_int max_two min_two max_three min_three max_four min_four   -- for this text's walks alone
set_option linter.unusedVariables false
set_option linter.unusedSimpArgs false
/-! ### Yc: function 33 -/
def Yc.f (a0 : Int) : Option (Bool):=if a0 ≥ 0 then (if a0 < 55296 then (some true) else (if a0 > 57343 then (some (decide (a0≤1114111))) else (some false))) else (if a0 > 57343 then (some (decide (a0≤1114111))) else (some false))
set_option maxHeartbeats 8000000 in
set_option maxRecDepth 100000 in
theorem Yc.calls (a0 : Int) (r : Bool) (w : World) (h : Yc.f a0=some r) :
  Calls Tryd.prog 33 #[.int .i32 a0] w fun e w' => e=.returned (.bool r)∧Yb w w':=by
 have H : (if a0 ≥ 0 then (if a0 < 55296 then (some true) else (if a0 > 57343 then (some (decide (a0≤1114111))) else (some false))) else (if a0 > 57343 then (some (decide (a0≤1114111))) else (some false)))=some r:=h
 clear h
 by_cases c2 : a0 ≥ 0
 ·rw [if_pos c2] at H
  have c2b0 : decide (0≤a0)=true:=decide_eq_true c2
  clear c2
  by_cases c3 : a0 < 55296
  ·rw [if_pos c3] at H
   have c3b0 : decide (a0 < 55296)=true:=decide_eq_true c3
   clear c3
   obtain rfl:=Option.some.inj H
   go_enter Tryd.func33,Tryd.ntmps33
   go_wp2
   go_ret
   exact ⟨by first|rfl|(simp;done)|(simp [*];done),by repeat (first|exact Yb.refl _|apply Yb.step)⟩
  ·rw [if_neg c3] at H
   have c3b0 : decide (a0 < 55296)=false:=decide_eq_false c3
   clear c3
   by_cases c4 : a0 > 57343
   ·rw [if_pos c4] at H
    have c4b0 : decide (57343 < a0)=true:=decide_eq_true c4
    clear c4
    obtain rfl:=Option.some.inj H
    go_enter Tryd.func33,Tryd.ntmps33
    go_wp2
    go_ret
    exact ⟨by first|rfl|(simp;done)|(simp [*];done),by repeat (first|exact Yb.refl _|apply Yb.step)⟩
   ·rw [if_neg c4] at H
    have c4b0 : decide (57343 < a0)=false:=decide_eq_false c4
    clear c4
    obtain rfl:=Option.some.inj H
    go_enter Tryd.func33,Tryd.ntmps33
    go_wp2
    go_ret
    exact ⟨by first|rfl|(simp;done)|(simp [*];done),by repeat (first|exact Yb.refl _|apply Yb.step)⟩
 ·rw [if_neg c2] at H
  have c2b0 : decide (0≤a0)=false:=decide_eq_false c2
  clear c2
  by_cases c5 : a0 > 57343
  ·rw [if_pos c5] at H
   have c5b0 : decide (57343 < a0)=true:=decide_eq_true c5
   clear c5
   obtain rfl:=Option.some.inj H
   go_enter Tryd.func33,Tryd.ntmps33
   go_wp2
   go_ret
   exact ⟨by first|rfl|(simp;done)|(simp [*];done),by repeat (first|exact Yb.refl _|apply Yb.step)⟩
  ·rw [if_neg c5] at H
   have c5b0 : decide (57343 < a0)=false:=decide_eq_false c5
   clear c5
   obtain rfl:=Option.some.inj H
   go_enter Tryd.func33,Tryd.ntmps33
   go_wp2
   go_ret
   exact ⟨by first|rfl|(simp;done)|(simp [*];done),by repeat (first|exact Yb.refl _|apply Yb.step)⟩
end Go.Proofs.YtmjlkifmbhaiiaaDoorQ.Pw
end
section
namespace Go.Proofs.YtmjlkifmbhaiiaaDoorQ.Pw
open Go.RowKit Go.Proofs.YtmjlkifmbhaiiaaDoorW.PrintWords Go.Proofs.YtmjlkifmbhaiiaaDoorW.PrintLast Go.Proofs.YtmjlkifmbhaiiaaDoorW.PrintMore
attribute [local go_sem] Go.Proofs.YtmjlkifmbhaiiaaDoor.Ye
attribute [local go_sem] max2_int min2_int max_two min_two max_three min_three max_four min_four   -- for this text's walks alone
set_option linter.unusedVariables false
set_option linter.unusedSimpArgs false
/-! ### Yf: function 41 -/
def Yf.f (a0_0 : Int) (a0_1 : Int) (a0_2 : Int) (a0_3 : Int) (a0_4 : Int) (a0_5 : Int) (a0_6 : Int) (a0_7 : Int) (a1 : Int) : Option (Bool):=if (wrap64 (a1)) < a0_6 then (some (decide (a1 < 128))) else (some false)
set_option maxHeartbeats 8000000 in
set_option maxRecDepth 100000 in
theorem Yf.calls (a0_0 : Int) (a0_1 : Int) (a0_2 : Int) (a0_3 : Int) (a0_4 : Int) (a0_5 : Int) (a0_6 : Int) (a0_7 : Int) (a1 : Int) (r : Bool) (w : World) (h : Yf.f a0_0 a0_1 a0_2 a0_3 a0_4 a0_5 a0_6 a0_7 a1=some r) :
  Calls Tryd.prog 41 #[.agg #[.int .i64 a0_0,.int .i64 a0_1,.int .i64 a0_2,.int .i64 a0_3,.int .i64 a0_4,.int .i64 a0_5,.int .i64 a0_6,.int .u8 a0_7],.int .i32 a1] w fun e w' => e=.returned (.bool r)∧Below w.heap.size w w':=by
 have hu51:=Tryd.underlying51
 have HB:=Zf.mk (Below.refl w.heap.size w)
 have H : (if (wrap64 (a1)) < a0_6 then (some (decide (a1 < 128))) else (some false))=some r:=h
 clear h
 by_cases c3 : (wrap64 (a1)) < a0_6
 ·rw [if_pos c3] at H
  have c3b0 : decide ((wrap64 (a1)) < a0_6)=true:=decide_eq_true c3
  clear c3
  obtain rfl:=Option.some.inj H
  go_enter Tryd.func41,Tryd.ntmps41
  go_wp2_with (first|((with_reducible refine Yh (N:=2) rfl ?_);refine Ym ?hg (N:=2) ?hd (cs:=#[.int .i64 a0_0,.int .i64 a0_1,.int .i64 a0_2,.int .i64 a0_3,.int .i64 a0_4,.int .i64 a0_5,.int .i64 a0_6,.int .u8 a0_7]) (t:=51) ?hr ?_;(case hd => rfl);(case hg => rfl);(case hr => first|(go_simp;done)|(go_simp;rfl));intro gb194 hg w4 hbox hb;have n0_:=Zf.mk (Zm (by repeat (first|(with_reducible first|exact HB.out|apply Ze|apply Zc|apply Zd)|exact HB.out)) hb);have n1_:=Zf.mk (hbox);have n2_:=Zf.mk ((by rw [hg];exact (Zo (by repeat (first|(with_reducible first|exact HB.out|apply Ze|apply Zc|apply Zd)|exact HB.out))) : w.heap.size≤gb194));have n3_:=Zf.mk ((by rw [hg];exact (Zo (by repeat (first|(with_reducible first|exact HB.out|apply Ze|apply Zc|apply Zd)|exact HB.out))) : w.heap.size≤gb194));clear HB;have HB:=n0_;have BK194:=n1_;have GW194:=n2_;have GE194:=n3_;clear n0_ n1_ n2_ n3_;clear hb hbox hg;have hcz5_0 : w4.cell? ⟨gb194,0,none⟩=some (.int .i64 a0_0):=(Zb BK194.out 0).trans rfl;have hcz5_1 : w4.cell? ⟨gb194,1,none⟩=some (.int .i64 a0_1):=(Zb BK194.out 1).trans rfl;have hcz5_2 : w4.cell? ⟨gb194,2,none⟩=some (.int .i64 a0_2):=(Zb BK194.out 2).trans rfl;have hcz5_3 : w4.cell? ⟨gb194,3,none⟩=some (.int .i64 a0_3):=(Zb BK194.out 3).trans rfl;have hcz5_4 : w4.cell? ⟨gb194,4,none⟩=some (.int .i64 a0_4):=(Zb BK194.out 4).trans rfl;have hcz5_5 : w4.cell? ⟨gb194,5,none⟩=some (.int .i64 a0_5):=(Zb BK194.out 5).trans rfl;have hcz5_6 : w4.cell? ⟨gb194,6,none⟩=some (.int .i64 a0_6):=(Zb BK194.out 6).trans rfl;have hcz5_7 : w4.cell? ⟨gb194,7,none⟩=some (.int .u8 a0_7):=(Zb BK194.out 7).trans rfl;have hfz5_0:=Za BK194.out 0;have hfz5_1:=Za BK194.out 1;have hfz5_2:=Za BK194.out 2;have hfz5_3:=Za BK194.out 3;have hfz5_4:=Za BK194.out 4;have hfz5_5:=Za BK194.out 5;have hfz5_6:=Za BK194.out 6;have hfz5_7:=Za BK194.out 7))
  go_ret
  exact ⟨by first|rfl|(simp [Zp,Zq] <;> rfl)|(simp [*,Zp,Zq] <;> rfl),by repeat (first|(with_reducible first|exact HB.out|apply Ze|apply Zc|apply Zd|refine Zg ?_ GE194.out)|exact HB.out)⟩
 ·rw [if_neg c3] at H
  have c3b0 : decide ((wrap64 (a1)) < a0_6)=false:=decide_eq_false c3
  clear c3
  obtain rfl:=Option.some.inj H
  go_enter Tryd.func41,Tryd.ntmps41
  go_wp2_with (first|((with_reducible refine Yh (N:=2) rfl ?_);refine Ym ?hg (N:=2) ?hd (cs:=#[.int .i64 a0_0,.int .i64 a0_1,.int .i64 a0_2,.int .i64 a0_3,.int .i64 a0_4,.int .i64 a0_5,.int .i64 a0_6,.int .u8 a0_7]) (t:=51) ?hr ?_;(case hd => rfl);(case hg => rfl);(case hr => first|(go_simp;done)|(go_simp;rfl));intro gb194 hg w6 hbox hb;have n0_:=Zf.mk (Zm (by repeat (first|(with_reducible first|exact HB.out|apply Ze|apply Zc|apply Zd)|exact HB.out)) hb);have n1_:=Zf.mk (hbox);have n2_:=Zf.mk ((by rw [hg];exact (Zo (by repeat (first|(with_reducible first|exact HB.out|apply Ze|apply Zc|apply Zd)|exact HB.out))) : w.heap.size≤gb194));have n3_:=Zf.mk ((by rw [hg];exact (Zo (by repeat (first|(with_reducible first|exact HB.out|apply Ze|apply Zc|apply Zd)|exact HB.out))) : w.heap.size≤gb194));clear HB;have HB:=n0_;have BK194:=n1_;have GW194:=n2_;have GE194:=n3_;clear n0_ n1_ n2_ n3_;clear hb hbox hg;have hcz7_0 : w6.cell? ⟨gb194,0,none⟩=some (.int .i64 a0_0):=(Zb BK194.out 0).trans rfl;have hcz7_1 : w6.cell? ⟨gb194,1,none⟩=some (.int .i64 a0_1):=(Zb BK194.out 1).trans rfl;have hcz7_2 : w6.cell? ⟨gb194,2,none⟩=some (.int .i64 a0_2):=(Zb BK194.out 2).trans rfl;have hcz7_3 : w6.cell? ⟨gb194,3,none⟩=some (.int .i64 a0_3):=(Zb BK194.out 3).trans rfl;have hcz7_4 : w6.cell? ⟨gb194,4,none⟩=some (.int .i64 a0_4):=(Zb BK194.out 4).trans rfl;have hcz7_5 : w6.cell? ⟨gb194,5,none⟩=some (.int .i64 a0_5):=(Zb BK194.out 5).trans rfl;have hcz7_6 : w6.cell? ⟨gb194,6,none⟩=some (.int .i64 a0_6):=(Zb BK194.out 6).trans rfl;have hcz7_7 : w6.cell? ⟨gb194,7,none⟩=some (.int .u8 a0_7):=(Zb BK194.out 7).trans rfl;have hfz7_0:=Za BK194.out 0;have hfz7_1:=Za BK194.out 1;have hfz7_2:=Za BK194.out 2;have hfz7_3:=Za BK194.out 3;have hfz7_4:=Za BK194.out 4;have hfz7_5:=Za BK194.out 5;have hfz7_6:=Za BK194.out 6;have hfz7_7:=Za BK194.out 7))
  go_ret
  exact ⟨by first|rfl|(simp [Zp,Zq] <;> rfl)|(simp [*,Zp,Zq] <;> rfl),by repeat (first|(with_reducible first|exact HB.out|apply Ze|apply Zc|apply Zd|refine Zg ?_ GE194.out)|exact HB.out)⟩
end Go.Proofs.YtmjlkifmbhaiiaaDoorQ.Pw
end
section
namespace Go.Proofs.YtmjlkifmbhaiiaaDoorQ.Pw
open Go.RowKit Go.Proofs.YtmjlkifmbhaiiaaDoorW.PrintWords Go.Proofs.YtmjlkifmbhaiiaaDoorW.PrintLast Go.Proofs.YtmjlkifmbhaiiaaDoorW.PrintMore
attribute [local go_sem] Go.Proofs.YtmjlkifmbhaiiaaDoor.Ye
attribute [local go_sem] max2_int min2_int max_two min_two max_three min_three max_four min_four   -- for this text's walks alone
set_option linter.unusedVariables false
set_option linter.unusedSimpArgs false
/-! ### Z6: function 42 -/
def Z6.f (a0_0 : Int) (a0_1 : Int) (a0_2 : Int) (a0_3 : Int) (a0_4 : Int) (a0_5 : Int) (a0_6 : Int) (a0_7 : Int) (a1 : Int) (a2 : Int) : Option (Int):=if (wrap64 (a1 - a2)) < a0_1 then (some a0_1) else (if (wrap64 (a1 - a2)) > a0_2 then (some a0_2) else (some (wrap64 (a1 - a2))))
set_option maxHeartbeats 8000000 in
set_option maxRecDepth 100000 in
theorem Z6.calls (a0_0 : Int) (a0_1 : Int) (a0_2 : Int) (a0_3 : Int) (a0_4 : Int) (a0_5 : Int) (a0_6 : Int) (a0_7 : Int) (a1 : Int) (a2 : Int) (r : Int) (w : World) (h : Z6.f a0_0 a0_1 a0_2 a0_3 a0_4 a0_5 a0_6 a0_7 a1 a2=some r) :
  Calls Tryd.prog 42 #[.agg #[.int .i64 a0_0,.int .i64 a0_1,.int .i64 a0_2,.int .i64 a0_3,.int .i64 a0_4,.int .i64 a0_5,.int .i64 a0_6,.int .u8 a0_7],.int .i64 a1,.int .i64 a2] w fun e w' => e=.returned (.int .i64 r)∧Below w.heap.size w w':=by
 have hu51:=Tryd.underlying51
 have HB:=Zf.mk (Below.refl w.heap.size w)
 have H : (if (wrap64 (a1 - a2)) < a0_1 then (some a0_1) else (if (wrap64 (a1 - a2)) > a0_2 then (some a0_2) else (some (wrap64 (a1 - a2)))))=some r:=h
 clear h
 by_cases c4 : (wrap64 (a1 - a2)) < a0_1
 ·rw [if_pos c4] at H
  have c4b0 : decide ((wrap64 (a1 - a2)) < a0_1)=true:=decide_eq_true c4
  clear c4
  obtain rfl:=Option.some.inj H
  go_enter Tryd.func42,Tryd.ntmps42
  go_wp2_with (first|((with_reducible refine Yh (N:=3) rfl ?_);refine Ym ?hg (N:=3) ?hd (cs:=#[.int .i64 a0_0,.int .i64 a0_1,.int .i64 a0_2,.int .i64 a0_3,.int .i64 a0_4,.int .i64 a0_5,.int .i64 a0_6,.int .u8 a0_7]) (t:=51) ?hr ?_;(case hd => rfl);(case hg => rfl);(case hr => first|(go_simp;done)|(go_simp;rfl));intro gb195 hg w5 hbox hb;have n0_:=Zf.mk (Zm (by repeat (first|(with_reducible first|exact HB.out|apply Ze|apply Zc|apply Zd)|exact HB.out)) hb);have n1_:=Zf.mk (hbox);have n2_:=Zf.mk ((by rw [hg];exact (Zo (by repeat (first|(with_reducible first|exact HB.out|apply Ze|apply Zc|apply Zd)|exact HB.out))) : w.heap.size≤gb195));have n3_:=Zf.mk ((by rw [hg];exact (Zo (by repeat (first|(with_reducible first|exact HB.out|apply Ze|apply Zc|apply Zd)|exact HB.out))) : w.heap.size≤gb195));clear HB;have HB:=n0_;have BK195:=n1_;have GW195:=n2_;have GE195:=n3_;clear n0_ n1_ n2_ n3_;clear hb hbox hg;have hcz6_0 : w5.cell? ⟨gb195,0,none⟩=some (.int .i64 a0_0):=(Zb BK195.out 0).trans rfl;have hcz6_1 : w5.cell? ⟨gb195,1,none⟩=some (.int .i64 a0_1):=(Zb BK195.out 1).trans rfl;have hcz6_2 : w5.cell? ⟨gb195,2,none⟩=some (.int .i64 a0_2):=(Zb BK195.out 2).trans rfl;have hcz6_3 : w5.cell? ⟨gb195,3,none⟩=some (.int .i64 a0_3):=(Zb BK195.out 3).trans rfl;have hcz6_4 : w5.cell? ⟨gb195,4,none⟩=some (.int .i64 a0_4):=(Zb BK195.out 4).trans rfl;have hcz6_5 : w5.cell? ⟨gb195,5,none⟩=some (.int .i64 a0_5):=(Zb BK195.out 5).trans rfl;have hcz6_6 : w5.cell? ⟨gb195,6,none⟩=some (.int .i64 a0_6):=(Zb BK195.out 6).trans rfl;have hcz6_7 : w5.cell? ⟨gb195,7,none⟩=some (.int .u8 a0_7):=(Zb BK195.out 7).trans rfl;have hfz6_0:=Za BK195.out 0;have hfz6_1:=Za BK195.out 1;have hfz6_2:=Za BK195.out 2;have hfz6_3:=Za BK195.out 3;have hfz6_4:=Za BK195.out 4;have hfz6_5:=Za BK195.out 5;have hfz6_6:=Za BK195.out 6;have hfz6_7:=Za BK195.out 7))
  go_ret
  exact ⟨by first|rfl|(simp [Zp,Zq] <;> rfl)|(simp [*,Zp,Zq] <;> rfl),by repeat (first|(with_reducible first|exact HB.out|apply Ze|apply Zc|apply Zd|refine Zg ?_ GE195.out)|exact HB.out)⟩
 ·rw [if_neg c4] at H
  have c4b0 : decide ((wrap64 (a1 - a2)) < a0_1)=false:=decide_eq_false c4
  clear c4
  by_cases c7 : (wrap64 (a1 - a2)) > a0_2
  ·rw [if_pos c7] at H
   have c7b0 : decide (a0_2 < (wrap64 (a1 - a2)))=true:=decide_eq_true c7
   clear c7
   obtain rfl:=Option.some.inj H
   go_enter Tryd.func42,Tryd.ntmps42
   go_wp2_with (first|((with_reducible refine Yh (N:=3) rfl ?_);refine Ym ?hg (N:=3) ?hd (cs:=#[.int .i64 a0_0,.int .i64 a0_1,.int .i64 a0_2,.int .i64 a0_3,.int .i64 a0_4,.int .i64 a0_5,.int .i64 a0_6,.int .u8 a0_7]) (t:=51) ?hr ?_;(case hd => rfl);(case hg => rfl);(case hr => first|(go_simp;done)|(go_simp;rfl));intro gb195 hg w8 hbox hb;have n0_:=Zf.mk (Zm (by repeat (first|(with_reducible first|exact HB.out|apply Ze|apply Zc|apply Zd)|exact HB.out)) hb);have n1_:=Zf.mk (hbox);have n2_:=Zf.mk ((by rw [hg];exact (Zo (by repeat (first|(with_reducible first|exact HB.out|apply Ze|apply Zc|apply Zd)|exact HB.out))) : w.heap.size≤gb195));have n3_:=Zf.mk ((by rw [hg];exact (Zo (by repeat (first|(with_reducible first|exact HB.out|apply Ze|apply Zc|apply Zd)|exact HB.out))) : w.heap.size≤gb195));clear HB;have HB:=n0_;have BK195:=n1_;have GW195:=n2_;have GE195:=n3_;clear n0_ n1_ n2_ n3_;clear hb hbox hg;have hcz9_0 : w8.cell? ⟨gb195,0,none⟩=some (.int .i64 a0_0):=(Zb BK195.out 0).trans rfl;have hcz9_1 : w8.cell? ⟨gb195,1,none⟩=some (.int .i64 a0_1):=(Zb BK195.out 1).trans rfl;have hcz9_2 : w8.cell? ⟨gb195,2,none⟩=some (.int .i64 a0_2):=(Zb BK195.out 2).trans rfl;have hcz9_3 : w8.cell? ⟨gb195,3,none⟩=some (.int .i64 a0_3):=(Zb BK195.out 3).trans rfl;have hcz9_4 : w8.cell? ⟨gb195,4,none⟩=some (.int .i64 a0_4):=(Zb BK195.out 4).trans rfl;have hcz9_5 : w8.cell? ⟨gb195,5,none⟩=some (.int .i64 a0_5):=(Zb BK195.out 5).trans rfl;have hcz9_6 : w8.cell? ⟨gb195,6,none⟩=some (.int .i64 a0_6):=(Zb BK195.out 6).trans rfl;have hcz9_7 : w8.cell? ⟨gb195,7,none⟩=some (.int .u8 a0_7):=(Zb BK195.out 7).trans rfl;have hfz9_0:=Za BK195.out 0;have hfz9_1:=Za BK195.out 1;have hfz9_2:=Za BK195.out 2;have hfz9_3:=Za BK195.out 3;have hfz9_4:=Za BK195.out 4;have hfz9_5:=Za BK195.out 5;have hfz9_6:=Za BK195.out 6;have hfz9_7:=Za BK195.out 7))
   go_ret
   exact ⟨by first|rfl|(simp [Zp,Zq] <;> rfl)|(simp [*,Zp,Zq] <;> rfl),by repeat (first|(with_reducible first|exact HB.out|apply Ze|apply Zc|apply Zd|refine Zg ?_ GE195.out)|exact HB.out)⟩
  ·rw [if_neg c7] at H
   have c7b0 : decide (a0_2 < (wrap64 (a1 - a2)))=false:=decide_eq_false c7
   clear c7
   obtain rfl:=Option.some.inj H
   go_enter Tryd.func42,Tryd.ntmps42
   go_wp2_with (first|((with_reducible refine Yh (N:=3) rfl ?_);refine Ym ?hg (N:=3) ?hd (cs:=#[.int .i64 a0_0,.int .i64 a0_1,.int .i64 a0_2,.int .i64 a0_3,.int .i64 a0_4,.int .i64 a0_5,.int .i64 a0_6,.int .u8 a0_7]) (t:=51) ?hr ?_;(case hd => rfl);(case hg => rfl);(case hr => first|(go_simp;done)|(go_simp;rfl));intro gb195 hg w10 hbox hb;have n0_:=Zf.mk (Zm (by repeat (first|(with_reducible first|exact HB.out|apply Ze|apply Zc|apply Zd)|exact HB.out)) hb);have n1_:=Zf.mk (hbox);have n2_:=Zf.mk ((by rw [hg];exact (Zo (by repeat (first|(with_reducible first|exact HB.out|apply Ze|apply Zc|apply Zd)|exact HB.out))) : w.heap.size≤gb195));have n3_:=Zf.mk ((by rw [hg];exact (Zo (by repeat (first|(with_reducible first|exact HB.out|apply Ze|apply Zc|apply Zd)|exact HB.out))) : w.heap.size≤gb195));clear HB;have HB:=n0_;have BK195:=n1_;have GW195:=n2_;have GE195:=n3_;clear n0_ n1_ n2_ n3_;clear hb hbox hg;have hcz11_0 : w10.cell? ⟨gb195,0,none⟩=some (.int .i64 a0_0):=(Zb BK195.out 0).trans rfl;have hcz11_1 : w10.cell? ⟨gb195,1,none⟩=some (.int .i64 a0_1):=(Zb BK195.out 1).trans rfl;have hcz11_2 : w10.cell? ⟨gb195,2,none⟩=some (.int .i64 a0_2):=(Zb BK195.out 2).trans rfl;have hcz11_3 : w10.cell? ⟨gb195,3,none⟩=some (.int .i64 a0_3):=(Zb BK195.out 3).trans rfl;have hcz11_4 : w10.cell? ⟨gb195,4,none⟩=some (.int .i64 a0_4):=(Zb BK195.out 4).trans rfl;have hcz11_5 : w10.cell? ⟨gb195,5,none⟩=some (.int .i64 a0_5):=(Zb BK195.out 5).trans rfl;have hcz11_6 : w10.cell? ⟨gb195,6,none⟩=some (.int .i64 a0_6):=(Zb BK195.out 6).trans rfl;have hcz11_7 : w10.cell? ⟨gb195,7,none⟩=some (.int .u8 a0_7):=(Zb BK195.out 7).trans rfl;have hfz11_0:=Za BK195.out 0;have hfz11_1:=Za BK195.out 1;have hfz11_2:=Za BK195.out 2;have hfz11_3:=Za BK195.out 3;have hfz11_4:=Za BK195.out 4;have hfz11_5:=Za BK195.out 5;have hfz11_6:=Za BK195.out 6;have hfz11_7:=Za BK195.out 7))
   go_ret
   exact ⟨by first|rfl|(simp [Zp,Zq] <;> rfl)|(simp [*,Zp,Zq] <;> rfl),by repeat (first|(with_reducible first|exact HB.out|apply Ze|apply Zc|apply Zd|refine Zg ?_ GE195.out)|exact HB.out)⟩
end Go.Proofs.YtmjlkifmbhaiiaaDoorQ.Pw
end
