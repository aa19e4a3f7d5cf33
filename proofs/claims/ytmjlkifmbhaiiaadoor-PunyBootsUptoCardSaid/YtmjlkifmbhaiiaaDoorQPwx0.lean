/- What these functions of the program compute, and that they compute it: printed by wip/tools/orac.py over the kit's print.py; merged. -/
import Derived.Test.YtmjlkifmbhaiiaaDoorProg
import Derived.Below
import Derived.Deep.Draws
import Derived.Deep.AppendLies
import Derived.Maps.AppendAt
import Derived.OwnWalk
import Derived.Laws.BytesArg
import Derived.Laws.MakeOwn
import Derived.Laws.OwnMore
import Derived.Deep.OwnRows
import Derived.Tactics
import Derived.Lib.ConvBytes
import Derived.Laws.Slices
import Derived.WalkKit
import Derived.KernelRfl
import Derived.RowKit3
import Derived.Deep.LoopGhost
import Derived.Deep.QuietTactic
import Derived.BigQuiet
import Derived.WideLaws
import Derived.Deep.DeepCutAuto
import Derived.Deep.CutBlock
import Derived.Deep.RegionHeld3
import Derived.Laws.Rows
import Derived.Lib.AppendStr
import Derived.ArgAppend
import Derived.Laws.IdiomCopy
import Derived.OrdersHeld
import Derived.Laws.BitsLemmas
import Derived.RowKit
import Derived.Test.YtmjlkifmbhaiiaaDoorPunF
import Derived.Test.YtmjlkifmbhaiiaaDoorPunN
import Derived.Test.YtmjlkifmbhaiiaaDoorPunC
import Derived.Test.YtmjlkifmbhaiiaaDoorWWords
import Derived.Test.YtmjlkifmbhaiiaaDoorWLast
import Derived.Test.YtmjlkifmbhaiiaaDoorWTab
import Derived.Test.YtmjlkifmbhaiiaaDoorWQPut
import Derived.Test.YtmjlkifmbhaiiaaDoorWApart
import Derived.Test.YtmjlkifmbhaiiaaDoorWFoot
import Derived.Test.YtmjlkifmbhaiiaaDoorWKept
import Derived.Test.YtmjlkifmbhaiiaaDoorWShare
import Derived.Test.YtmjlkifmbhaiiaaDoorWN
import Derived.Laws.StructEq
import Derived.Test.YtmjlkifmbhaiiaaDoorWRepsOne
import Derived.Test.YtmjlkifmbhaiiaaDoorWInv
import Derived.Test.YtmjlkifmbhaiiaaDoorWGuard
import Derived.Test.YtmjlkifmbhaiiaaDoorWMore
import Derived.SizedLaws
import Derived.ChangeSlices
section
namespace Go.Proofs.YtmjlkifmbhaiiaaDoorQ.Pw
open Go.RowKit Go.Proofs.YtmjlkifmbhaiiaaDoorW.PrintWords Go.Proofs.YtmjlkifmbhaiiaaDoorW.PrintLast Go.Proofs.YtmjlkifmbhaiiaaDoorW.PrintMore
attribute [local go_sem] Go.Proofs.YtmjlkifmbhaiiaaDoor.Ye
attribute [local go_sem] max2_int min2_int max_two min_two max_three min_three max_four min_four   -- for this text's walks alone
set_option linter.unusedVariables false
set_option linter.unusedSimpArgs false
def errW : Option Int→Value
 | none => .nilIface
 | some c => .iface 0 (.int .i64 c)
theorem Zp : errW none=.nilIface:=rfl
theorem Zq (c : Int) : errW (some c)=.iface 0 (.int .i64 c):=rfl
theorem info5 : (Tryd.prog.info? 5).map (fun i => (i.zero,i.size,i.bytes))=some (some (.int .u8 0),1,1):=by kernel_rfl
theorem info21 : (Tryd.prog.info? 21).map (fun i => (i.zero,i.size,i.bytes))=some (some (.int .i32 0),1,4):=by kernel_rfl
-- the values' own types
/-! #### struct type 59 -/
structure S59 where
 f0 : Int
 f1 : Int
 f2 : Int
 f3 : Int
 f4 : Int
 f5 : Int
 f6 : Int
 f7 : Int
/-! #### struct type 48 -/
structure S48 where
 f0 : Int
 f1 : Int
 f2 : Int
 f3 : Int
 f4 : Int
 f5 : Int
 f6 : Int
 f7 : Int
end Go.Proofs.YtmjlkifmbhaiiaaDoorQ.Pw
end
section
namespace Go.Proofs.YtmjlkifmbhaiiaaDoorQ.Pw
open Go.RowKit Go.Proofs.YtmjlkifmbhaiiaaDoorW.PrintWords Go.Proofs.YtmjlkifmbhaiiaaDoorW.PrintLast Go.Proofs.YtmjlkifmbhaiiaaDoorW.PrintMore
attribute [local go_sem] Go.Proofs.YtmjlkifmbhaiiaaDoor.Ye
attribute [local go_sem] max2_int min2_int max_two min_two max_three min_three max_four min_four   -- for this text's walks alone
set_option linter.unusedVariables false
set_option linter.unusedSimpArgs false
/-! ### puny_Usual: function 31 -/
def puny_Usual.f  : Option (Int × Int × Int × Int × Int × Int × Int × Int):=some (36,1,26,38,700,72,128,45)
set_option maxHeartbeats 8000000 in
set_option maxRecDepth 100000 in
theorem puny_Usual.calls  (r1 : Int) (r2 : Int) (r3 : Int) (r4 : Int) (r5 : Int) (r6 : Int) (r7 : Int) (r8 : Int) (w : World) (h : puny_Usual.f =some (r1,r2,r3,r4,r5,r6,r7,r8)) :
  Calls Tryd.prog 31 #[] w fun e w' => e=.returned (.agg #[.int .i64 r1,.int .i64 r2,.int .i64 r3,.int .i64 r4,.int .i64 r5,.int .i64 r6,.int .i64 r7,.int .u8 r8])∧Below w.heap.size w w':=by
 have hu48:=Tryd.underlying48
 have HB:=Zf.mk (Below.refl w.heap.size w)
 have H : (some (36,1,26,38,700,72,128,45))=some (r1,r2,r3,r4,r5,r6,r7,r8):=h
 clear h
 simp only [Option.some.injEq,Prod.mk.injEq] at H
 obtain ⟨rfl,rfl,rfl,rfl,rfl,rfl,rfl,rfl⟩:=H
 go_enter Tryd.func31,Tryd.ntmps31
 go_wp2_with (first|((with_reducible refine Yh (N:=0) rfl ?_);refine Ym ?hg (N:=0) ?hd (cs:=#[.int .i64 0,.int .i64 0,.int .i64 0,.int .i64 0,.int .i64 0,.int .i64 0,.int .i64 0,.int .u8 0]) (t:=48) ?hr ?_;(case hd => rfl);(case hg => rfl);(case hr => first|(go_simp;done)|(go_simp;rfl));intro gb101 hg w1 hbox hb;have n0_:=Zf.mk (Zm (by repeat (first|(with_reducible first|exact HB.out|apply Ze|apply Zc|apply Zd)|exact HB.out)) hb);have n1_:=Zf.mk (hbox);have n2_:=Zf.mk ((by rw [hg];exact (Zo (by repeat (first|(with_reducible first|exact HB.out|apply Ze|apply Zc|apply Zd)|exact HB.out))) : w.heap.size≤gb101));have n3_:=Zf.mk ((by rw [hg];exact (Zo (by repeat (first|(with_reducible first|exact HB.out|apply Ze|apply Zc|apply Zd)|exact HB.out))) : w.heap.size≤gb101));clear HB;have HB:=n0_;have BK101:=n1_;have GW101:=n2_;have GE101:=n3_;clear n0_ n1_ n2_ n3_;clear hb hbox hg;have hcz2_0 : w1.cell? ⟨gb101,0,none⟩=some (.int .i64 0):=(Zb BK101.out 0).trans rfl;have hcz2_1 : w1.cell? ⟨gb101,1,none⟩=some (.int .i64 0):=(Zb BK101.out 1).trans rfl;have hcz2_2 : w1.cell? ⟨gb101,2,none⟩=some (.int .i64 0):=(Zb BK101.out 2).trans rfl;have hcz2_3 : w1.cell? ⟨gb101,3,none⟩=some (.int .i64 0):=(Zb BK101.out 3).trans rfl;have hcz2_4 : w1.cell? ⟨gb101,4,none⟩=some (.int .i64 0):=(Zb BK101.out 4).trans rfl;have hcz2_5 : w1.cell? ⟨gb101,5,none⟩=some (.int .i64 0):=(Zb BK101.out 5).trans rfl;have hcz2_6 : w1.cell? ⟨gb101,6,none⟩=some (.int .i64 0):=(Zb BK101.out 6).trans rfl;have hcz2_7 : w1.cell? ⟨gb101,7,none⟩=some (.int .u8 0):=(Zb BK101.out 7).trans rfl;have hfz2_0:=Za BK101.out 0;have hfz2_1:=Za BK101.out 1;have hfz2_2:=Za BK101.out 2;have hfz2_3:=Za BK101.out 3;have hfz2_4:=Za BK101.out 4;have hfz2_5:=Za BK101.out 5;have hfz2_6:=Za BK101.out 6;have hfz2_7:=Za BK101.out 7))
 refine bodyPost_ret (results_cell_row rfl _ _ gb101 48 #[.int .i64 36,.int .i64 1,.int .i64 26,.int .i64 38,.int .i64 700,.int .i64 72,.int .i64 128,.int .u8 45] (0,0) _ rfl (by (with_reducible repeat (first|refine Zk ?_ _|refine Zn ?_|refine Zl ?_ _));refine blk_put (cs:=#[.int .i64 36,.int .i64 1,.int .i64 26,.int .i64 38,.int .i64 700,.int .i64 72,.int .i64 128,.int .u8 0]) ?_ 7 _ rfl;(with_reducible repeat (first|refine Zk ?_ _|refine Zn ?_|refine Zl ?_ _));refine blk_put (cs:=#[.int .i64 36,.int .i64 1,.int .i64 26,.int .i64 38,.int .i64 700,.int .i64 72,.int .i64 0,.int .u8 0]) ?_ 6 _ rfl;(with_reducible repeat (first|refine Zk ?_ _|refine Zn ?_|refine Zl ?_ _));refine blk_put (cs:=#[.int .i64 36,.int .i64 1,.int .i64 26,.int .i64 38,.int .i64 700,.int .i64 0,.int .i64 0,.int .u8 0]) ?_ 5 _ rfl;(with_reducible repeat (first|refine Zk ?_ _|refine Zn ?_|refine Zl ?_ _));refine blk_put (cs:=#[.int .i64 36,.int .i64 1,.int .i64 26,.int .i64 38,.int .i64 0,.int .i64 0,.int .i64 0,.int .u8 0]) ?_ 4 _ rfl;(with_reducible repeat (first|refine Zk ?_ _|refine Zn ?_|refine Zl ?_ _));refine blk_put (cs:=#[.int .i64 36,.int .i64 1,.int .i64 26,.int .i64 0,.int .i64 0,.int .i64 0,.int .i64 0,.int .u8 0]) ?_ 3 _ rfl;(with_reducible repeat (first|refine Zk ?_ _|refine Zn ?_|refine Zl ?_ _));refine blk_put (cs:=#[.int .i64 36,.int .i64 1,.int .i64 0,.int .i64 0,.int .i64 0,.int .i64 0,.int .i64 0,.int .u8 0]) ?_ 2 _ rfl;(with_reducible repeat (first|refine Zk ?_ _|refine Zn ?_|refine Zl ?_ _));refine blk_put (cs:=#[.int .i64 36,.int .i64 0,.int .i64 0,.int .i64 0,.int .i64 0,.int .i64 0,.int .i64 0,.int .u8 0]) ?_ 1 _ rfl;(with_reducible repeat (first|refine Zk ?_ _|refine Zn ?_|refine Zl ?_ _));refine blk_put (cs:=#[.int .i64 0,.int .i64 0,.int .i64 0,.int .i64 0,.int .i64 0,.int .i64 0,.int .i64 0,.int .u8 0]) ?_ 0 _ rfl;(with_reducible repeat (first|refine Zk ?_ _|refine Zn ?_|refine Zl ?_ _));exact BK101.out) Tryd.underlying48 rfl (by kernel_rfl)) rfl ?_
 exact ⟨by first|rfl|(simp [Zp,Zq] <;> rfl)|(simp [*,Zp,Zq] <;> rfl),by repeat (first|(with_reducible first|exact HB.out|apply Ze|apply Zc|apply Zd|refine Zg ?_ GE101.out)|exact HB.out)⟩
/-! ### Z7: function 35,by a contract of this repo -/
section
open Go.Proofs.YtmjlkifmbhaiiaaDoor
def Z7.f (a0_0 : Int) (a0_1 : Int) (a0_2 : Int) (a0_3 : Int) (a0_4 : Int) (a0_5 : Int) (a0_6 : Int) (a0_7 : Int) (a1 : ByteArray) : Option (List Int × Int × Int):=decF ⟨a0_0,a0_1,a0_2,a0_3,a0_4,a0_5,a0_6,a0_7⟩ a1
theorem Z7.calls (a0_0 : Int) (a0_1 : Int) (a0_2 : Int) (a0_3 : Int) (a0_4 : Int) (a0_5 : Int) (a0_6 : Int) (a0_7 : Int) (a1 : ByteArray) (r1 : List Int) (r2 : Int) (r3 : Int) (w : World) (h : Z7.f a0_0 a0_1 a0_2 a0_3 a0_4 a0_5 a0_6 a0_7 a1=some (r1,r2,r3)) (T_ : Tabs w) :
  Calls Tryd.prog 35 #[.agg #[.int .i64 a0_0,.int .i64 a0_1,.int .i64 a0_2,.int .i64 a0_3,.int .i64 a0_4,.int .i64 a0_5,.int .i64 a0_6,.int .u8 a0_7],.string a1] w fun e w' => ∃ v0_ : Value,e=.returned (.tuple #[v0_,.int .i64 r2,.int .i64 r3])∧Kd.R (Kd.int .i32) 21 w' w.heap.size (fun _ => True) v0_ r1∧Below w.heap.size w w' :=
 dec_calls ⟨a0_0,a0_1,a0_2,a0_3,a0_4,a0_5,a0_6,a0_7⟩ a1 r1 r2 r3 w h T_
end
end Go.Proofs.YtmjlkifmbhaiiaaDoorQ.Pw
end
section
namespace Go.Proofs.YtmjlkifmbhaiiaaDoorQ.Pw
open Go.RowKit Go.Proofs.YtmjlkifmbhaiiaaDoorW.PrintWords Go.Proofs.YtmjlkifmbhaiiaaDoorW.PrintLast Go.Proofs.YtmjlkifmbhaiiaaDoorW.PrintMore
attribute [local go_sem] Go.Proofs.YtmjlkifmbhaiiaaDoor.Ye
attribute [local go_sem] max2_int min2_int max_two min_two max_three min_three max_four min_four   -- for this text's walks alone
set_option linter.unusedVariables false
set_option linter.unusedSimpArgs false
/-! ### Zt: function 37 -/
mutual
def Zt.j0 : Nat→Int→Int→Int→Int→Int→Int→Int→Int→Int→Int→Option (Int)
 | 0,_,_,_,_,_,_,_,_,_,_ => none
 | k + 1,x1,x2,x103000,x103001,x103002,x103003,x103004,x103005,x103006,x103007 => if x2=0 then (none) else (Zt.l0 k (wrap64 (x1 + (wrap64 (Int.tdiv x1 x2)))) (wrap64 (x103000 - x103001)) 0 x103000 x103001 x103002 x103003 x103004 x103005 x103006 x103007)
def Zt.l0 : Nat→Int→Int→Int→Int→Int→Int→Int→Int→Int→Int→Int→Option (Int)
 | 0,_,_,_,_,_,_,_,_,_,_,_ => none
 | k + 1,x1,x9,x10,x103000,x103001,x103002,x103003,x103004,x103005,x103006,x103007 => if x1 > (wrap64 (Int.tdiv (wrap64 (x9 * x103002)) 2)) then (if x9=0 then (none) else (Zt.l0 k (wrap64 (Int.tdiv x1 x9)) x9 (wrap64 (x10 + x103000)) x103000 x103001 x103002 x103003 x103004 x103005 x103006 x103007)) else (if (wrap64 (x1 + x103003))=0 then (none) else (some (wrap64 (x10 + (wrap64 (Int.tdiv (wrap64 ((wrap64 (x9 + 1)) * x1)) (wrap64 (x1 + x103003))))))))
end
def Zt.f (k : Nat) (a0_0 : Int) (a0_1 : Int) (a0_2 : Int) (a0_3 : Int) (a0_4 : Int) (a0_5 : Int) (a0_6 : Int) (a0_7 : Int) (a1 : Int) (a2 : Int) (a3 : Bool) : Option (Int):=if a3=true then (if a0_4=0 then (none) else (Zt.j0 k (wrap64 (Int.tdiv a1 a0_4)) a2 a0_0 a0_1 a0_2 a0_3 a0_4 a0_5 a0_6 a0_7)) else (Zt.j0 k (wrap64 (Int.tdiv a1 2)) a2 a0_0 a0_1 a0_2 a0_3 a0_4 a0_5 a0_6 a0_7)
set_option maxHeartbeats 8000000 in
set_option maxRecDepth 100000 in
theorem Zt.calls (k : Nat) (a0_0 : Int) (a0_1 : Int) (a0_2 : Int) (a0_3 : Int) (a0_4 : Int) (a0_5 : Int) (a0_6 : Int) (a0_7 : Int) (a1 : Int) (a2 : Int) (a3 : Bool) (r : Int) (w : World) (h : Zt.f k a0_0 a0_1 a0_2 a0_3 a0_4 a0_5 a0_6 a0_7 a1 a2 a3=some r) :
  Calls Tryd.prog 37 #[.agg #[.int .i64 a0_0,.int .i64 a0_1,.int .i64 a0_2,.int .i64 a0_3,.int .i64 a0_4,.int .i64 a0_5,.int .i64 a0_6,.int .u8 a0_7],.int .i64 a1,.int .i64 a2,.bool a3] w fun e w' => e=.returned (.int .i64 r)∧Below w.heap.size w w':=by
 have hu59:=Tryd.underlying59
 have HB:=Zf.mk (Below.refl w.heap.size w)
 have H : (if a3=true then (if a0_4=0 then (none) else (Zt.j0 k (wrap64 (Int.tdiv a1 a0_4)) a2 a0_0 a0_1 a0_2 a0_3 a0_4 a0_5 a0_6 a0_7)) else (Zt.j0 k (wrap64 (Int.tdiv a1 2)) a2 a0_0 a0_1 a0_2 a0_3 a0_4 a0_5 a0_6 a0_7))=some r:=h
 clear h
 have HC5:=Zf.mk H
 clear H
 go_enter Tryd.func37,Tryd.ntmps37
 go_upto_if 11 with (first|((with_reducible refine Yh (N:=4) rfl ?_);refine Ym ?hg (N:=4) ?hd (cs:=#[.int .i64 a0_0,.int .i64 a0_1,.int .i64 a0_2,.int .i64 a0_3,.int .i64 a0_4,.int .i64 a0_5,.int .i64 a0_6,.int .u8 a0_7]) (t:=59) ?hr ?_;(case hd => rfl);(case hg => rfl);(case hr => first|(go_simp;done)|(go_simp;rfl));intro gb102 hg w6 hbox hb;have n0_:=Zf.mk (Zm (by repeat (first|(with_reducible first|exact HB.out|apply Ze|apply Zc|apply Zd)|exact HB.out)) hb);have n1_:=Zf.mk (hbox);have n2_:=Zf.mk ((by rw [hg];exact (Zo (by repeat (first|(with_reducible first|exact HB.out|apply Ze|apply Zc|apply Zd)|exact HB.out))) : w.heap.size≤gb102));have n3_:=Zf.mk ((by rw [hg];exact (Zo (by repeat (first|(with_reducible first|exact HB.out|apply Ze|apply Zc|apply Zd)|exact HB.out))) : w.heap.size≤gb102));clear HB;have HB:=n0_;have BK102:=n1_;have GW102:=n2_;have GE102:=n3_;clear n0_ n1_ n2_ n3_;clear hb hbox hg))
 (try simp only [Act.put,List.setIfInBounds_toArray,List.set_cons_zero,List.set_cons_succ])
 go_cut [1] (fun v1 wc => ∃ (kq : Nat) (x1_4 : Int),v1=.int .i64 x1_4∧Zf (Zt.j0 kq x1_4 a2 a0_0 a0_1 a0_2 a0_3 a0_4 a0_5 a0_6 a0_7=some r)∧Zf (kq≤k)∧Zf (wc.heap[gb102]?=some (.cells #[.int .i64 a0_0,.int .i64 a0_1,.int .i64 a0_2,.int .i64 a0_3,.int .i64 a0_4,.int .i64 a0_5,.int .i64 a0_6,.int .u8 a0_7] 59 (0,0)))∧Zf (Below w.heap.size w wc))
 case first =>
  have H:=HC5.out
  clear HC5
  by_cases c7 : a3=true
  ·subst c7
   have H1 : (if a0_4=0 then (none) else (Zt.j0 k (wrap64 (Int.tdiv a1 a0_4)) a2 a0_0 a0_1 a0_2 a0_3 a0_4 a0_5 a0_6 a0_7))=some r:=by rw [if_pos rfl] at H;exact H
   clear H
   have H:=H1
   clear H1
   by_cases c8 : a0_4=0
   ·rw [if_pos c8] at H
    exact absurd H (by simp)
   ·rw [if_neg c8] at H
    have c8b0 : (a0_4 == 0)=false:=beq_eq_false_iff_ne.mpr c8
    have c8b1 : (a0_4 != 0)=true:=bne_iff_ne.mpr c8
    (first|rw [c8b0]|rw [c8b1]|(simp only [i64_w,i32_w];rw [c8b0])|skip)
    have H':=Zf.mk H
    clear H
    have hcz9_0 : w6.cell? ⟨gb102,0,none⟩=some (.int .i64 a0_0):=(Zb BK102.out 0).trans rfl
    have hcz9_1 : w6.cell? ⟨gb102,1,none⟩=some (.int .i64 a0_1):=(Zb BK102.out 1).trans rfl
    have hcz9_2 : w6.cell? ⟨gb102,2,none⟩=some (.int .i64 a0_2):=(Zb BK102.out 2).trans rfl
    have hcz9_3 : w6.cell? ⟨gb102,3,none⟩=some (.int .i64 a0_3):=(Zb BK102.out 3).trans rfl
    have hcz9_4 : w6.cell? ⟨gb102,4,none⟩=some (.int .i64 a0_4):=(Zb BK102.out 4).trans rfl
    have hcz9_5 : w6.cell? ⟨gb102,5,none⟩=some (.int .i64 a0_5):=(Zb BK102.out 5).trans rfl
    have hcz9_6 : w6.cell? ⟨gb102,6,none⟩=some (.int .i64 a0_6):=(Zb BK102.out 6).trans rfl
    have hcz9_7 : w6.cell? ⟨gb102,7,none⟩=some (.int .u8 a0_7):=(Zb BK102.out 7).trans rfl
    have hfz9_0:=Za BK102.out 0
    have hfz9_1:=Za BK102.out 1
    have hfz9_2:=Za BK102.out 2
    have hfz9_3:=Za BK102.out 3
    have hfz9_4:=Za BK102.out 4
    have hfz9_5:=Za BK102.out 5
    have hfz9_6:=Za BK102.out 6
    have hfz9_7:=Za BK102.out 7
    go_wp2
    go_meet
    case rel => exact ⟨_,(wrap64 (Int.tdiv a1 a0_4)),(by first|rfl|(simp;done)|(simp [*];done)),H',⟨by first|omega|exact Nat.le_refl _⟩,⟨by (with_reducible repeat (first|refine Zk ?_ _|refine Zn ?_|refine Zl ?_ _));exact BK102.out⟩,⟨by repeat (first|(with_reducible first|exact HB.out|apply Ze|apply Zc|apply Zd|refine Zg ?_ GE102.out)|exact HB.out)⟩⟩
  ·replace c7:=Bool.eq_false_iff.mpr c7
   subst c7
   have H1 : (Zt.j0 k (wrap64 (Int.tdiv a1 2)) a2 a0_0 a0_1 a0_2 a0_3 a0_4 a0_5 a0_6 a0_7)=some r:=by rw [if_neg (show ¬ (false=true) by decide)] at H;exact H
   clear H
   have H:=H1
   clear H1
   have H':=Zf.mk H
   clear H
   go_wp2
   go_meet
   case rel => exact ⟨_,(wrap64 (Int.tdiv a1 2)),(by first|rfl|(simp;done)|(simp [*];done)),H',⟨by first|omega|exact Nat.le_refl _⟩,⟨by (with_reducible repeat (first|refine Zk ?_ _|refine Zn ?_|refine Zl ?_ _));exact BK102.out⟩,⟨by repeat (first|(with_reducible first|exact HB.out|apply Ze|apply Zc|apply Zd|refine Zg ?_ GE102.out)|exact HB.out)⟩⟩
 case rest =>
  clear HC5
  try clear p2
  try clear c3
  try clear p6
  try clear c7
  try clear c8
  try clear c8b0
  try clear c8b1
  try clear hcz9_0
  try clear hcz9_1
  try clear hcz9_2
  try clear hcz9_3
  try clear hcz9_4
  try clear hcz9_5
  try clear hcz9_6
  try clear hcz9_7
  try clear hfz9_0
  try clear hfz9_1
  try clear hfz9_2
  try clear hfz9_3
  try clear hfz9_4
  try clear hfz9_5
  try clear hfz9_6
  try clear hfz9_7
  obtain ⟨kq,x1_4,rfl,HA,HJ4,BK102,HB⟩:=hcut
  cases kq with
  | zero => exact absurd HA.out (by simp [Zt.j0])
  | succ kj4 =>
   have H:=HA.out
   clear HA
   simp only [Zt.j0] at H
   by_cases c10 : a2=0
   ·rw [if_pos c10] at H
    exact absurd H (by simp)
   ·rw [if_neg c10] at H
    have c10b0 : (a2 == 0)=false:=beq_eq_false_iff_ne.mpr c10
    have c10b1 : (a2 != 0)=true:=bne_iff_ne.mpr c10
    have H':=Zf.mk H
    clear H
    have hcz11_0 : wc.cell? ⟨gb102,0,none⟩=some (.int .i64 a0_0):=(Zb BK102.out 0).trans rfl
    have hcz11_1 : wc.cell? ⟨gb102,1,none⟩=some (.int .i64 a0_1):=(Zb BK102.out 1).trans rfl
    have hcz11_2 : wc.cell? ⟨gb102,2,none⟩=some (.int .i64 a0_2):=(Zb BK102.out 2).trans rfl
    have hcz11_3 : wc.cell? ⟨gb102,3,none⟩=some (.int .i64 a0_3):=(Zb BK102.out 3).trans rfl
    have hcz11_4 : wc.cell? ⟨gb102,4,none⟩=some (.int .i64 a0_4):=(Zb BK102.out 4).trans rfl
    have hcz11_5 : wc.cell? ⟨gb102,5,none⟩=some (.int .i64 a0_5):=(Zb BK102.out 5).trans rfl
    have hcz11_6 : wc.cell? ⟨gb102,6,none⟩=some (.int .i64 a0_6):=(Zb BK102.out 6).trans rfl
    have hcz11_7 : wc.cell? ⟨gb102,7,none⟩=some (.int .u8 a0_7):=(Zb BK102.out 7).trans rfl
    have hfz11_0:=Za BK102.out 0
    have hfz11_1:=Za BK102.out 1
    have hfz11_2:=Za BK102.out 2
    have hfz11_3:=Za BK102.out 3
    have hfz11_4:=Za BK102.out 4
    have hfz11_5:=Za BK102.out 5
    have hfz11_6:=Za BK102.out 6
    have hfz11_7:=Za BK102.out 7
    go_wp2
    go_loopg [1,10] kj4 (fun kq v1 v10 w' => ∃ (x1_2 : Int) (x10_2 : Int),v1=.int .i64 x1_2∧v10=.int .i64 x10_2∧Zf (Zt.l0 kq x1_2 (wrap64 (a0_0 - a0_1)) x10_2 a0_0 a0_1 a0_2 a0_3 a0_4 a0_5 a0_6 a0_7=some r)∧Zf (kq≤kj4)∧Zf (w'.heap[gb102]?=some (.cells #[.int .i64 a0_0,.int .i64 a0_1,.int .i64 a0_2,.int .i64 a0_3,.int .i64 a0_4,.int .i64 a0_5,.int .i64 a0_6,.int .u8 a0_7] 59 (0,0)))∧Zf (Below w.heap.size w w'))
    case atStart => exact ⟨(wrap64 (x1_4 + (wrap64 (Int.tdiv x1_4 a2)))),(0),(by first|rfl|(simp;done)|(simp [*];done)),(by first|rfl|(simp;done)|(simp [*];done)),H',⟨Nat.le_refl _⟩,⟨by (with_reducible repeat (first|refine Zk ?_ _|refine Zn ?_|refine Zl ?_ _));exact BK102.out⟩,⟨by repeat (first|(with_reducible first|exact HB.out|apply Ze|apply Zc|apply Zd|refine Zg ?_ GE102.out)|exact HB.out)⟩⟩
    case round =>
     clear H'
     try clear c1
     try clear p2
     try clear c3
     try clear p6
     try clear c7
     try clear c8
     try clear c8b0
     try clear c8b1
     try clear c10
     try clear c10b0
     try clear c10b1
     try clear hcz11_0
     try clear hcz11_1
     try clear hcz11_2
     try clear hcz11_3
     try clear hcz11_4
     try clear hcz11_5
     try clear hcz11_6
     try clear hcz11_7
     try clear hcz9_0
     try clear hcz9_1
     try clear hcz9_2
     try clear hcz9_3
     try clear hcz9_4
     try clear hcz9_5
     try clear hcz9_6
     try clear hcz9_7
     try clear hfz11_0
     try clear hfz11_1
     try clear hfz11_2
     try clear hfz11_3
     try clear hfz11_4
     try clear hfz11_5
     try clear hfz11_6
     try clear hfz11_7
     try clear hfz9_0
     try clear hfz9_1
     try clear hfz9_2
     try clear hfz9_3
     try clear hfz9_4
     try clear hfz9_5
     try clear hfz9_6
     try clear hfz9_7
     try clear p2
     try clear p6
     obtain ⟨x1_2,x10_2,rfl,rfl,HA,HK2,BK102,HB⟩:=hrel
     cases gk with
     | zero => exact absurd HA.out (by simp [Zt.l0])
     | succ k2 =>
      have H:=HA.out
      clear HA
      simp only [Zt.l0] at H
      by_cases c12 : x1_2 > (wrap64 (Int.tdiv (wrap64 ((wrap64 (a0_0 - a0_1)) * a0_2)) 2))
      ·rw [if_pos c12] at H
       have c12b0 : decide ((wrap64 (Int.tdiv (wrap64 ((wrap64 (a0_0 - a0_1)) * a0_2)) 2)) < x1_2)=true:=decide_eq_true c12
       clear c12
       by_cases c13 : (wrap64 (a0_0 - a0_1))=0
       ·rw [if_pos c13] at H
        exact absurd H (by simp)
       ·rw [if_neg c13] at H
        have c13b0 : ((wrap64 (a0_0 - a0_1)) == 0)=false:=beq_eq_false_iff_ne.mpr c13
        have c13b1 : ((wrap64 (a0_0 - a0_1)) != 0)=true:=bne_iff_ne.mpr c13
        have H':=Zf.mk H
        clear H
        have hcz14_0 : wr.cell? ⟨gb102,0,none⟩=some (.int .i64 a0_0):=(Zb BK102.out 0).trans rfl
        have hcz14_1 : wr.cell? ⟨gb102,1,none⟩=some (.int .i64 a0_1):=(Zb BK102.out 1).trans rfl
        have hcz14_2 : wr.cell? ⟨gb102,2,none⟩=some (.int .i64 a0_2):=(Zb BK102.out 2).trans rfl
        have hcz14_3 : wr.cell? ⟨gb102,3,none⟩=some (.int .i64 a0_3):=(Zb BK102.out 3).trans rfl
        have hcz14_4 : wr.cell? ⟨gb102,4,none⟩=some (.int .i64 a0_4):=(Zb BK102.out 4).trans rfl
        have hcz14_5 : wr.cell? ⟨gb102,5,none⟩=some (.int .i64 a0_5):=(Zb BK102.out 5).trans rfl
        have hcz14_6 : wr.cell? ⟨gb102,6,none⟩=some (.int .i64 a0_6):=(Zb BK102.out 6).trans rfl
        have hcz14_7 : wr.cell? ⟨gb102,7,none⟩=some (.int .u8 a0_7):=(Zb BK102.out 7).trans rfl
        have hfz14_0:=Za BK102.out 0
        have hfz14_1:=Za BK102.out 1
        have hfz14_2:=Za BK102.out 2
        have hfz14_3:=Za BK102.out 3
        have hfz14_4:=Za BK102.out 4
        have hfz14_5:=Za BK102.out 5
        have hfz14_6:=Za BK102.out 6
        have hfz14_7:=Za BK102.out 7
        go_wp2
        go_roundg k2
        case measure => have:=HJ4.out;have:=HK2.out;omega
        case rel => exact ⟨(wrap64 (Int.tdiv x1_2 (wrap64 (a0_0 - a0_1)))),(wrap64 (x10_2 + a0_0)),(by first|rfl|(simp;done)|(simp [*];done)),(by first|rfl|(simp;done)|(simp [*];done)),H',⟨by have:=HJ4.out;have:=HK2.out;omega⟩,⟨by (with_reducible repeat (first|refine Zk ?_ _|refine Zn ?_|refine Zl ?_ _));exact BK102.out⟩,⟨by repeat (first|(with_reducible first|exact HB.out|apply Ze|apply Zc|apply Zd|refine Zg ?_ GE102.out)|exact HB.out)⟩⟩
      ·rw [if_neg c12] at H
       have c12b0 : decide ((wrap64 (Int.tdiv (wrap64 ((wrap64 (a0_0 - a0_1)) * a0_2)) 2)) < x1_2)=false:=decide_eq_false c12
       clear c12
       by_cases c15 : (wrap64 (x1_2 + a0_3))=0
       ·rw [if_pos c15] at H
        exact absurd H (by simp)
       ·rw [if_neg c15] at H
        have c15b0 : ((wrap64 (x1_2 + a0_3)) == 0)=false:=beq_eq_false_iff_ne.mpr c15
        have c15b1 : ((wrap64 (x1_2 + a0_3)) != 0)=true:=bne_iff_ne.mpr c15
        obtain rfl:=Option.some.inj H
        have hcz16_0 : wr.cell? ⟨gb102,0,none⟩=some (.int .i64 a0_0):=(Zb BK102.out 0).trans rfl
        have hcz16_1 : wr.cell? ⟨gb102,1,none⟩=some (.int .i64 a0_1):=(Zb BK102.out 1).trans rfl
        have hcz16_2 : wr.cell? ⟨gb102,2,none⟩=some (.int .i64 a0_2):=(Zb BK102.out 2).trans rfl
        have hcz16_3 : wr.cell? ⟨gb102,3,none⟩=some (.int .i64 a0_3):=(Zb BK102.out 3).trans rfl
        have hcz16_4 : wr.cell? ⟨gb102,4,none⟩=some (.int .i64 a0_4):=(Zb BK102.out 4).trans rfl
        have hcz16_5 : wr.cell? ⟨gb102,5,none⟩=some (.int .i64 a0_5):=(Zb BK102.out 5).trans rfl
        have hcz16_6 : wr.cell? ⟨gb102,6,none⟩=some (.int .i64 a0_6):=(Zb BK102.out 6).trans rfl
        have hcz16_7 : wr.cell? ⟨gb102,7,none⟩=some (.int .u8 a0_7):=(Zb BK102.out 7).trans rfl
        have hfz16_0:=Za BK102.out 0
        have hfz16_1:=Za BK102.out 1
        have hfz16_2:=Za BK102.out 2
        have hfz16_3:=Za BK102.out 3
        have hfz16_4:=Za BK102.out 4
        have hfz16_5:=Za BK102.out 5
        have hfz16_6:=Za BK102.out 6
        have hfz16_7:=Za BK102.out 7
        go_wp2
        go_ret
        exact ⟨by first|rfl|(simp [Zp,Zq] <;> rfl)|(simp [*,Zp,Zq] <;> rfl),by repeat (first|(with_reducible first|exact HB.out|apply Ze|apply Zc|apply Zd|refine Zg ?_ GE102.out)|exact HB.out)⟩
end Go.Proofs.YtmjlkifmbhaiiaaDoorQ.Pw
end
section
namespace Go.Proofs.YtmjlkifmbhaiiaaDoorQ.Pw
open Go.RowKit Go.Proofs.YtmjlkifmbhaiiaaDoorW.PrintWords Go.Proofs.YtmjlkifmbhaiiaaDoorW.PrintLast Go.Proofs.YtmjlkifmbhaiiaaDoorW.PrintMore
attribute [local go_sem] Go.Proofs.YtmjlkifmbhaiiaaDoor.Ye
attribute [local go_sem] max2_int min2_int max_two min_two max_three min_three max_four min_four   -- for this text's walks alone
set_option linter.unusedVariables false
set_option linter.unusedSimpArgs false
/-! ### puny_boot_check: function 44,by a contract of this repo -/
section
open Go.Proofs.YtmjlkifmbhaiiaaDoor
def puny_boot_check.f (a0_0 : Int) (a0_1 : Int) (a0_2 : Int) (a0_3 : Int) (a0_4 : Int) (a0_5 : Int) (a0_6 : Int) (a0_7 : Int) (l1 : List Int) : Option (Int × Int):=chkF ⟨a0_0,a0_1,a0_2,a0_3,a0_4,a0_5,a0_6,a0_7⟩ l1
theorem puny_boot_check.calls (a0_0 : Int) (a0_1 : Int) (a0_2 : Int) (a0_3 : Int) (a0_4 : Int) (a0_5 : Int) (a0_6 : Int) (a0_7 : Int) (A1 : Option Addr) (c1 : Nat) (l1 : List Int) (r1 : Int) (r2 : Int) (w : World) (hr1 : Kd.C (Kd.int .i32) w A1 l1.length l1) (hc1 : l1.length≤c1) (h : puny_boot_check.f a0_0 a0_1 a0_2 a0_3 a0_4 a0_5 a0_6 a0_7 l1=some (r1,r2)) :
  Calls Tryd.prog 44 #[.agg #[.int .i64 a0_0,.int .i64 a0_1,.int .i64 a0_2,.int .i64 a0_3,.int .i64 a0_4,.int .i64 a0_5,.int .i64 a0_6,.int .u8 a0_7],.slice A1 l1.length c1] w fun e w' => e=.returned (.tuple #[.int .i64 r1,.int .i64 r2])∧Below w.heap.size w w' :=
 chk_calls ⟨a0_0,a0_1,a0_2,a0_3,a0_4,a0_5,a0_6,a0_7⟩ A1 c1 l1 r1 r2 w hr1 h
end
/-! ### Yi: function 45 -/
def Yi.f (a0_0 : Int) (a0_1 : Int) (a0_2 : Int) (a0_3 : Int) (a0_4 : Int) (a0_5 : Int) (a0_6 : Int) (a0_7 : Int) (a1 : Int) : Option (Bool):=if (wrap64 (a1)) < a0_6 then (some (decide (a1 < 128))) else (some false)
set_option maxHeartbeats 8000000 in
set_option maxRecDepth 100000 in
theorem Yi.calls (a0_0 : Int) (a0_1 : Int) (a0_2 : Int) (a0_3 : Int) (a0_4 : Int) (a0_5 : Int) (a0_6 : Int) (a0_7 : Int) (a1 : Int) (r : Bool) (w : World) (h : Yi.f a0_0 a0_1 a0_2 a0_3 a0_4 a0_5 a0_6 a0_7 a1=some r) :
  Calls Tryd.prog 45 #[.agg #[.int .i64 a0_0,.int .i64 a0_1,.int .i64 a0_2,.int .i64 a0_3,.int .i64 a0_4,.int .i64 a0_5,.int .i64 a0_6,.int .u8 a0_7],.int .i32 a1] w fun e w' => e=.returned (.bool r)∧Below w.heap.size w w':=by
 have hu59:=Tryd.underlying59
 have HB:=Zf.mk (Below.refl w.heap.size w)
 have H : (if (wrap64 (a1)) < a0_6 then (some (decide (a1 < 128))) else (some false))=some r:=h
 clear h
 by_cases c3 : (wrap64 (a1)) < a0_6
 ·rw [if_pos c3] at H
  have c3b0 : decide ((wrap64 (a1)) < a0_6)=true:=decide_eq_true c3
  clear c3
  obtain rfl:=Option.some.inj H
  go_enter Tryd.func45,Tryd.ntmps45
  go_wp2_with (first|((with_reducible refine Yh (N:=2) rfl ?_);refine Ym ?hg (N:=2) ?hd (cs:=#[.int .i64 a0_0,.int .i64 a0_1,.int .i64 a0_2,.int .i64 a0_3,.int .i64 a0_4,.int .i64 a0_5,.int .i64 a0_6,.int .u8 a0_7]) (t:=59) ?hr ?_;(case hd => rfl);(case hg => rfl);(case hr => first|(go_simp;done)|(go_simp;rfl));intro gb103 hg w4 hbox hb;have n0_:=Zf.mk (Zm (by repeat (first|(with_reducible first|exact HB.out|apply Ze|apply Zc|apply Zd)|exact HB.out)) hb);have n1_:=Zf.mk (hbox);have n2_:=Zf.mk ((by rw [hg];exact (Zo (by repeat (first|(with_reducible first|exact HB.out|apply Ze|apply Zc|apply Zd)|exact HB.out))) : w.heap.size≤gb103));have n3_:=Zf.mk ((by rw [hg];exact (Zo (by repeat (first|(with_reducible first|exact HB.out|apply Ze|apply Zc|apply Zd)|exact HB.out))) : w.heap.size≤gb103));clear HB;have HB:=n0_;have BK103:=n1_;have GW103:=n2_;have GE103:=n3_;clear n0_ n1_ n2_ n3_;clear hb hbox hg;have hcz5_0 : w4.cell? ⟨gb103,0,none⟩=some (.int .i64 a0_0):=(Zb BK103.out 0).trans rfl;have hcz5_1 : w4.cell? ⟨gb103,1,none⟩=some (.int .i64 a0_1):=(Zb BK103.out 1).trans rfl;have hcz5_2 : w4.cell? ⟨gb103,2,none⟩=some (.int .i64 a0_2):=(Zb BK103.out 2).trans rfl;have hcz5_3 : w4.cell? ⟨gb103,3,none⟩=some (.int .i64 a0_3):=(Zb BK103.out 3).trans rfl;have hcz5_4 : w4.cell? ⟨gb103,4,none⟩=some (.int .i64 a0_4):=(Zb BK103.out 4).trans rfl;have hcz5_5 : w4.cell? ⟨gb103,5,none⟩=some (.int .i64 a0_5):=(Zb BK103.out 5).trans rfl;have hcz5_6 : w4.cell? ⟨gb103,6,none⟩=some (.int .i64 a0_6):=(Zb BK103.out 6).trans rfl;have hcz5_7 : w4.cell? ⟨gb103,7,none⟩=some (.int .u8 a0_7):=(Zb BK103.out 7).trans rfl;have hfz5_0:=Za BK103.out 0;have hfz5_1:=Za BK103.out 1;have hfz5_2:=Za BK103.out 2;have hfz5_3:=Za BK103.out 3;have hfz5_4:=Za BK103.out 4;have hfz5_5:=Za BK103.out 5;have hfz5_6:=Za BK103.out 6;have hfz5_7:=Za BK103.out 7))
  go_ret
  exact ⟨by first|rfl|(simp [Zp,Zq] <;> rfl)|(simp [*,Zp,Zq] <;> rfl),by repeat (first|(with_reducible first|exact HB.out|apply Ze|apply Zc|apply Zd|refine Zg ?_ GE103.out)|exact HB.out)⟩
 ·rw [if_neg c3] at H
  have c3b0 : decide ((wrap64 (a1)) < a0_6)=false:=decide_eq_false c3
  clear c3
  obtain rfl:=Option.some.inj H
  go_enter Tryd.func45,Tryd.ntmps45
  go_wp2_with (first|((with_reducible refine Yh (N:=2) rfl ?_);refine Ym ?hg (N:=2) ?hd (cs:=#[.int .i64 a0_0,.int .i64 a0_1,.int .i64 a0_2,.int .i64 a0_3,.int .i64 a0_4,.int .i64 a0_5,.int .i64 a0_6,.int .u8 a0_7]) (t:=59) ?hr ?_;(case hd => rfl);(case hg => rfl);(case hr => first|(go_simp;done)|(go_simp;rfl));intro gb103 hg w6 hbox hb;have n0_:=Zf.mk (Zm (by repeat (first|(with_reducible first|exact HB.out|apply Ze|apply Zc|apply Zd)|exact HB.out)) hb);have n1_:=Zf.mk (hbox);have n2_:=Zf.mk ((by rw [hg];exact (Zo (by repeat (first|(with_reducible first|exact HB.out|apply Ze|apply Zc|apply Zd)|exact HB.out))) : w.heap.size≤gb103));have n3_:=Zf.mk ((by rw [hg];exact (Zo (by repeat (first|(with_reducible first|exact HB.out|apply Ze|apply Zc|apply Zd)|exact HB.out))) : w.heap.size≤gb103));clear HB;have HB:=n0_;have BK103:=n1_;have GW103:=n2_;have GE103:=n3_;clear n0_ n1_ n2_ n3_;clear hb hbox hg;have hcz7_0 : w6.cell? ⟨gb103,0,none⟩=some (.int .i64 a0_0):=(Zb BK103.out 0).trans rfl;have hcz7_1 : w6.cell? ⟨gb103,1,none⟩=some (.int .i64 a0_1):=(Zb BK103.out 1).trans rfl;have hcz7_2 : w6.cell? ⟨gb103,2,none⟩=some (.int .i64 a0_2):=(Zb BK103.out 2).trans rfl;have hcz7_3 : w6.cell? ⟨gb103,3,none⟩=some (.int .i64 a0_3):=(Zb BK103.out 3).trans rfl;have hcz7_4 : w6.cell? ⟨gb103,4,none⟩=some (.int .i64 a0_4):=(Zb BK103.out 4).trans rfl;have hcz7_5 : w6.cell? ⟨gb103,5,none⟩=some (.int .i64 a0_5):=(Zb BK103.out 5).trans rfl;have hcz7_6 : w6.cell? ⟨gb103,6,none⟩=some (.int .i64 a0_6):=(Zb BK103.out 6).trans rfl;have hcz7_7 : w6.cell? ⟨gb103,7,none⟩=some (.int .u8 a0_7):=(Zb BK103.out 7).trans rfl;have hfz7_0:=Za BK103.out 0;have hfz7_1:=Za BK103.out 1;have hfz7_2:=Za BK103.out 2;have hfz7_3:=Za BK103.out 3;have hfz7_4:=Za BK103.out 4;have hfz7_5:=Za BK103.out 5;have hfz7_6:=Za BK103.out 6;have hfz7_7:=Za BK103.out 7))
  go_ret
  exact ⟨by first|rfl|(simp [Zp,Zq] <;> rfl)|(simp [*,Zp,Zq] <;> rfl),by repeat (first|(with_reducible first|exact HB.out|apply Ze|apply Zc|apply Zd|refine Zg ?_ GE103.out)|exact HB.out)⟩
end Go.Proofs.YtmjlkifmbhaiiaaDoorQ.Pw
end
section
namespace Go.Proofs.YtmjlkifmbhaiiaaDoorQ.Pw
open Go.RowKit Go.Proofs.YtmjlkifmbhaiiaaDoorW.PrintWords Go.Proofs.YtmjlkifmbhaiiaaDoorW.PrintLast Go.Proofs.YtmjlkifmbhaiiaaDoorW.PrintMore
attribute [local go_sem] Go.Proofs.YtmjlkifmbhaiiaaDoor.Ye
attribute [local go_sem] max2_int min2_int max_two min_two max_three min_three max_four min_four   -- for this text's walks alone
set_option linter.unusedVariables false
set_option linter.unusedSimpArgs false
/-! ### puny_next: function 46 -/
def puny_next.l0 : Nat→Int→Int→List Int→Int→Int→Option (Int)
 | 0,_,_,_,_,_ => none
 | k + 1,x1,x5,x8,x9,x10 => if x10 < x9 then (if 0≤x10 then (if x10 < (x8.length : Int) then (if (wrap64 (rd x8 x10)) ≥ x1 then (puny_next.l0 k x1 (mn x5 (wrap64 (rd x8 x10))) x8 x9 (wrap64 (x10 + 1))) else (puny_next.l0 k x1 x5 x8 x9 (wrap64 (x10 + 1)))) else (none)) else (none)) else (some x5)
def puny_next.f (k : Nat) (l0 : List Int) (a1 : Int) : Option (Int):=puny_next.l0 k a1 1114111 l0 (l0.length : Int) 0
set_option maxHeartbeats 8000000 in
set_option maxRecDepth 100000 in
theorem puny_next.calls (k : Nat) (A0 : Option Addr) (c0 : Nat) (l0 : List Int) (a1 : Int) (r : Int) (w : World) (hr0 : Kd.C (Kd.int .i32) w A0 l0.length l0) (hc0 : l0.length≤c0) (h : puny_next.f k l0 a1=some r) :
  Calls Tryd.prog 46 #[.slice A0 l0.length c0,.int .i64 a1] w fun e w' => e=.returned (.int .i64 r)∧Below w.heap.size w w':=by
 have HR0:=Zf.mk hr0
 have HC0:=Zf.mk hc0
 clear hr0 hc0
 have HB:=Zf.mk (Below.refl w.heap.size w)
 have H : (puny_next.l0 k a1 1114111 l0 (l0.length : Int) 0)=some r:=h
 clear h
 have H':=Zf.mk H
 clear H
 go_enter Tryd.func46,Tryd.ntmps46
 go_wp2
 go_loopg [5,10] k (fun kq v5 v10 w' => ∃ (x5_1 : Int) (x10_1 : Int),v5=.int .i64 x5_1∧v10=.int .i64 x10_1∧Zf (puny_next.l0 kq a1 x5_1 l0 (l0.length : Int) x10_1=some r)∧Zf (kq≤k)∧Zf (Below w.heap.size w w'))
 case atStart => exact ⟨(1114111),(0),(by first|rfl|(simp;done)|(simp [*];done)),(by first|rfl|(simp;done)|(simp [*];done)),H',⟨Nat.le_refl _⟩,⟨by repeat (first|(with_reducible first|exact HB.out|apply Ze|apply Zc|apply Zd)|exact HB.out)⟩⟩
 case round =>
  clear H'
  try clear p2
  obtain ⟨x5_1,x10_1,rfl,rfl,HA,HK1,HB⟩:=hrel
  cases gk with
  | zero => exact absurd HA.out (by simp [puny_next.l0])
  | succ k1 =>
   have H:=HA.out
   clear HA
   simp only [puny_next.l0] at H
   by_cases c3 : x10_1 < (l0.length : Int)
   ·rw [if_pos c3] at H
    have c3b0 : decide (x10_1 < (l0.length : Int))=true:=decide_eq_true c3
    clear c3
    by_cases c4 : 0≤x10_1
    ·rw [if_pos c4] at H
     have c4b0 : decide (0≤x10_1)=true:=decide_eq_true c4
     clear c4
     by_cases c5 : x10_1 < (l0.length : Int)
     ·rw [if_pos c5] at H
      have c5b0 : decide (x10_1 < (l0.length : Int))=true:=decide_eq_true c5
      clear c5
      by_cases c6 : (wrap64 (rd l0 x10_1)) ≥ a1
      ·rw [if_pos c6] at H
       have c6b0 : decide (a1≤(wrap64 (rd l0 x10_1)))=true:=decide_eq_true c6
       clear c6
       obtain ⟨ji7,hji7⟩ : ∃ j_ : Int,(mn x5_1 (wrap64 (rd l0 x10_1)))=j_:=⟨_,rfl⟩
       replace H : (puny_next.l0 k1 a1 ji7 l0 (l0.length : Int) (wrap64 (x10_1 + 1)))=some r:=by first|(rw [hji7] at H;exact H)|(simp only [hji7] at H ⊢;exact H)
       have hji7_ : (if (wrap64 (rd l0 x10_1)) < x5_1 then (wrap64 (rd l0 x10_1)) else x5_1)=ji7:=hji7
       have H':=Zf.mk H
       clear H
       have p104 : 0≤(x10_1 : Int):=of_decide_eq_true (by first|(with_reducible assumption)|assumption)
       have q104 : x10_1 < (l0.length : Int):=of_decide_eq_true (by first|(with_reducible assumption)|assumption)
       obtain ⟨ad104,e104,hx104_0⟩:=Kd.at_int HR0.out x10_1 p104 q104
       cases e104
       replace hx104_0:=(HB.out.cell (World.block_lt_of_cell? w _ hx104_0)).trans hx104_0
       replace p104:=eq_true p104
       replace q104:=eq_true q104
       go_wp2
       go_roundg k1
       case measure => have:=HK1.out;omega
       case rel => exact ⟨(ji7),(wrap64 (x10_1 + 1)),(by first|rfl|(simp;done)|(simp only [← hji7] <;> (first|rfl|simp))|(simp [*];done)),(by first|rfl|(simp;done)|(simp [*];done)),H',⟨by have:=HK1.out;omega⟩,⟨by repeat (first|(with_reducible first|exact HB.out|apply Ze|apply Zc|apply Zd)|exact HB.out)⟩⟩
      ·rw [if_neg c6] at H
       have c6b0 : decide (a1≤(wrap64 (rd l0 x10_1)))=false:=decide_eq_false c6
       clear c6
       have H':=Zf.mk H
       clear H
       have p104 : 0≤(x10_1 : Int):=of_decide_eq_true (by first|(with_reducible assumption)|assumption)
       have q104 : x10_1 < (l0.length : Int):=of_decide_eq_true (by first|(with_reducible assumption)|assumption)
       obtain ⟨ad104,e104,hx104_0⟩:=Kd.at_int HR0.out x10_1 p104 q104
       cases e104
       replace hx104_0:=(HB.out.cell (World.block_lt_of_cell? w _ hx104_0)).trans hx104_0
       replace p104:=eq_true p104
       replace q104:=eq_true q104
       go_wp2
       go_roundg k1
       case measure => have:=HK1.out;omega
       case rel => exact ⟨(x5_1),(wrap64 (x10_1 + 1)),(by first|rfl|(simp;done)|(simp [*];done)),(by first|rfl|(simp;done)|(simp [*];done)),H',⟨by have:=HK1.out;omega⟩,⟨by repeat (first|(with_reducible first|exact HB.out|apply Ze|apply Zc|apply Zd)|exact HB.out)⟩⟩
     ·rw [if_neg c5] at H
      exact absurd H (by simp)
    ·rw [if_neg c4] at H
     exact absurd H (by simp)
   ·rw [if_neg c3] at H
    have c3b0 : decide (x10_1 < (l0.length : Int))=false:=decide_eq_false c3
    clear c3
    obtain rfl:=Option.some.inj H
    go_wp2
    go_ret
    exact ⟨by first|rfl|(simp [Zp,Zq] <;> rfl)|(simp [*,Zp,Zq] <;> rfl),by repeat (first|(with_reducible first|exact HB.out|apply Ze|apply Zc|apply Zd)|exact HB.out)⟩
end Go.Proofs.YtmjlkifmbhaiiaaDoorQ.Pw
end
