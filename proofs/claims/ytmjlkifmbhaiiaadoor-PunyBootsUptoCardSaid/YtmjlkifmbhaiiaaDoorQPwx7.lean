/- What these functions of the program compute, and that they compute it: printed by wip/tools/orac.py over the kit's print.py; merged. -/
import Derived.Test.YtmjlkifmbhaiiaaDoorQPwx0
section
namespace Go.Proofs.YtmjlkifmbhaiiaaDoorQ.Pw
open Go.RowKit Go.Proofs.YtmjlkifmbhaiiaaDoorW.PrintWords Go.Proofs.YtmjlkifmbhaiiaaDoorW.PrintLast Go.Proofs.YtmjlkifmbhaiiaaDoorW.PrintMore
attribute [local go_sem] Go.Proofs.YtmjlkifmbhaiiaaDoor.Ye
attribute [local go_sem] max2_int min2_int max_two min_two max_three min_three max_four min_four   -- for this text's walks alone
set_option linter.unusedVariables false
set_option linter.unusedSimpArgs false
/-! ### Zy: function 43 -/
mutual
def Zy.j0 : Nat→Int→Int→Int→Int→Int→Int→Int→Int→Int→Int→Option (Int)
 | 0,_,_,_,_,_,_,_,_,_,_ => none
 | k + 1,x1,x2,x197000,x197001,x197002,x197003,x197004,x197005,x197006,x197007 => if x2=0 then (none) else (Zy.l0 k (wrap64 (x1 + (wrap64 (Int.tdiv x1 x2)))) 0 x197000 x197001 x197002 x197003 x197004 x197005 x197006 x197007)
def Zy.l0 : Nat→Int→Int→Int→Int→Int→Int→Int→Int→Int→Int→Option (Int)
 | 0,_,_,_,_,_,_,_,_,_,_ => none
 | k + 1,x1,x9,x197000,x197001,x197002,x197003,x197004,x197005,x197006,x197007 => if x1 > (wrap64 (Int.tdiv (wrap64 ((wrap64 (x197000 - x197001)) * x197002)) 2)) then (if (wrap64 (x197000 - x197001))=0 then (none) else (Zy.l0 k (wrap64 (Int.tdiv x1 (wrap64 (x197000 - x197001)))) (wrap64 (x9 + x197000)) x197000 x197001 x197002 x197003 x197004 x197005 x197006 x197007)) else (if (wrap64 (x1 + x197003))=0 then (none) else (some (wrap64 (x9 + (wrap64 (Int.tdiv (wrap64 ((wrap64 ((wrap64 (x197000 - x197001)) + 1)) * x1)) (wrap64 (x1 + x197003))))))))
end
def Zy.f (k : Nat) (a0_0 : Int) (a0_1 : Int) (a0_2 : Int) (a0_3 : Int) (a0_4 : Int) (a0_5 : Int) (a0_6 : Int) (a0_7 : Int) (a1 : Int) (a2 : Int) (a3 : Bool) : Option (Int):=if a3=true then (if a0_4=0 then (none) else (Zy.j0 k (wrap64 (Int.tdiv a1 a0_4)) a2 a0_0 a0_1 a0_2 a0_3 a0_4 a0_5 a0_6 a0_7)) else (Zy.j0 k (wrap64 (Int.tdiv a1 2)) a2 a0_0 a0_1 a0_2 a0_3 a0_4 a0_5 a0_6 a0_7)
set_option maxHeartbeats 8000000 in
set_option maxRecDepth 100000 in
theorem Zy.calls (k : Nat) (a0_0 : Int) (a0_1 : Int) (a0_2 : Int) (a0_3 : Int) (a0_4 : Int) (a0_5 : Int) (a0_6 : Int) (a0_7 : Int) (a1 : Int) (a2 : Int) (a3 : Bool) (r : Int) (w : World) (h : Zy.f k a0_0 a0_1 a0_2 a0_3 a0_4 a0_5 a0_6 a0_7 a1 a2 a3=some r) :
  Calls Tryd.prog 43 #[.agg #[.int .i64 a0_0,.int .i64 a0_1,.int .i64 a0_2,.int .i64 a0_3,.int .i64 a0_4,.int .i64 a0_5,.int .i64 a0_6,.int .u8 a0_7],.int .i64 a1,.int .i64 a2,.bool a3] w fun e w' => e=.returned (.int .i64 r)∧Below w.heap.size w w':=by
 have hu51:=Tryd.underlying51
 have HB:=Zf.mk (Below.refl w.heap.size w)
 have H : (if a3=true then (if a0_4=0 then (none) else (Zy.j0 k (wrap64 (Int.tdiv a1 a0_4)) a2 a0_0 a0_1 a0_2 a0_3 a0_4 a0_5 a0_6 a0_7)) else (Zy.j0 k (wrap64 (Int.tdiv a1 2)) a2 a0_0 a0_1 a0_2 a0_3 a0_4 a0_5 a0_6 a0_7))=some r:=h
 clear h
 have HC5:=Zf.mk H
 clear H
 go_enter Tryd.func43,Tryd.ntmps43
 go_upto_if 10 with (first|((with_reducible refine Yh (N:=4) rfl ?_);refine Ym ?hg (N:=4) ?hd (cs:=#[.int .i64 a0_0,.int .i64 a0_1,.int .i64 a0_2,.int .i64 a0_3,.int .i64 a0_4,.int .i64 a0_5,.int .i64 a0_6,.int .u8 a0_7]) (t:=51) ?hr ?_;(case hd => rfl);(case hg => rfl);(case hr => first|(go_simp;done)|(go_simp;rfl));intro gb196 hg w6 hbox hb;have n0_:=Zf.mk (Zm (by repeat (first|(with_reducible first|exact HB.out|apply Ze|apply Zc|apply Zd)|exact HB.out)) hb);have n1_:=Zf.mk (hbox);have n2_:=Zf.mk ((by rw [hg];exact (Zo (by repeat (first|(with_reducible first|exact HB.out|apply Ze|apply Zc|apply Zd)|exact HB.out))) : w.heap.size≤gb196));have n3_:=Zf.mk ((by rw [hg];exact (Zo (by repeat (first|(with_reducible first|exact HB.out|apply Ze|apply Zc|apply Zd)|exact HB.out))) : w.heap.size≤gb196));clear HB;have HB:=n0_;have BK196:=n1_;have GW196:=n2_;have GE196:=n3_;clear n0_ n1_ n2_ n3_;clear hb hbox hg))
 (try simp only [Act.put,List.setIfInBounds_toArray,List.set_cons_zero,List.set_cons_succ])
 go_cut [1] (fun v1 wc => ∃ (kq : Nat) (x1_4 : Int),v1=.int .i64 x1_4∧Zf (Zy.j0 kq x1_4 a2 a0_0 a0_1 a0_2 a0_3 a0_4 a0_5 a0_6 a0_7=some r)∧Zf (kq≤k)∧Zf (wc.heap[gb196]?=some (.cells #[.int .i64 a0_0,.int .i64 a0_1,.int .i64 a0_2,.int .i64 a0_3,.int .i64 a0_4,.int .i64 a0_5,.int .i64 a0_6,.int .u8 a0_7] 51 (0,0)))∧Zf (Below w.heap.size w wc))
 case first =>
  have H:=HC5.out
  clear HC5
  by_cases c7 : a3=true
  ·subst c7
   have H1 : (if a0_4=0 then (none) else (Zy.j0 k (wrap64 (Int.tdiv a1 a0_4)) a2 a0_0 a0_1 a0_2 a0_3 a0_4 a0_5 a0_6 a0_7))=some r:=by rw [if_pos rfl] at H;exact H
   clear H
   have H:=H1
   clear H1
   by_cases c8 : a0_4=0
   ·rw [if_pos c8] at H
    exact absurd H (by simp)
   ·rw [if_neg c8] at H
    have c8b0 : (a0_4 == 0)=false:=beq_eq_false_iff_ne.mpr c8
    have c8b1 : (a0_4 != 0)=true:=bne_iff_ne.mpr c8
    (first|rw [c8b0]|rw [c8b1]|(simp only [i64_w,i32_w];rw [c8b0])|skip)
    have H':=Zf.mk H
    clear H
    have hcz9_0 : w6.cell? ⟨gb196,0,none⟩=some (.int .i64 a0_0):=(Zb BK196.out 0).trans rfl
    have hcz9_1 : w6.cell? ⟨gb196,1,none⟩=some (.int .i64 a0_1):=(Zb BK196.out 1).trans rfl
    have hcz9_2 : w6.cell? ⟨gb196,2,none⟩=some (.int .i64 a0_2):=(Zb BK196.out 2).trans rfl
    have hcz9_3 : w6.cell? ⟨gb196,3,none⟩=some (.int .i64 a0_3):=(Zb BK196.out 3).trans rfl
    have hcz9_4 : w6.cell? ⟨gb196,4,none⟩=some (.int .i64 a0_4):=(Zb BK196.out 4).trans rfl
    have hcz9_5 : w6.cell? ⟨gb196,5,none⟩=some (.int .i64 a0_5):=(Zb BK196.out 5).trans rfl
    have hcz9_6 : w6.cell? ⟨gb196,6,none⟩=some (.int .i64 a0_6):=(Zb BK196.out 6).trans rfl
    have hcz9_7 : w6.cell? ⟨gb196,7,none⟩=some (.int .u8 a0_7):=(Zb BK196.out 7).trans rfl
    have hfz9_0:=Za BK196.out 0
    have hfz9_1:=Za BK196.out 1
    have hfz9_2:=Za BK196.out 2
    have hfz9_3:=Za BK196.out 3
    have hfz9_4:=Za BK196.out 4
    have hfz9_5:=Za BK196.out 5
    have hfz9_6:=Za BK196.out 6
    have hfz9_7:=Za BK196.out 7
    go_wp2
    go_meet
    case rel => exact ⟨_,(wrap64 (Int.tdiv a1 a0_4)),(by first|rfl|(simp;done)|(simp [*];done)),H',⟨by first|omega|exact Nat.le_refl _⟩,⟨by (with_reducible repeat (first|refine Zk ?_ _|refine Zn ?_|refine Zl ?_ _));exact BK196.out⟩,⟨by repeat (first|(with_reducible first|exact HB.out|apply Ze|apply Zc|apply Zd|refine Zg ?_ GE196.out)|exact HB.out)⟩⟩
  ·replace c7:=Bool.eq_false_iff.mpr c7
   subst c7
   have H1 : (Zy.j0 k (wrap64 (Int.tdiv a1 2)) a2 a0_0 a0_1 a0_2 a0_3 a0_4 a0_5 a0_6 a0_7)=some r:=by rw [if_neg (show ¬ (false=true) by decide)] at H;exact H
   clear H
   have H:=H1
   clear H1
   have H':=Zf.mk H
   clear H
   go_wp2
   go_meet
   case rel => exact ⟨_,(wrap64 (Int.tdiv a1 2)),(by first|rfl|(simp;done)|(simp [*];done)),H',⟨by first|omega|exact Nat.le_refl _⟩,⟨by (with_reducible repeat (first|refine Zk ?_ _|refine Zn ?_|refine Zl ?_ _));exact BK196.out⟩,⟨by repeat (first|(with_reducible first|exact HB.out|apply Ze|apply Zc|apply Zd|refine Zg ?_ GE196.out)|exact HB.out)⟩⟩
 case rest =>
  clear HC5
  try clear p2
  try clear c4
  try clear p6
  try clear c7
  try clear c8
  try clear c8b0
  try clear c8b1
  try clear hcz9_0
  try clear hcz9_1
  try clear hcz9_2
  try clear hcz9_3
  try clear hcz9_4
  try clear hcz9_5
  try clear hcz9_6
  try clear hcz9_7
  try clear hfz9_0
  try clear hfz9_1
  try clear hfz9_2
  try clear hfz9_3
  try clear hfz9_4
  try clear hfz9_5
  try clear hfz9_6
  try clear hfz9_7
  obtain ⟨kq,x1_4,rfl,HA,HJ4,BK196,HB⟩:=hcut
  cases kq with
  | zero => exact absurd HA.out (by simp [Zy.j0])
  | succ kj4 =>
   have H:=HA.out
   clear HA
   simp only [Zy.j0] at H
   by_cases c10 : a2=0
   ·rw [if_pos c10] at H
    exact absurd H (by simp)
   ·rw [if_neg c10] at H
    have c10b0 : (a2 == 0)=false:=beq_eq_false_iff_ne.mpr c10
    have c10b1 : (a2 != 0)=true:=bne_iff_ne.mpr c10
    have H':=Zf.mk H
    clear H
    go_wp2
    go_loopg [1,9] kj4 (fun kq v1 v9 w' => ∃ (x1_2 : Int) (x9_2 : Int),v1=.int .i64 x1_2∧v9=.int .i64 x9_2∧Zf (Zy.l0 kq x1_2 x9_2 a0_0 a0_1 a0_2 a0_3 a0_4 a0_5 a0_6 a0_7=some r)∧Zf (kq≤kj4)∧Zf (w'.heap[gb196]?=some (.cells #[.int .i64 a0_0,.int .i64 a0_1,.int .i64 a0_2,.int .i64 a0_3,.int .i64 a0_4,.int .i64 a0_5,.int .i64 a0_6,.int .u8 a0_7] 51 (0,0)))∧Zf (Below w.heap.size w w'))
    case atStart => exact ⟨(wrap64 (x1_4 + (wrap64 (Int.tdiv x1_4 a2)))),(0),(by first|rfl|(simp;done)|(simp [*];done)),(by first|rfl|(simp;done)|(simp [*];done)),H',⟨Nat.le_refl _⟩,⟨by (with_reducible repeat (first|refine Zk ?_ _|refine Zn ?_|refine Zl ?_ _));exact BK196.out⟩,⟨by repeat (first|(with_reducible first|exact HB.out|apply Ze|apply Zc|apply Zd|refine Zg ?_ GE196.out)|exact HB.out)⟩⟩
    case round =>
     clear H'
     try clear c1
     try clear p2
     try clear c4
     try clear p6
     try clear c7
     try clear c8
     try clear c8b0
     try clear c8b1
     try clear c10
     try clear c10b0
     try clear c10b1
     try clear hcz9_0
     try clear hcz9_1
     try clear hcz9_2
     try clear hcz9_3
     try clear hcz9_4
     try clear hcz9_5
     try clear hcz9_6
     try clear hcz9_7
     try clear hfz9_0
     try clear hfz9_1
     try clear hfz9_2
     try clear hfz9_3
     try clear hfz9_4
     try clear hfz9_5
     try clear hfz9_6
     try clear hfz9_7
     try clear p2
     try clear p6
     obtain ⟨x1_2,x9_2,rfl,rfl,HA,HK2,BK196,HB⟩:=hrel
     cases gk with
     | zero => exact absurd HA.out (by simp [Zy.l0])
     | succ k2 =>
      have H:=HA.out
      clear HA
      simp only [Zy.l0] at H
      by_cases c11 : x1_2 > (wrap64 (Int.tdiv (wrap64 ((wrap64 (a0_0 - a0_1)) * a0_2)) 2))
      ·rw [if_pos c11] at H
       have c11b0 : decide ((wrap64 (Int.tdiv (wrap64 ((wrap64 (a0_0 - a0_1)) * a0_2)) 2)) < x1_2)=true:=decide_eq_true c11
       clear c11
       by_cases c12 : (wrap64 (a0_0 - a0_1))=0
       ·rw [if_pos c12] at H
        exact absurd H (by simp)
       ·rw [if_neg c12] at H
        have c12b0 : ((wrap64 (a0_0 - a0_1)) == 0)=false:=beq_eq_false_iff_ne.mpr c12
        have c12b1 : ((wrap64 (a0_0 - a0_1)) != 0)=true:=bne_iff_ne.mpr c12
        have H':=Zf.mk H
        clear H
        have hcz13_0 : wr.cell? ⟨gb196,0,none⟩=some (.int .i64 a0_0):=(Zb BK196.out 0).trans rfl
        have hcz13_1 : wr.cell? ⟨gb196,1,none⟩=some (.int .i64 a0_1):=(Zb BK196.out 1).trans rfl
        have hcz13_2 : wr.cell? ⟨gb196,2,none⟩=some (.int .i64 a0_2):=(Zb BK196.out 2).trans rfl
        have hcz13_3 : wr.cell? ⟨gb196,3,none⟩=some (.int .i64 a0_3):=(Zb BK196.out 3).trans rfl
        have hcz13_4 : wr.cell? ⟨gb196,4,none⟩=some (.int .i64 a0_4):=(Zb BK196.out 4).trans rfl
        have hcz13_5 : wr.cell? ⟨gb196,5,none⟩=some (.int .i64 a0_5):=(Zb BK196.out 5).trans rfl
        have hcz13_6 : wr.cell? ⟨gb196,6,none⟩=some (.int .i64 a0_6):=(Zb BK196.out 6).trans rfl
        have hcz13_7 : wr.cell? ⟨gb196,7,none⟩=some (.int .u8 a0_7):=(Zb BK196.out 7).trans rfl
        have hfz13_0:=Za BK196.out 0
        have hfz13_1:=Za BK196.out 1
        have hfz13_2:=Za BK196.out 2
        have hfz13_3:=Za BK196.out 3
        have hfz13_4:=Za BK196.out 4
        have hfz13_5:=Za BK196.out 5
        have hfz13_6:=Za BK196.out 6
        have hfz13_7:=Za BK196.out 7
        go_wp2
        go_roundg k2
        case measure => have:=HJ4.out;have:=HK2.out;omega
        case rel => exact ⟨(wrap64 (Int.tdiv x1_2 (wrap64 (a0_0 - a0_1)))),(wrap64 (x9_2 + a0_0)),(by first|rfl|(simp;done)|(simp [*];done)),(by first|rfl|(simp;done)|(simp [*];done)),H',⟨by have:=HJ4.out;have:=HK2.out;omega⟩,⟨by (with_reducible repeat (first|refine Zk ?_ _|refine Zn ?_|refine Zl ?_ _));exact BK196.out⟩,⟨by repeat (first|(with_reducible first|exact HB.out|apply Ze|apply Zc|apply Zd|refine Zg ?_ GE196.out)|exact HB.out)⟩⟩
      ·rw [if_neg c11] at H
       have c11b0 : decide ((wrap64 (Int.tdiv (wrap64 ((wrap64 (a0_0 - a0_1)) * a0_2)) 2)) < x1_2)=false:=decide_eq_false c11
       clear c11
       by_cases c14 : (wrap64 (x1_2 + a0_3))=0
       ·rw [if_pos c14] at H
        exact absurd H (by simp)
       ·rw [if_neg c14] at H
        have c14b0 : ((wrap64 (x1_2 + a0_3)) == 0)=false:=beq_eq_false_iff_ne.mpr c14
        have c14b1 : ((wrap64 (x1_2 + a0_3)) != 0)=true:=bne_iff_ne.mpr c14
        obtain rfl:=Option.some.inj H
        have hcz15_0 : wr.cell? ⟨gb196,0,none⟩=some (.int .i64 a0_0):=(Zb BK196.out 0).trans rfl
        have hcz15_1 : wr.cell? ⟨gb196,1,none⟩=some (.int .i64 a0_1):=(Zb BK196.out 1).trans rfl
        have hcz15_2 : wr.cell? ⟨gb196,2,none⟩=some (.int .i64 a0_2):=(Zb BK196.out 2).trans rfl
        have hcz15_3 : wr.cell? ⟨gb196,3,none⟩=some (.int .i64 a0_3):=(Zb BK196.out 3).trans rfl
        have hcz15_4 : wr.cell? ⟨gb196,4,none⟩=some (.int .i64 a0_4):=(Zb BK196.out 4).trans rfl
        have hcz15_5 : wr.cell? ⟨gb196,5,none⟩=some (.int .i64 a0_5):=(Zb BK196.out 5).trans rfl
        have hcz15_6 : wr.cell? ⟨gb196,6,none⟩=some (.int .i64 a0_6):=(Zb BK196.out 6).trans rfl
        have hcz15_7 : wr.cell? ⟨gb196,7,none⟩=some (.int .u8 a0_7):=(Zb BK196.out 7).trans rfl
        have hfz15_0:=Za BK196.out 0
        have hfz15_1:=Za BK196.out 1
        have hfz15_2:=Za BK196.out 2
        have hfz15_3:=Za BK196.out 3
        have hfz15_4:=Za BK196.out 4
        have hfz15_5:=Za BK196.out 5
        have hfz15_6:=Za BK196.out 6
        have hfz15_7:=Za BK196.out 7
        go_wp2
        go_ret
        exact ⟨by first|rfl|(simp [Zp,Zq] <;> rfl)|(simp [*,Zp,Zq] <;> rfl),by repeat (first|(with_reducible first|exact HB.out|apply Ze|apply Zc|apply Zd|refine Zg ?_ GE196.out)|exact HB.out)⟩
end Go.Proofs.YtmjlkifmbhaiiaaDoorQ.Pw
end
