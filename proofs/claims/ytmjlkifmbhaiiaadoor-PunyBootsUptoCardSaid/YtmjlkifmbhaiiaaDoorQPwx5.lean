/- What these functions of the program compute, and that they compute it: printed by wip/tools/orac.py over the kit's print.py; merged. -/
import Derived.Test.YtmjlkifmbhaiiaaDoorQPwx0
import Derived.Test.YtmjlkifmbhaiiaaDoorQPwx4
section
namespace Go.Proofs.YtmjlkifmbhaiiaaDoorQ.Pw
open Go.RowKit Go.Proofs.YtmjlkifmbhaiiaaDoorW.PrintWords Go.Proofs.YtmjlkifmbhaiiaaDoorW.PrintLast Go.Proofs.YtmjlkifmbhaiiaaDoorW.PrintMore
attribute [local go_sem] Go.Proofs.YtmjlkifmbhaiiaaDoor.Ye
attribute [local go_sem] max2_int min2_int max_two min_two max_three min_three max_four min_four   -- for this text's walks alone
set_option linter.unusedVariables false
set_option linter.unusedSimpArgs false
/-! ### Zx: function 25 -/
def Zx.j0 : Nat→Bool→Int→Int→Int→Int→Int→Int→Int→Int→Option (Bool)
 | 0,_,_,_,_,_,_,_,_,_ => none
 | k + 1,x35,x186000,x186001,x186002,x186003,x186004,x186005,x186006,x186007 => if x35=true then (some false) else (if x186003 < 1 then (some false) else (if x186003 > 10000 then (some false) else (if x186004 < 2 then (some false) else (if x186004 > 10000 then (some false) else (if x186005 < 0 then (some false) else (if x186005 > 10000 then (some false) else (if x186006 < 1 then (some false) else (if x186006 > 1114111 then (some false) else (if x186007 ≥ 33 then (if x186007≤126 then (if (wrap64 (x186007)) < x186006 then ((Yd.f k x186007 x186000).bind fun t186 => (some (decide (t186 < 0)))) else (some false)) else (some false)) else (some false))))))))))
def Zx.f (k : Nat) (a0_0 : Int) (a0_1 : Int) (a0_2 : Int) (a0_3 : Int) (a0_4 : Int) (a0_5 : Int) (a0_6 : Int) (a0_7 : Int) : Option (Bool):=if a0_0 < 3 then (Zx.j0 k true a0_0 a0_1 a0_2 a0_3 a0_4 a0_5 a0_6 a0_7) else (if a0_0 > 36 then (Zx.j0 k true a0_0 a0_1 a0_2 a0_3 a0_4 a0_5 a0_6 a0_7) else (if a0_1 < 0 then (Zx.j0 k true a0_0 a0_1 a0_2 a0_3 a0_4 a0_5 a0_6 a0_7) else (if a0_2 > (wrap64 (a0_0 - 2)) then (Zx.j0 k true a0_0 a0_1 a0_2 a0_3 a0_4 a0_5 a0_6 a0_7) else (if a0_1 > a0_2 then (Zx.j0 k true a0_0 a0_1 a0_2 a0_3 a0_4 a0_5 a0_6 a0_7) else (Zx.j0 k (decide (a0_2 < 1)) a0_0 a0_1 a0_2 a0_3 a0_4 a0_5 a0_6 a0_7)))))
set_option maxHeartbeats 8000000 in
set_option maxRecDepth 100000 in
theorem Zx.calls (k : Nat) (a0_0 : Int) (a0_1 : Int) (a0_2 : Int) (a0_3 : Int) (a0_4 : Int) (a0_5 : Int) (a0_6 : Int) (a0_7 : Int) (r : Bool) (w : World) (h : Zx.f k a0_0 a0_1 a0_2 a0_3 a0_4 a0_5 a0_6 a0_7=some r) :
  Calls Tryd.prog 25 #[.agg #[.int .i64 a0_0,.int .i64 a0_1,.int .i64 a0_2,.int .i64 a0_3,.int .i64 a0_4,.int .i64 a0_5,.int .i64 a0_6,.int .u8 a0_7]] w fun e w' => e=.returned (.bool r)∧Below w.heap.size w w':=by
 have hu51:=Tryd.underlying51
 have HB:=Zf.mk (Below.refl w.heap.size w)
 have H : (if a0_0 < 3 then (Zx.j0 k true a0_0 a0_1 a0_2 a0_3 a0_4 a0_5 a0_6 a0_7) else (if a0_0 > 36 then (Zx.j0 k true a0_0 a0_1 a0_2 a0_3 a0_4 a0_5 a0_6 a0_7) else (if a0_1 < 0 then (Zx.j0 k true a0_0 a0_1 a0_2 a0_3 a0_4 a0_5 a0_6 a0_7) else (if a0_2 > (wrap64 (a0_0 - 2)) then (Zx.j0 k true a0_0 a0_1 a0_2 a0_3 a0_4 a0_5 a0_6 a0_7) else (if a0_1 > a0_2 then (Zx.j0 k true a0_0 a0_1 a0_2 a0_3 a0_4 a0_5 a0_6 a0_7) else (Zx.j0 k (decide (a0_2 < 1)) a0_0 a0_1 a0_2 a0_3 a0_4 a0_5 a0_6 a0_7))))))=some r:=h
 clear h
 have HC2:=Zf.mk H
 clear H
 go_enter Tryd.func25,Tryd.ntmps25
 go_upto_region 1 with (first|((with_reducible refine Yh (N:=1) rfl ?_);refine Ym ?hg (N:=1) ?hd (cs:=#[.int .i64 a0_0,.int .i64 a0_1,.int .i64 a0_2,.int .i64 a0_3,.int .i64 a0_4,.int .i64 a0_5,.int .i64 a0_6,.int .u8 a0_7]) (t:=51) ?hr ?_;(case hd => rfl);(case hg => rfl);(case hr => first|(go_simp;done)|(go_simp;rfl));intro gb185 hg w3 hbox hb;have n0_:=Zf.mk (Zm (by repeat (first|(with_reducible first|exact HB.out|apply Ze|apply Zc|apply Zd)|exact HB.out)) hb);have n1_:=Zf.mk (hbox);have n2_:=Zf.mk ((by rw [hg];exact (Zo (by repeat (first|(with_reducible first|exact HB.out|apply Ze|apply Zc|apply Zd)|exact HB.out))) : w.heap.size≤gb185));have n3_:=Zf.mk ((by rw [hg];exact (Zo (by repeat (first|(with_reducible first|exact HB.out|apply Ze|apply Zc|apply Zd)|exact HB.out))) : w.heap.size≤gb185));clear HB;have HB:=n0_;have BK185:=n1_;have GW185:=n2_;have GE185:=n3_;clear n0_ n1_ n2_ n3_;clear hb hbox hg))
 (try simp only [Act.put,List.setIfInBounds_toArray,List.set_cons_zero,List.set_cons_succ])
 go_cut [35] (fun v35 wc => ∃ (kq : Nat) (x35_1 : Bool),v35=.bool x35_1∧Zf (Zx.j0 kq x35_1 a0_0 a0_1 a0_2 a0_3 a0_4 a0_5 a0_6 a0_7=some r)∧Zf (kq≤k)∧Zf (wc.heap[gb185]?=some (.cells #[.int .i64 a0_0,.int .i64 a0_1,.int .i64 a0_2,.int .i64 a0_3,.int .i64 a0_4,.int .i64 a0_5,.int .i64 a0_6,.int .u8 a0_7] 51 (0,0)))∧Zf (Below w.heap.size w wc))
 case first =>
  have H:=HC2.out
  clear HC2
  by_cases c4 : a0_0 < 3
  ·rw [if_pos c4] at H
   have c4b0 : decide (a0_0 < 3)=true:=decide_eq_true c4
   clear c4
   (first|rw [c4b0]|rw [c4b1]|(simp only [i64_w,i32_w];rw [c4b0])|skip)
   have H':=Zf.mk H
   clear H
   have hcz5_0 : w3.cell? ⟨gb185,0,none⟩=some (.int .i64 a0_0):=(Zb BK185.out 0).trans rfl
   have hcz5_1 : w3.cell? ⟨gb185,1,none⟩=some (.int .i64 a0_1):=(Zb BK185.out 1).trans rfl
   have hcz5_2 : w3.cell? ⟨gb185,2,none⟩=some (.int .i64 a0_2):=(Zb BK185.out 2).trans rfl
   have hcz5_3 : w3.cell? ⟨gb185,3,none⟩=some (.int .i64 a0_3):=(Zb BK185.out 3).trans rfl
   have hcz5_4 : w3.cell? ⟨gb185,4,none⟩=some (.int .i64 a0_4):=(Zb BK185.out 4).trans rfl
   have hcz5_5 : w3.cell? ⟨gb185,5,none⟩=some (.int .i64 a0_5):=(Zb BK185.out 5).trans rfl
   have hcz5_6 : w3.cell? ⟨gb185,6,none⟩=some (.int .i64 a0_6):=(Zb BK185.out 6).trans rfl
   have hcz5_7 : w3.cell? ⟨gb185,7,none⟩=some (.int .u8 a0_7):=(Zb BK185.out 7).trans rfl
   have hfz5_0:=Za BK185.out 0
   have hfz5_1:=Za BK185.out 1
   have hfz5_2:=Za BK185.out 2
   have hfz5_3:=Za BK185.out 3
   have hfz5_4:=Za BK185.out 4
   have hfz5_5:=Za BK185.out 5
   have hfz5_6:=Za BK185.out 6
   have hfz5_7:=Za BK185.out 7
   go_wp2
   go_meet
   case rel => exact ⟨_,(true),(by first|rfl|(simp;done)|(simp [*];done)),H',⟨by first|omega|exact Nat.le_refl _⟩,⟨by (with_reducible repeat (first|refine Zk ?_ _|refine Zn ?_|refine Zl ?_ _));exact BK185.out⟩,⟨by repeat (first|(with_reducible first|exact HB.out|apply Ze|apply Zc|apply Zd|refine Zg ?_ GE185.out)|exact HB.out)⟩⟩
  ·rw [if_neg c4] at H
   have c4b0 : decide (a0_0 < 3)=false:=decide_eq_false c4
   clear c4
   (first|rw [c4b0]|rw [c4b1]|(simp only [i64_w,i32_w];rw [c4b0])|skip)
   by_cases c6 : a0_0 > 36
   ·rw [if_pos c6] at H
    have c6b0 : decide (36 < a0_0)=true:=decide_eq_true c6
    clear c6
    have H':=Zf.mk H
    clear H
    have hcz7_0 : w3.cell? ⟨gb185,0,none⟩=some (.int .i64 a0_0):=(Zb BK185.out 0).trans rfl
    have hcz7_1 : w3.cell? ⟨gb185,1,none⟩=some (.int .i64 a0_1):=(Zb BK185.out 1).trans rfl
    have hcz7_2 : w3.cell? ⟨gb185,2,none⟩=some (.int .i64 a0_2):=(Zb BK185.out 2).trans rfl
    have hcz7_3 : w3.cell? ⟨gb185,3,none⟩=some (.int .i64 a0_3):=(Zb BK185.out 3).trans rfl
    have hcz7_4 : w3.cell? ⟨gb185,4,none⟩=some (.int .i64 a0_4):=(Zb BK185.out 4).trans rfl
    have hcz7_5 : w3.cell? ⟨gb185,5,none⟩=some (.int .i64 a0_5):=(Zb BK185.out 5).trans rfl
    have hcz7_6 : w3.cell? ⟨gb185,6,none⟩=some (.int .i64 a0_6):=(Zb BK185.out 6).trans rfl
    have hcz7_7 : w3.cell? ⟨gb185,7,none⟩=some (.int .u8 a0_7):=(Zb BK185.out 7).trans rfl
    have hfz7_0:=Za BK185.out 0
    have hfz7_1:=Za BK185.out 1
    have hfz7_2:=Za BK185.out 2
    have hfz7_3:=Za BK185.out 3
    have hfz7_4:=Za BK185.out 4
    have hfz7_5:=Za BK185.out 5
    have hfz7_6:=Za BK185.out 6
    have hfz7_7:=Za BK185.out 7
    go_wp2
    go_meet
    case rel => exact ⟨_,(true),(by first|rfl|(simp;done)|(simp [*];done)),H',⟨by first|omega|exact Nat.le_refl _⟩,⟨by (with_reducible repeat (first|refine Zk ?_ _|refine Zn ?_|refine Zl ?_ _));exact BK185.out⟩,⟨by repeat (first|(with_reducible first|exact HB.out|apply Ze|apply Zc|apply Zd|refine Zg ?_ GE185.out)|exact HB.out)⟩⟩
   ·rw [if_neg c6] at H
    have c6b0 : decide (36 < a0_0)=false:=decide_eq_false c6
    clear c6
    by_cases c8 : a0_1 < 0
    ·rw [if_pos c8] at H
     have c8b0 : decide (a0_1 < 0)=true:=decide_eq_true c8
     clear c8
     have H':=Zf.mk H
     clear H
     have hcz9_0 : w3.cell? ⟨gb185,0,none⟩=some (.int .i64 a0_0):=(Zb BK185.out 0).trans rfl
     have hcz9_1 : w3.cell? ⟨gb185,1,none⟩=some (.int .i64 a0_1):=(Zb BK185.out 1).trans rfl
     have hcz9_2 : w3.cell? ⟨gb185,2,none⟩=some (.int .i64 a0_2):=(Zb BK185.out 2).trans rfl
     have hcz9_3 : w3.cell? ⟨gb185,3,none⟩=some (.int .i64 a0_3):=(Zb BK185.out 3).trans rfl
     have hcz9_4 : w3.cell? ⟨gb185,4,none⟩=some (.int .i64 a0_4):=(Zb BK185.out 4).trans rfl
     have hcz9_5 : w3.cell? ⟨gb185,5,none⟩=some (.int .i64 a0_5):=(Zb BK185.out 5).trans rfl
     have hcz9_6 : w3.cell? ⟨gb185,6,none⟩=some (.int .i64 a0_6):=(Zb BK185.out 6).trans rfl
     have hcz9_7 : w3.cell? ⟨gb185,7,none⟩=some (.int .u8 a0_7):=(Zb BK185.out 7).trans rfl
     have hfz9_0:=Za BK185.out 0
     have hfz9_1:=Za BK185.out 1
     have hfz9_2:=Za BK185.out 2
     have hfz9_3:=Za BK185.out 3
     have hfz9_4:=Za BK185.out 4
     have hfz9_5:=Za BK185.out 5
     have hfz9_6:=Za BK185.out 6
     have hfz9_7:=Za BK185.out 7
     go_wp2
     go_meet
     case rel => exact ⟨_,(true),(by first|rfl|(simp;done)|(simp [*];done)),H',⟨by first|omega|exact Nat.le_refl _⟩,⟨by (with_reducible repeat (first|refine Zk ?_ _|refine Zn ?_|refine Zl ?_ _));exact BK185.out⟩,⟨by repeat (first|(with_reducible first|exact HB.out|apply Ze|apply Zc|apply Zd|refine Zg ?_ GE185.out)|exact HB.out)⟩⟩
    ·rw [if_neg c8] at H
     have c8b0 : decide (a0_1 < 0)=false:=decide_eq_false c8
     clear c8
     by_cases c10 : a0_2 > (wrap64 (a0_0 - 2))
     ·rw [if_pos c10] at H
      have c10b0 : decide ((wrap64 (a0_0 - 2)) < a0_2)=true:=decide_eq_true c10
      clear c10
      have H':=Zf.mk H
      clear H
      have hcz11_0 : w3.cell? ⟨gb185,0,none⟩=some (.int .i64 a0_0):=(Zb BK185.out 0).trans rfl
      have hcz11_1 : w3.cell? ⟨gb185,1,none⟩=some (.int .i64 a0_1):=(Zb BK185.out 1).trans rfl
      have hcz11_2 : w3.cell? ⟨gb185,2,none⟩=some (.int .i64 a0_2):=(Zb BK185.out 2).trans rfl
      have hcz11_3 : w3.cell? ⟨gb185,3,none⟩=some (.int .i64 a0_3):=(Zb BK185.out 3).trans rfl
      have hcz11_4 : w3.cell? ⟨gb185,4,none⟩=some (.int .i64 a0_4):=(Zb BK185.out 4).trans rfl
      have hcz11_5 : w3.cell? ⟨gb185,5,none⟩=some (.int .i64 a0_5):=(Zb BK185.out 5).trans rfl
      have hcz11_6 : w3.cell? ⟨gb185,6,none⟩=some (.int .i64 a0_6):=(Zb BK185.out 6).trans rfl
      have hcz11_7 : w3.cell? ⟨gb185,7,none⟩=some (.int .u8 a0_7):=(Zb BK185.out 7).trans rfl
      have hfz11_0:=Za BK185.out 0
      have hfz11_1:=Za BK185.out 1
      have hfz11_2:=Za BK185.out 2
      have hfz11_3:=Za BK185.out 3
      have hfz11_4:=Za BK185.out 4
      have hfz11_5:=Za BK185.out 5
      have hfz11_6:=Za BK185.out 6
      have hfz11_7:=Za BK185.out 7
      go_wp2
      go_meet
      case rel => exact ⟨_,(true),(by first|rfl|(simp;done)|(simp [*];done)),H',⟨by first|omega|exact Nat.le_refl _⟩,⟨by (with_reducible repeat (first|refine Zk ?_ _|refine Zn ?_|refine Zl ?_ _));exact BK185.out⟩,⟨by repeat (first|(with_reducible first|exact HB.out|apply Ze|apply Zc|apply Zd|refine Zg ?_ GE185.out)|exact HB.out)⟩⟩
     ·rw [if_neg c10] at H
      have c10b0 : decide ((wrap64 (a0_0 - 2)) < a0_2)=false:=decide_eq_false c10
      clear c10
      by_cases c12 : a0_1 > a0_2
      ·rw [if_pos c12] at H
       have c12b0 : decide (a0_2 < a0_1)=true:=decide_eq_true c12
       clear c12
       have H':=Zf.mk H
       clear H
       have hcz13_0 : w3.cell? ⟨gb185,0,none⟩=some (.int .i64 a0_0):=(Zb BK185.out 0).trans rfl
       have hcz13_1 : w3.cell? ⟨gb185,1,none⟩=some (.int .i64 a0_1):=(Zb BK185.out 1).trans rfl
       have hcz13_2 : w3.cell? ⟨gb185,2,none⟩=some (.int .i64 a0_2):=(Zb BK185.out 2).trans rfl
       have hcz13_3 : w3.cell? ⟨gb185,3,none⟩=some (.int .i64 a0_3):=(Zb BK185.out 3).trans rfl
       have hcz13_4 : w3.cell? ⟨gb185,4,none⟩=some (.int .i64 a0_4):=(Zb BK185.out 4).trans rfl
       have hcz13_5 : w3.cell? ⟨gb185,5,none⟩=some (.int .i64 a0_5):=(Zb BK185.out 5).trans rfl
       have hcz13_6 : w3.cell? ⟨gb185,6,none⟩=some (.int .i64 a0_6):=(Zb BK185.out 6).trans rfl
       have hcz13_7 : w3.cell? ⟨gb185,7,none⟩=some (.int .u8 a0_7):=(Zb BK185.out 7).trans rfl
       have hfz13_0:=Za BK185.out 0
       have hfz13_1:=Za BK185.out 1
       have hfz13_2:=Za BK185.out 2
       have hfz13_3:=Za BK185.out 3
       have hfz13_4:=Za BK185.out 4
       have hfz13_5:=Za BK185.out 5
       have hfz13_6:=Za BK185.out 6
       have hfz13_7:=Za BK185.out 7
       go_wp2
       go_meet
       case rel => exact ⟨_,(true),(by first|rfl|(simp;done)|(simp [*];done)),H',⟨by first|omega|exact Nat.le_refl _⟩,⟨by (with_reducible repeat (first|refine Zk ?_ _|refine Zn ?_|refine Zl ?_ _));exact BK185.out⟩,⟨by repeat (first|(with_reducible first|exact HB.out|apply Ze|apply Zc|apply Zd|refine Zg ?_ GE185.out)|exact HB.out)⟩⟩
      ·rw [if_neg c12] at H
       have c12b0 : decide (a0_2 < a0_1)=false:=decide_eq_false c12
       clear c12
       have H':=Zf.mk H
       clear H
       have hcz14_0 : w3.cell? ⟨gb185,0,none⟩=some (.int .i64 a0_0):=(Zb BK185.out 0).trans rfl
       have hcz14_1 : w3.cell? ⟨gb185,1,none⟩=some (.int .i64 a0_1):=(Zb BK185.out 1).trans rfl
       have hcz14_2 : w3.cell? ⟨gb185,2,none⟩=some (.int .i64 a0_2):=(Zb BK185.out 2).trans rfl
       have hcz14_3 : w3.cell? ⟨gb185,3,none⟩=some (.int .i64 a0_3):=(Zb BK185.out 3).trans rfl
       have hcz14_4 : w3.cell? ⟨gb185,4,none⟩=some (.int .i64 a0_4):=(Zb BK185.out 4).trans rfl
       have hcz14_5 : w3.cell? ⟨gb185,5,none⟩=some (.int .i64 a0_5):=(Zb BK185.out 5).trans rfl
       have hcz14_6 : w3.cell? ⟨gb185,6,none⟩=some (.int .i64 a0_6):=(Zb BK185.out 6).trans rfl
       have hcz14_7 : w3.cell? ⟨gb185,7,none⟩=some (.int .u8 a0_7):=(Zb BK185.out 7).trans rfl
       have hfz14_0:=Za BK185.out 0
       have hfz14_1:=Za BK185.out 1
       have hfz14_2:=Za BK185.out 2
       have hfz14_3:=Za BK185.out 3
       have hfz14_4:=Za BK185.out 4
       have hfz14_5:=Za BK185.out 5
       have hfz14_6:=Za BK185.out 6
       have hfz14_7:=Za BK185.out 7
       go_wp2
       go_meet
       case rel => exact ⟨_,(decide (a0_2 < 1)),(by first|rfl|(simp;done)|(simp [*];done)),H',⟨by first|omega|exact Nat.le_refl _⟩,⟨by (with_reducible repeat (first|refine Zk ?_ _|refine Zn ?_|refine Zl ?_ _));exact BK185.out⟩,⟨by repeat (first|(with_reducible first|exact HB.out|apply Ze|apply Zc|apply Zd|refine Zg ?_ GE185.out)|exact HB.out)⟩⟩
 case rest =>
  clear HC2
  try clear c1
  try clear c2
  try clear p2
  try clear c4
  try clear c4b0
  try clear c6
  try clear c6b0
  try clear p6
  try clear c8
  try clear c8b0
  try clear c10
  try clear c10b0
  try clear c12
  try clear c12b0
  try clear hcz11_0
  try clear hcz11_1
  try clear hcz11_2
  try clear hcz11_3
  try clear hcz11_4
  try clear hcz11_5
  try clear hcz11_6
  try clear hcz11_7
  try clear hcz13_0
  try clear hcz13_1
  try clear hcz13_2
  try clear hcz13_3
  try clear hcz13_4
  try clear hcz13_5
  try clear hcz13_6
  try clear hcz13_7
  try clear hcz14_0
  try clear hcz14_1
  try clear hcz14_2
  try clear hcz14_3
  try clear hcz14_4
  try clear hcz14_5
  try clear hcz14_6
  try clear hcz14_7
  try clear hcz5_0
  try clear hcz5_1
  try clear hcz5_2
  try clear hcz5_3
  try clear hcz5_4
  try clear hcz5_5
  try clear hcz5_6
  try clear hcz5_7
  try clear hcz7_0
  try clear hcz7_1
  try clear hcz7_2
  try clear hcz7_3
  try clear hcz7_4
  try clear hcz7_5
  try clear hcz7_6
  try clear hcz7_7
  try clear hcz9_0
  try clear hcz9_1
  try clear hcz9_2
  try clear hcz9_3
  try clear hcz9_4
  try clear hcz9_5
  try clear hcz9_6
  try clear hcz9_7
  try clear hfz11_0
  try clear hfz11_1
  try clear hfz11_2
  try clear hfz11_3
  try clear hfz11_4
  try clear hfz11_5
  try clear hfz11_6
  try clear hfz11_7
  try clear hfz13_0
  try clear hfz13_1
  try clear hfz13_2
  try clear hfz13_3
  try clear hfz13_4
  try clear hfz13_5
  try clear hfz13_6
  try clear hfz13_7
  try clear hfz14_0
  try clear hfz14_1
  try clear hfz14_2
  try clear hfz14_3
  try clear hfz14_4
  try clear hfz14_5
  try clear hfz14_6
  try clear hfz14_7
  try clear hfz5_0
  try clear hfz5_1
  try clear hfz5_2
  try clear hfz5_3
  try clear hfz5_4
  try clear hfz5_5
  try clear hfz5_6
  try clear hfz5_7
  try clear hfz7_0
  try clear hfz7_1
  try clear hfz7_2
  try clear hfz7_3
  try clear hfz7_4
  try clear hfz7_5
  try clear hfz7_6
  try clear hfz7_7
  try clear hfz9_0
  try clear hfz9_1
  try clear hfz9_2
  try clear hfz9_3
  try clear hfz9_4
  try clear hfz9_5
  try clear hfz9_6
  try clear hfz9_7
  obtain ⟨kq,x35_1,rfl,HA,HJ1,BK185,HB⟩:=hcut
  cases kq with
  | zero => exact absurd HA.out (by simp [Zx.j0])
  | succ kj1 =>
   have H:=HA.out
   clear HA
   simp only [Zx.j0] at H
   by_cases c15 : x35_1=true
   ·subst c15
    have H1 : (some false)=some r:=by rw [if_pos rfl] at H;exact H
    clear H
    have H:=H1
    clear H1
    obtain rfl:=Option.some.inj H
    go_wp2
    go_ret
    exact ⟨by first|rfl|(simp [Zp,Zq] <;> rfl)|(simp [*,Zp,Zq] <;> rfl),by repeat (first|(with_reducible first|exact HB.out|apply Ze|apply Zc|apply Zd|refine Zg ?_ GE185.out)|exact HB.out)⟩
   ·replace c15:=Bool.eq_false_iff.mpr c15
    subst c15
    have H1 : (if a0_3 < 1 then (some false) else (if a0_3 > 10000 then (some false) else (if a0_4 < 2 then (some false) else (if a0_4 > 10000 then (some false) else (if a0_5 < 0 then (some false) else (if a0_5 > 10000 then (some false) else (if a0_6 < 1 then (some false) else (if a0_6 > 1114111 then (some false) else (if a0_7 ≥ 33 then (if a0_7≤126 then (if (wrap64 (a0_7)) < a0_6 then ((Yd.f kj1 a0_7 a0_0).bind fun t186 => (some (decide (t186 < 0)))) else (some false)) else (some false)) else (some false))))))))))=some r:=by rw [if_neg (show ¬ (false=true) by decide)] at H;exact H
    clear H
    have H:=H1
    clear H1
    by_cases c16 : a0_3 < 1
    ·rw [if_pos c16] at H
     have c16b0 : decide (a0_3 < 1)=true:=decide_eq_true c16
     clear c16
     obtain rfl:=Option.some.inj H
     have hcz17_0 : wc.cell? ⟨gb185,0,none⟩=some (.int .i64 a0_0):=(Zb BK185.out 0).trans rfl
     have hcz17_1 : wc.cell? ⟨gb185,1,none⟩=some (.int .i64 a0_1):=(Zb BK185.out 1).trans rfl
     have hcz17_2 : wc.cell? ⟨gb185,2,none⟩=some (.int .i64 a0_2):=(Zb BK185.out 2).trans rfl
     have hcz17_3 : wc.cell? ⟨gb185,3,none⟩=some (.int .i64 a0_3):=(Zb BK185.out 3).trans rfl
     have hcz17_4 : wc.cell? ⟨gb185,4,none⟩=some (.int .i64 a0_4):=(Zb BK185.out 4).trans rfl
     have hcz17_5 : wc.cell? ⟨gb185,5,none⟩=some (.int .i64 a0_5):=(Zb BK185.out 5).trans rfl
     have hcz17_6 : wc.cell? ⟨gb185,6,none⟩=some (.int .i64 a0_6):=(Zb BK185.out 6).trans rfl
     have hcz17_7 : wc.cell? ⟨gb185,7,none⟩=some (.int .u8 a0_7):=(Zb BK185.out 7).trans rfl
     have hfz17_0:=Za BK185.out 0
     have hfz17_1:=Za BK185.out 1
     have hfz17_2:=Za BK185.out 2
     have hfz17_3:=Za BK185.out 3
     have hfz17_4:=Za BK185.out 4
     have hfz17_5:=Za BK185.out 5
     have hfz17_6:=Za BK185.out 6
     have hfz17_7:=Za BK185.out 7
     go_wp2
     go_ret
     exact ⟨by first|rfl|(simp [Zp,Zq] <;> rfl)|(simp [*,Zp,Zq] <;> rfl),by repeat (first|(with_reducible first|exact HB.out|apply Ze|apply Zc|apply Zd|refine Zg ?_ GE185.out)|exact HB.out)⟩
    ·rw [if_neg c16] at H
     have c16b0 : decide (a0_3 < 1)=false:=decide_eq_false c16
     clear c16
     by_cases c18 : a0_3 > 10000
     ·rw [if_pos c18] at H
      have c18b0 : decide (10000 < a0_3)=true:=decide_eq_true c18
      clear c18
      obtain rfl:=Option.some.inj H
      have hcz19_0 : wc.cell? ⟨gb185,0,none⟩=some (.int .i64 a0_0):=(Zb BK185.out 0).trans rfl
      have hcz19_1 : wc.cell? ⟨gb185,1,none⟩=some (.int .i64 a0_1):=(Zb BK185.out 1).trans rfl
      have hcz19_2 : wc.cell? ⟨gb185,2,none⟩=some (.int .i64 a0_2):=(Zb BK185.out 2).trans rfl
      have hcz19_3 : wc.cell? ⟨gb185,3,none⟩=some (.int .i64 a0_3):=(Zb BK185.out 3).trans rfl
      have hcz19_4 : wc.cell? ⟨gb185,4,none⟩=some (.int .i64 a0_4):=(Zb BK185.out 4).trans rfl
      have hcz19_5 : wc.cell? ⟨gb185,5,none⟩=some (.int .i64 a0_5):=(Zb BK185.out 5).trans rfl
      have hcz19_6 : wc.cell? ⟨gb185,6,none⟩=some (.int .i64 a0_6):=(Zb BK185.out 6).trans rfl
      have hcz19_7 : wc.cell? ⟨gb185,7,none⟩=some (.int .u8 a0_7):=(Zb BK185.out 7).trans rfl
      have hfz19_0:=Za BK185.out 0
      have hfz19_1:=Za BK185.out 1
      have hfz19_2:=Za BK185.out 2
      have hfz19_3:=Za BK185.out 3
      have hfz19_4:=Za BK185.out 4
      have hfz19_5:=Za BK185.out 5
      have hfz19_6:=Za BK185.out 6
      have hfz19_7:=Za BK185.out 7
      go_wp2
      go_ret
      exact ⟨by first|rfl|(simp [Zp,Zq] <;> rfl)|(simp [*,Zp,Zq] <;> rfl),by repeat (first|(with_reducible first|exact HB.out|apply Ze|apply Zc|apply Zd|refine Zg ?_ GE185.out)|exact HB.out)⟩
     ·rw [if_neg c18] at H
      have c18b0 : decide (10000 < a0_3)=false:=decide_eq_false c18
      clear c18
      by_cases c20 : a0_4 < 2
      ·rw [if_pos c20] at H
       have c20b0 : decide (a0_4 < 2)=true:=decide_eq_true c20
       clear c20
       obtain rfl:=Option.some.inj H
       have hcz21_0 : wc.cell? ⟨gb185,0,none⟩=some (.int .i64 a0_0):=(Zb BK185.out 0).trans rfl
       have hcz21_1 : wc.cell? ⟨gb185,1,none⟩=some (.int .i64 a0_1):=(Zb BK185.out 1).trans rfl
       have hcz21_2 : wc.cell? ⟨gb185,2,none⟩=some (.int .i64 a0_2):=(Zb BK185.out 2).trans rfl
       have hcz21_3 : wc.cell? ⟨gb185,3,none⟩=some (.int .i64 a0_3):=(Zb BK185.out 3).trans rfl
       have hcz21_4 : wc.cell? ⟨gb185,4,none⟩=some (.int .i64 a0_4):=(Zb BK185.out 4).trans rfl
       have hcz21_5 : wc.cell? ⟨gb185,5,none⟩=some (.int .i64 a0_5):=(Zb BK185.out 5).trans rfl
       have hcz21_6 : wc.cell? ⟨gb185,6,none⟩=some (.int .i64 a0_6):=(Zb BK185.out 6).trans rfl
       have hcz21_7 : wc.cell? ⟨gb185,7,none⟩=some (.int .u8 a0_7):=(Zb BK185.out 7).trans rfl
       have hfz21_0:=Za BK185.out 0
       have hfz21_1:=Za BK185.out 1
       have hfz21_2:=Za BK185.out 2
       have hfz21_3:=Za BK185.out 3
       have hfz21_4:=Za BK185.out 4
       have hfz21_5:=Za BK185.out 5
       have hfz21_6:=Za BK185.out 6
       have hfz21_7:=Za BK185.out 7
       go_wp2
       go_ret
       exact ⟨by first|rfl|(simp [Zp,Zq] <;> rfl)|(simp [*,Zp,Zq] <;> rfl),by repeat (first|(with_reducible first|exact HB.out|apply Ze|apply Zc|apply Zd|refine Zg ?_ GE185.out)|exact HB.out)⟩
      ·rw [if_neg c20] at H
       have c20b0 : decide (a0_4 < 2)=false:=decide_eq_false c20
       clear c20
       by_cases c22 : a0_4 > 10000
       ·rw [if_pos c22] at H
        have c22b0 : decide (10000 < a0_4)=true:=decide_eq_true c22
        clear c22
        obtain rfl:=Option.some.inj H
        have hcz23_0 : wc.cell? ⟨gb185,0,none⟩=some (.int .i64 a0_0):=(Zb BK185.out 0).trans rfl
        have hcz23_1 : wc.cell? ⟨gb185,1,none⟩=some (.int .i64 a0_1):=(Zb BK185.out 1).trans rfl
        have hcz23_2 : wc.cell? ⟨gb185,2,none⟩=some (.int .i64 a0_2):=(Zb BK185.out 2).trans rfl
        have hcz23_3 : wc.cell? ⟨gb185,3,none⟩=some (.int .i64 a0_3):=(Zb BK185.out 3).trans rfl
        have hcz23_4 : wc.cell? ⟨gb185,4,none⟩=some (.int .i64 a0_4):=(Zb BK185.out 4).trans rfl
        have hcz23_5 : wc.cell? ⟨gb185,5,none⟩=some (.int .i64 a0_5):=(Zb BK185.out 5).trans rfl
        have hcz23_6 : wc.cell? ⟨gb185,6,none⟩=some (.int .i64 a0_6):=(Zb BK185.out 6).trans rfl
        have hcz23_7 : wc.cell? ⟨gb185,7,none⟩=some (.int .u8 a0_7):=(Zb BK185.out 7).trans rfl
        have hfz23_0:=Za BK185.out 0
        have hfz23_1:=Za BK185.out 1
        have hfz23_2:=Za BK185.out 2
        have hfz23_3:=Za BK185.out 3
        have hfz23_4:=Za BK185.out 4
        have hfz23_5:=Za BK185.out 5
        have hfz23_6:=Za BK185.out 6
        have hfz23_7:=Za BK185.out 7
        go_wp2
        go_ret
        exact ⟨by first|rfl|(simp [Zp,Zq] <;> rfl)|(simp [*,Zp,Zq] <;> rfl),by repeat (first|(with_reducible first|exact HB.out|apply Ze|apply Zc|apply Zd|refine Zg ?_ GE185.out)|exact HB.out)⟩
       ·rw [if_neg c22] at H
        have c22b0 : decide (10000 < a0_4)=false:=decide_eq_false c22
        clear c22
        by_cases c24 : a0_5 < 0
        ·rw [if_pos c24] at H
         have c24b0 : decide (a0_5 < 0)=true:=decide_eq_true c24
         clear c24
         obtain rfl:=Option.some.inj H
         have hcz25_0 : wc.cell? ⟨gb185,0,none⟩=some (.int .i64 a0_0):=(Zb BK185.out 0).trans rfl
         have hcz25_1 : wc.cell? ⟨gb185,1,none⟩=some (.int .i64 a0_1):=(Zb BK185.out 1).trans rfl
         have hcz25_2 : wc.cell? ⟨gb185,2,none⟩=some (.int .i64 a0_2):=(Zb BK185.out 2).trans rfl
         have hcz25_3 : wc.cell? ⟨gb185,3,none⟩=some (.int .i64 a0_3):=(Zb BK185.out 3).trans rfl
         have hcz25_4 : wc.cell? ⟨gb185,4,none⟩=some (.int .i64 a0_4):=(Zb BK185.out 4).trans rfl
         have hcz25_5 : wc.cell? ⟨gb185,5,none⟩=some (.int .i64 a0_5):=(Zb BK185.out 5).trans rfl
         have hcz25_6 : wc.cell? ⟨gb185,6,none⟩=some (.int .i64 a0_6):=(Zb BK185.out 6).trans rfl
         have hcz25_7 : wc.cell? ⟨gb185,7,none⟩=some (.int .u8 a0_7):=(Zb BK185.out 7).trans rfl
         have hfz25_0:=Za BK185.out 0
         have hfz25_1:=Za BK185.out 1
         have hfz25_2:=Za BK185.out 2
         have hfz25_3:=Za BK185.out 3
         have hfz25_4:=Za BK185.out 4
         have hfz25_5:=Za BK185.out 5
         have hfz25_6:=Za BK185.out 6
         have hfz25_7:=Za BK185.out 7
         go_wp2
         go_ret
         exact ⟨by first|rfl|(simp [Zp,Zq] <;> rfl)|(simp [*,Zp,Zq] <;> rfl),by repeat (first|(with_reducible first|exact HB.out|apply Ze|apply Zc|apply Zd|refine Zg ?_ GE185.out)|exact HB.out)⟩
        ·rw [if_neg c24] at H
         have c24b0 : decide (a0_5 < 0)=false:=decide_eq_false c24
         clear c24
         by_cases c26 : a0_5 > 10000
         ·rw [if_pos c26] at H
          have c26b0 : decide (10000 < a0_5)=true:=decide_eq_true c26
          clear c26
          obtain rfl:=Option.some.inj H
          have hcz27_0 : wc.cell? ⟨gb185,0,none⟩=some (.int .i64 a0_0):=(Zb BK185.out 0).trans rfl
          have hcz27_1 : wc.cell? ⟨gb185,1,none⟩=some (.int .i64 a0_1):=(Zb BK185.out 1).trans rfl
          have hcz27_2 : wc.cell? ⟨gb185,2,none⟩=some (.int .i64 a0_2):=(Zb BK185.out 2).trans rfl
          have hcz27_3 : wc.cell? ⟨gb185,3,none⟩=some (.int .i64 a0_3):=(Zb BK185.out 3).trans rfl
          have hcz27_4 : wc.cell? ⟨gb185,4,none⟩=some (.int .i64 a0_4):=(Zb BK185.out 4).trans rfl
          have hcz27_5 : wc.cell? ⟨gb185,5,none⟩=some (.int .i64 a0_5):=(Zb BK185.out 5).trans rfl
          have hcz27_6 : wc.cell? ⟨gb185,6,none⟩=some (.int .i64 a0_6):=(Zb BK185.out 6).trans rfl
          have hcz27_7 : wc.cell? ⟨gb185,7,none⟩=some (.int .u8 a0_7):=(Zb BK185.out 7).trans rfl
          have hfz27_0:=Za BK185.out 0
          have hfz27_1:=Za BK185.out 1
          have hfz27_2:=Za BK185.out 2
          have hfz27_3:=Za BK185.out 3
          have hfz27_4:=Za BK185.out 4
          have hfz27_5:=Za BK185.out 5
          have hfz27_6:=Za BK185.out 6
          have hfz27_7:=Za BK185.out 7
          go_wp2
          go_ret
          exact ⟨by first|rfl|(simp [Zp,Zq] <;> rfl)|(simp [*,Zp,Zq] <;> rfl),by repeat (first|(with_reducible first|exact HB.out|apply Ze|apply Zc|apply Zd|refine Zg ?_ GE185.out)|exact HB.out)⟩
         ·rw [if_neg c26] at H
          have c26b0 : decide (10000 < a0_5)=false:=decide_eq_false c26
          clear c26
          by_cases c28 : a0_6 < 1
          ·rw [if_pos c28] at H
           have c28b0 : decide (a0_6 < 1)=true:=decide_eq_true c28
           clear c28
           obtain rfl:=Option.some.inj H
           have hcz29_0 : wc.cell? ⟨gb185,0,none⟩=some (.int .i64 a0_0):=(Zb BK185.out 0).trans rfl
           have hcz29_1 : wc.cell? ⟨gb185,1,none⟩=some (.int .i64 a0_1):=(Zb BK185.out 1).trans rfl
           have hcz29_2 : wc.cell? ⟨gb185,2,none⟩=some (.int .i64 a0_2):=(Zb BK185.out 2).trans rfl
           have hcz29_3 : wc.cell? ⟨gb185,3,none⟩=some (.int .i64 a0_3):=(Zb BK185.out 3).trans rfl
           have hcz29_4 : wc.cell? ⟨gb185,4,none⟩=some (.int .i64 a0_4):=(Zb BK185.out 4).trans rfl
           have hcz29_5 : wc.cell? ⟨gb185,5,none⟩=some (.int .i64 a0_5):=(Zb BK185.out 5).trans rfl
           have hcz29_6 : wc.cell? ⟨gb185,6,none⟩=some (.int .i64 a0_6):=(Zb BK185.out 6).trans rfl
           have hcz29_7 : wc.cell? ⟨gb185,7,none⟩=some (.int .u8 a0_7):=(Zb BK185.out 7).trans rfl
           have hfz29_0:=Za BK185.out 0
           have hfz29_1:=Za BK185.out 1
           have hfz29_2:=Za BK185.out 2
           have hfz29_3:=Za BK185.out 3
           have hfz29_4:=Za BK185.out 4
           have hfz29_5:=Za BK185.out 5
           have hfz29_6:=Za BK185.out 6
           have hfz29_7:=Za BK185.out 7
           go_wp2
           go_ret
           exact ⟨by first|rfl|(simp [Zp,Zq] <;> rfl)|(simp [*,Zp,Zq] <;> rfl),by repeat (first|(with_reducible first|exact HB.out|apply Ze|apply Zc|apply Zd|refine Zg ?_ GE185.out)|exact HB.out)⟩
          ·rw [if_neg c28] at H
           have c28b0 : decide (a0_6 < 1)=false:=decide_eq_false c28
           clear c28
           by_cases c30 : a0_6 > 1114111
           ·rw [if_pos c30] at H
            have c30b0 : decide (1114111 < a0_6)=true:=decide_eq_true c30
            clear c30
            obtain rfl:=Option.some.inj H
            have hcz31_0 : wc.cell? ⟨gb185,0,none⟩=some (.int .i64 a0_0):=(Zb BK185.out 0).trans rfl
            have hcz31_1 : wc.cell? ⟨gb185,1,none⟩=some (.int .i64 a0_1):=(Zb BK185.out 1).trans rfl
            have hcz31_2 : wc.cell? ⟨gb185,2,none⟩=some (.int .i64 a0_2):=(Zb BK185.out 2).trans rfl
            have hcz31_3 : wc.cell? ⟨gb185,3,none⟩=some (.int .i64 a0_3):=(Zb BK185.out 3).trans rfl
            have hcz31_4 : wc.cell? ⟨gb185,4,none⟩=some (.int .i64 a0_4):=(Zb BK185.out 4).trans rfl
            have hcz31_5 : wc.cell? ⟨gb185,5,none⟩=some (.int .i64 a0_5):=(Zb BK185.out 5).trans rfl
            have hcz31_6 : wc.cell? ⟨gb185,6,none⟩=some (.int .i64 a0_6):=(Zb BK185.out 6).trans rfl
            have hcz31_7 : wc.cell? ⟨gb185,7,none⟩=some (.int .u8 a0_7):=(Zb BK185.out 7).trans rfl
            have hfz31_0:=Za BK185.out 0
            have hfz31_1:=Za BK185.out 1
            have hfz31_2:=Za BK185.out 2
            have hfz31_3:=Za BK185.out 3
            have hfz31_4:=Za BK185.out 4
            have hfz31_5:=Za BK185.out 5
            have hfz31_6:=Za BK185.out 6
            have hfz31_7:=Za BK185.out 7
            go_wp2
            go_ret
            exact ⟨by first|rfl|(simp [Zp,Zq] <;> rfl)|(simp [*,Zp,Zq] <;> rfl),by repeat (first|(with_reducible first|exact HB.out|apply Ze|apply Zc|apply Zd|refine Zg ?_ GE185.out)|exact HB.out)⟩
           ·rw [if_neg c30] at H
            have c30b0 : decide (1114111 < a0_6)=false:=decide_eq_false c30
            clear c30
            by_cases c32 : a0_7 ≥ 33
            ·rw [if_pos c32] at H
             have c32b0 : decide (33≤a0_7)=true:=decide_eq_true c32
             clear c32
             by_cases c33 : a0_7≤126
             ·rw [if_pos c33] at H
              have c33b0 : decide (a0_7≤126)=true:=decide_eq_true c33
              clear c33
              by_cases c34 : (wrap64 (a0_7)) < a0_6
              ·rw [if_pos c34] at H
               have c34b0 : decide ((wrap64 (a0_7)) < a0_6)=true:=decide_eq_true c34
               clear c34
               replace H:=Option.bind_eq_some_iff.mp H
               obtain ⟨t186,A350,H⟩:=H
               replace H : (some (decide (t186 < 0)))=some r:=H
               have A35:=Zf.mk A350
               clear A350
               obtain rfl:=Option.some.inj H
               have hcz36_0 : wc.cell? ⟨gb185,0,none⟩=some (.int .i64 a0_0):=(Zb BK185.out 0).trans rfl
               have hcz36_1 : wc.cell? ⟨gb185,1,none⟩=some (.int .i64 a0_1):=(Zb BK185.out 1).trans rfl
               have hcz36_2 : wc.cell? ⟨gb185,2,none⟩=some (.int .i64 a0_2):=(Zb BK185.out 2).trans rfl
               have hcz36_3 : wc.cell? ⟨gb185,3,none⟩=some (.int .i64 a0_3):=(Zb BK185.out 3).trans rfl
               have hcz36_4 : wc.cell? ⟨gb185,4,none⟩=some (.int .i64 a0_4):=(Zb BK185.out 4).trans rfl
               have hcz36_5 : wc.cell? ⟨gb185,5,none⟩=some (.int .i64 a0_5):=(Zb BK185.out 5).trans rfl
               have hcz36_6 : wc.cell? ⟨gb185,6,none⟩=some (.int .i64 a0_6):=(Zb BK185.out 6).trans rfl
               have hcz36_7 : wc.cell? ⟨gb185,7,none⟩=some (.int .u8 a0_7):=(Zb BK185.out 7).trans rfl
               have hfz36_0:=Za BK185.out 0
               have hfz36_1:=Za BK185.out 1
               have hfz36_2:=Za BK185.out 2
               have hfz36_3:=Za BK185.out 3
               have hfz36_4:=Za BK185.out 4
               have hfz36_5:=Za BK185.out 5
               have hfz36_6:=Za BK185.out 6
               have hfz36_7:=Za BK185.out 7
               go_wp2_with (first|(go_at_call 40;(with_reducible refine (Yd.calls kj1 a0_7 a0_0 t186 _ A35.out).mono ?_);rintro e w' ⟨rfl,⟨nd,rfl⟩⟩))
               go_ret
               exact ⟨by first|rfl|(simp [Zp,Zq] <;> rfl)|(simp [*,Zp,Zq] <;> rfl),by repeat (first|(with_reducible first|exact HB.out|apply Ze|apply Zc|apply Zd|refine Zg ?_ GE185.out)|exact HB.out)⟩
              ·rw [if_neg c34] at H
               have c34b0 : decide ((wrap64 (a0_7)) < a0_6)=false:=decide_eq_false c34
               clear c34
               obtain rfl:=Option.some.inj H
               have hcz37_0 : wc.cell? ⟨gb185,0,none⟩=some (.int .i64 a0_0):=(Zb BK185.out 0).trans rfl
               have hcz37_1 : wc.cell? ⟨gb185,1,none⟩=some (.int .i64 a0_1):=(Zb BK185.out 1).trans rfl
               have hcz37_2 : wc.cell? ⟨gb185,2,none⟩=some (.int .i64 a0_2):=(Zb BK185.out 2).trans rfl
               have hcz37_3 : wc.cell? ⟨gb185,3,none⟩=some (.int .i64 a0_3):=(Zb BK185.out 3).trans rfl
               have hcz37_4 : wc.cell? ⟨gb185,4,none⟩=some (.int .i64 a0_4):=(Zb BK185.out 4).trans rfl
               have hcz37_5 : wc.cell? ⟨gb185,5,none⟩=some (.int .i64 a0_5):=(Zb BK185.out 5).trans rfl
               have hcz37_6 : wc.cell? ⟨gb185,6,none⟩=some (.int .i64 a0_6):=(Zb BK185.out 6).trans rfl
               have hcz37_7 : wc.cell? ⟨gb185,7,none⟩=some (.int .u8 a0_7):=(Zb BK185.out 7).trans rfl
               have hfz37_0:=Za BK185.out 0
               have hfz37_1:=Za BK185.out 1
               have hfz37_2:=Za BK185.out 2
               have hfz37_3:=Za BK185.out 3
               have hfz37_4:=Za BK185.out 4
               have hfz37_5:=Za BK185.out 5
               have hfz37_6:=Za BK185.out 6
               have hfz37_7:=Za BK185.out 7
               go_wp2
               go_ret
               exact ⟨by first|rfl|(simp [Zp,Zq] <;> rfl)|(simp [*,Zp,Zq] <;> rfl),by repeat (first|(with_reducible first|exact HB.out|apply Ze|apply Zc|apply Zd|refine Zg ?_ GE185.out)|exact HB.out)⟩
             ·rw [if_neg c33] at H
              have c33b0 : decide (a0_7≤126)=false:=decide_eq_false c33
              clear c33
              obtain rfl:=Option.some.inj H
              have hcz38_0 : wc.cell? ⟨gb185,0,none⟩=some (.int .i64 a0_0):=(Zb BK185.out 0).trans rfl
              have hcz38_1 : wc.cell? ⟨gb185,1,none⟩=some (.int .i64 a0_1):=(Zb BK185.out 1).trans rfl
              have hcz38_2 : wc.cell? ⟨gb185,2,none⟩=some (.int .i64 a0_2):=(Zb BK185.out 2).trans rfl
              have hcz38_3 : wc.cell? ⟨gb185,3,none⟩=some (.int .i64 a0_3):=(Zb BK185.out 3).trans rfl
              have hcz38_4 : wc.cell? ⟨gb185,4,none⟩=some (.int .i64 a0_4):=(Zb BK185.out 4).trans rfl
              have hcz38_5 : wc.cell? ⟨gb185,5,none⟩=some (.int .i64 a0_5):=(Zb BK185.out 5).trans rfl
              have hcz38_6 : wc.cell? ⟨gb185,6,none⟩=some (.int .i64 a0_6):=(Zb BK185.out 6).trans rfl
              have hcz38_7 : wc.cell? ⟨gb185,7,none⟩=some (.int .u8 a0_7):=(Zb BK185.out 7).trans rfl
              have hfz38_0:=Za BK185.out 0
              have hfz38_1:=Za BK185.out 1
              have hfz38_2:=Za BK185.out 2
              have hfz38_3:=Za BK185.out 3
              have hfz38_4:=Za BK185.out 4
              have hfz38_5:=Za BK185.out 5
              have hfz38_6:=Za BK185.out 6
              have hfz38_7:=Za BK185.out 7
              go_wp2
              go_ret
              exact ⟨by first|rfl|(simp [Zp,Zq] <;> rfl)|(simp [*,Zp,Zq] <;> rfl),by repeat (first|(with_reducible first|exact HB.out|apply Ze|apply Zc|apply Zd|refine Zg ?_ GE185.out)|exact HB.out)⟩
            ·rw [if_neg c32] at H
             have c32b0 : decide (33≤a0_7)=false:=decide_eq_false c32
             clear c32
             obtain rfl:=Option.some.inj H
             have hcz39_0 : wc.cell? ⟨gb185,0,none⟩=some (.int .i64 a0_0):=(Zb BK185.out 0).trans rfl
             have hcz39_1 : wc.cell? ⟨gb185,1,none⟩=some (.int .i64 a0_1):=(Zb BK185.out 1).trans rfl
             have hcz39_2 : wc.cell? ⟨gb185,2,none⟩=some (.int .i64 a0_2):=(Zb BK185.out 2).trans rfl
             have hcz39_3 : wc.cell? ⟨gb185,3,none⟩=some (.int .i64 a0_3):=(Zb BK185.out 3).trans rfl
             have hcz39_4 : wc.cell? ⟨gb185,4,none⟩=some (.int .i64 a0_4):=(Zb BK185.out 4).trans rfl
             have hcz39_5 : wc.cell? ⟨gb185,5,none⟩=some (.int .i64 a0_5):=(Zb BK185.out 5).trans rfl
             have hcz39_6 : wc.cell? ⟨gb185,6,none⟩=some (.int .i64 a0_6):=(Zb BK185.out 6).trans rfl
             have hcz39_7 : wc.cell? ⟨gb185,7,none⟩=some (.int .u8 a0_7):=(Zb BK185.out 7).trans rfl
             have hfz39_0:=Za BK185.out 0
             have hfz39_1:=Za BK185.out 1
             have hfz39_2:=Za BK185.out 2
             have hfz39_3:=Za BK185.out 3
             have hfz39_4:=Za BK185.out 4
             have hfz39_5:=Za BK185.out 5
             have hfz39_6:=Za BK185.out 6
             have hfz39_7:=Za BK185.out 7
             go_wp2
             go_ret
             exact ⟨by first|rfl|(simp [Zp,Zq] <;> rfl)|(simp [*,Zp,Zq] <;> rfl),by repeat (first|(with_reducible first|exact HB.out|apply Ze|apply Zc|apply Zd|refine Zg ?_ GE185.out)|exact HB.out)⟩
end Go.Proofs.YtmjlkifmbhaiiaaDoorQ.Pw
end
