/- What these functions of the program compute, and that they compute it: printed by wip/tools/orac.py over the kit's print.py; merged. -/
import Derived.Test.YtmjlkifmbhaiiaaDoorQPwx0
section
namespace Go.Proofs.YtmjlkifmbhaiiaaDoorQ.Pw
open Go.RowKit Go.Proofs.YtmjlkifmbhaiiaaDoorW.PrintWords Go.Proofs.YtmjlkifmbhaiiaaDoorW.PrintLast Go.Proofs.YtmjlkifmbhaiiaaDoorW.PrintMore
attribute [local go_sem] Go.Proofs.YtmjlkifmbhaiiaaDoor.Ye
attribute [local go_sem] max2_int min2_int max_two min_two max_three min_three max_four min_four   -- for this text's walks alone
set_option linter.unusedVariables false
set_option linter.unusedSimpArgs false
/-! ### puny_letter: function 36 -/
def puny_letter.f (a0 : Int) : Option (Int):=if a0 < 26 then (some ((wrap64 (97 + a0)) % 256)) else (some ((wrap64 ((wrap64 (48 + a0)) - 26)) % 256))
set_option maxHeartbeats 8000000 in
set_option maxRecDepth 100000 in
theorem puny_letter.calls (a0 : Int) (r : Int) (w : World) (h : puny_letter.f a0=some r) :
  Calls Tryd.prog 36 #[.int .i64 a0] w fun e w' => e=.returned (.int .u8 r)∧Yb w w':=by
 have H : (if a0 < 26 then (some ((wrap64 (97 + a0)) % 256)) else (some ((wrap64 ((wrap64 (48 + a0)) - 26)) % 256)))=some r:=h
 clear h
 by_cases c2 : a0 < 26
 ·rw [if_pos c2] at H
  have c2b0 : decide (a0 < 26)=true:=decide_eq_true c2
  clear c2
  obtain rfl:=Option.some.inj H
  go_enter Tryd.func36,Tryd.ntmps36
  go_wp2
  go_ret
  exact ⟨by first|rfl|(simp;done)|(simp [*];done),by repeat (first|exact Yb.refl _|apply Yb.step)⟩
 ·rw [if_neg c2] at H
  have c2b0 : decide (a0 < 26)=false:=decide_eq_false c2
  clear c2
  obtain rfl:=Option.some.inj H
  go_enter Tryd.func36,Tryd.ntmps36
  go_wp2
  go_ret
  exact ⟨by first|rfl|(simp;done)|(simp [*];done),by repeat (first|exact Yb.refl _|apply Yb.step)⟩
/-! ### Yj: function 55 -/
def Yj.f (a0_0 : Int) (a0_1 : Int) (a0_2 : Int) (a0_3 : Int) (a0_4 : Int) (a0_5 : Int) (a0_6 : Int) (a0_7 : Int) (a1 : Int) (a2 : Int) : Option (Int):=some (mn (mx (wrap64 (a1 - a2)) a0_1) a0_2)
set_option maxHeartbeats 8000000 in
set_option maxRecDepth 100000 in
theorem Yj.calls (a0_0 : Int) (a0_1 : Int) (a0_2 : Int) (a0_3 : Int) (a0_4 : Int) (a0_5 : Int) (a0_6 : Int) (a0_7 : Int) (a1 : Int) (a2 : Int) (r : Int) (w : World) (h : Yj.f a0_0 a0_1 a0_2 a0_3 a0_4 a0_5 a0_6 a0_7 a1 a2=some r) :
  Calls Tryd.prog 55 #[.agg #[.int .i64 a0_0,.int .i64 a0_1,.int .i64 a0_2,.int .i64 a0_3,.int .i64 a0_4,.int .i64 a0_5,.int .i64 a0_6,.int .u8 a0_7],.int .i64 a1,.int .i64 a2] w fun e w' => e=.returned (.int .i64 r)∧Below w.heap.size w w':=by
 have hu59:=Tryd.underlying59
 have HB:=Zf.mk (Below.refl w.heap.size w)
 have H : (some (mn (mx (wrap64 (a1 - a2)) a0_1) a0_2))=some r:=h
 clear h
 obtain ⟨ji4,hji4⟩ : ∃ j_ : Int,(mx (wrap64 (a1 - a2)) a0_1)=j_:=⟨_,rfl⟩
 replace H : (some (mn (ji4) a0_2))=some r:=by first|(rw [hji4] at H;exact H)|(simp only [hji4] at H ⊢;exact H)
 have hji4_ : (if (wrap64 (a1 - a2)) < a0_1 then a0_1 else (wrap64 (a1 - a2)))=ji4:=hji4
 obtain ⟨ji5,hji5⟩ : ∃ j_ : Int,(mn (ji4) a0_2)=j_:=⟨_,rfl⟩
 replace H : (some ji5)=some r:=by first|(rw [hji5] at H;exact H)|(simp only [hji5] at H ⊢;exact H)
 have hji5_ : (if a0_2 < (ji4) then a0_2 else (ji4))=ji5:=hji5
 obtain rfl:=Option.some.inj H
 go_enter Tryd.func55,Tryd.ntmps55
 go_wp2_with (first|((with_reducible refine Yh (N:=3) rfl ?_);refine Ym ?hg (N:=3) ?hd (cs:=#[.int .i64 a0_0,.int .i64 a0_1,.int .i64 a0_2,.int .i64 a0_3,.int .i64 a0_4,.int .i64 a0_5,.int .i64 a0_6,.int .u8 a0_7]) (t:=59) ?hr ?_;(case hd => rfl);(case hg => rfl);(case hr => first|(go_simp;done)|(go_simp;rfl));intro gb105 hg w6 hbox hb;have n0_:=Zf.mk (Zm (by repeat (first|(with_reducible first|exact HB.out|apply Ze|apply Zc|apply Zd)|exact HB.out)) hb);have n1_:=Zf.mk (hbox);have n2_:=Zf.mk ((by rw [hg];exact (Zo (by repeat (first|(with_reducible first|exact HB.out|apply Ze|apply Zc|apply Zd)|exact HB.out))) : w.heap.size≤gb105));have n3_:=Zf.mk ((by rw [hg];exact (Zo (by repeat (first|(with_reducible first|exact HB.out|apply Ze|apply Zc|apply Zd)|exact HB.out))) : w.heap.size≤gb105));clear HB;have HB:=n0_;have BK105:=n1_;have GW105:=n2_;have GE105:=n3_;clear n0_ n1_ n2_ n3_;clear hb hbox hg;have hcz7_0 : w6.cell? ⟨gb105,0,none⟩=some (.int .i64 a0_0):=(Zb BK105.out 0).trans rfl;have hcz7_1 : w6.cell? ⟨gb105,1,none⟩=some (.int .i64 a0_1):=(Zb BK105.out 1).trans rfl;have hcz7_2 : w6.cell? ⟨gb105,2,none⟩=some (.int .i64 a0_2):=(Zb BK105.out 2).trans rfl;have hcz7_3 : w6.cell? ⟨gb105,3,none⟩=some (.int .i64 a0_3):=(Zb BK105.out 3).trans rfl;have hcz7_4 : w6.cell? ⟨gb105,4,none⟩=some (.int .i64 a0_4):=(Zb BK105.out 4).trans rfl;have hcz7_5 : w6.cell? ⟨gb105,5,none⟩=some (.int .i64 a0_5):=(Zb BK105.out 5).trans rfl;have hcz7_6 : w6.cell? ⟨gb105,6,none⟩=some (.int .i64 a0_6):=(Zb BK105.out 6).trans rfl;have hcz7_7 : w6.cell? ⟨gb105,7,none⟩=some (.int .u8 a0_7):=(Zb BK105.out 7).trans rfl;have hfz7_0:=Za BK105.out 0;have hfz7_1:=Za BK105.out 1;have hfz7_2:=Za BK105.out 2;have hfz7_3:=Za BK105.out 3;have hfz7_4:=Za BK105.out 4;have hfz7_5:=Za BK105.out 5;have hfz7_6:=Za BK105.out 6;have hfz7_7:=Za BK105.out 7))
 go_ret
 exact ⟨by first|rfl|(simp [Zp,Zq] <;> rfl)|(simp only [← hji4,← hji5];first|rfl|(simp [Zp,Zq] <;> rfl))|(simp [*,Zp,Zq] <;> rfl),by repeat (first|(with_reducible first|exact HB.out|apply Ze|apply Zc|apply Zd|refine Zg ?_ GE105.out)|exact HB.out)⟩
end Go.Proofs.YtmjlkifmbhaiiaaDoorQ.Pw
end
section
namespace Go.Proofs.YtmjlkifmbhaiiaaDoorQ.Pw
open Go.RowKit Go.Proofs.YtmjlkifmbhaiiaaDoorW.PrintWords Go.Proofs.YtmjlkifmbhaiiaaDoorW.PrintLast Go.Proofs.YtmjlkifmbhaiiaaDoorW.PrintMore
attribute [local go_sem] Go.Proofs.YtmjlkifmbhaiiaaDoor.Ye
attribute [local go_sem] max2_int min2_int max_two min_two max_three min_three max_four min_four   -- for this text's walks alone
set_option linter.unusedVariables false
set_option linter.unusedSimpArgs false
/-! ### Ya: function 47 -/
def Ya.l0 : Nat→Int→List Int→Int→Int→Int→Int→Int→Int→Int→Int→Int→Int→Option (List Int)
 | 0,_,_,_,_,_,_,_,_,_,_,_,_ => none
 | k + 1,x2,x7,x8,x9,x107000,x107001,x107002,x107003,x107004,x107005,x107006,x107007 => (Yj.f x107000 x107001 x107002 x107003 x107004 x107005 x107006 x107007 x9 x2).bind fun t107 => (if x8 < t107 then ((puny_letter.f x8).bind fun t108 => (if x7.length < 140737488355328 then (some (x7++[t108])) else (none))) else (if (wrap64 (x107000 - t107))=0 then (none) else ((puny_letter.f (wrap64 (t107 + (Int.tmod (wrap64 (x8 - t107)) (wrap64 (x107000 - t107)))))).bind fun t112 => (if x7.length < 140737488355328 then (Ya.l0 k x2 (x7++[t112]) (wrap64 (Int.tdiv (wrap64 (x8 - t107)) (wrap64 (x107000 - t107)))) (wrap64 (x9 + x107000)) x107000 x107001 x107002 x107003 x107004 x107005 x107006 x107007) else (none)))))
def Ya.f (k : Nat) (a0_0 : Int) (a0_1 : Int) (a0_2 : Int) (a0_3 : Int) (a0_4 : Int) (a0_5 : Int) (a0_6 : Int) (a0_7 : Int) (a1 : Int) (a2 : Int) : Option (List Int):=Ya.l0 k a2 ([] : List Int) a1 a0_0 a0_0 a0_1 a0_2 a0_3 a0_4 a0_5 a0_6 a0_7
set_option maxHeartbeats 8000000 in
set_option maxRecDepth 100000 in
theorem Ya.calls (k : Nat) (a0_0 : Int) (a0_1 : Int) (a0_2 : Int) (a0_3 : Int) (a0_4 : Int) (a0_5 : Int) (a0_6 : Int) (a0_7 : Int) (a1 : Int) (a2 : Int) (r : List Int) (w : World) (h : Ya.f k a0_0 a0_1 a0_2 a0_3 a0_4 a0_5 a0_6 a0_7 a1 a2=some r) :
  Calls Tryd.prog 47 #[.agg #[.int .i64 a0_0,.int .i64 a0_1,.int .i64 a0_2,.int .i64 a0_3,.int .i64 a0_4,.int .i64 a0_5,.int .i64 a0_6,.int .u8 a0_7],.int .i64 a1,.int .i64 a2] w fun e w' => ∃ v0_ : Value,e=.returned (v0_)∧Kd.R (Kd.int .u8) 5 w' w.heap.size (fun _ => True) v0_ r∧Below w.heap.size w w':=by
 have hu59:=Tryd.underlying59
 have HB:=Zf.mk (Below.refl w.heap.size w)
 have H : (Ya.l0 k a2 ([] : List Int) a1 a0_0 a0_0 a0_1 a0_2 a0_3 a0_4 a0_5 a0_6 a0_7)=some r:=h
 clear h
 have H':=Zf.mk H
 clear H
 go_enter Tryd.func47,Tryd.ntmps47
 go_wp2_with (first|((with_reducible refine Yh (N:=3) rfl ?_);refine Ym ?hg (N:=3) ?hd (cs:=#[.int .i64 a0_0,.int .i64 a0_1,.int .i64 a0_2,.int .i64 a0_3,.int .i64 a0_4,.int .i64 a0_5,.int .i64 a0_6,.int .u8 a0_7]) (t:=59) ?hr ?_;(case hd => rfl);(case hg => rfl);(case hr => first|(go_simp;done)|(go_simp;rfl));intro gb106 hg w4 hbox hb;have n0_:=Zf.mk (Zm (by repeat (first|(with_reducible first|exact HB.out|apply Ze|apply Zc|apply Zd)|exact HB.out)) hb);have n1_:=Zf.mk (hbox);have n2_:=Zf.mk ((by rw [hg];exact (Zo (by repeat (first|(with_reducible first|exact HB.out|apply Ze|apply Zc|apply Zd)|exact HB.out))) : w.heap.size≤gb106));have n3_:=Zf.mk ((by rw [hg];exact (Zo (by repeat (first|(with_reducible first|exact HB.out|apply Ze|apply Zc|apply Zd)|exact HB.out))) : w.heap.size≤gb106));clear HB;have HB:=n0_;have BK106:=n1_;have GW106:=n2_;have GE106:=n3_;clear n0_ n1_ n2_ n3_;clear hb hbox hg;have hcz5_0 : w4.cell? ⟨gb106,0,none⟩=some (.int .i64 a0_0):=(Zb BK106.out 0).trans rfl;have hcz5_1 : w4.cell? ⟨gb106,1,none⟩=some (.int .i64 a0_1):=(Zb BK106.out 1).trans rfl;have hcz5_2 : w4.cell? ⟨gb106,2,none⟩=some (.int .i64 a0_2):=(Zb BK106.out 2).trans rfl;have hcz5_3 : w4.cell? ⟨gb106,3,none⟩=some (.int .i64 a0_3):=(Zb BK106.out 3).trans rfl;have hcz5_4 : w4.cell? ⟨gb106,4,none⟩=some (.int .i64 a0_4):=(Zb BK106.out 4).trans rfl;have hcz5_5 : w4.cell? ⟨gb106,5,none⟩=some (.int .i64 a0_5):=(Zb BK106.out 5).trans rfl;have hcz5_6 : w4.cell? ⟨gb106,6,none⟩=some (.int .i64 a0_6):=(Zb BK106.out 6).trans rfl;have hcz5_7 : w4.cell? ⟨gb106,7,none⟩=some (.int .u8 a0_7):=(Zb BK106.out 7).trans rfl;have hfz5_0:=Za BK106.out 0;have hfz5_1:=Za BK106.out 1;have hfz5_2:=Za BK106.out 2;have hfz5_3:=Za BK106.out 3;have hfz5_4:=Za BK106.out 4;have hfz5_5:=Za BK106.out 5;have hfz5_6:=Za BK106.out 6;have hfz5_7:=Za BK106.out 7))
 go_loopg [7,8,9] k (fun kq v7 v8 v9 w' => ∃ (x7_1 : List Int) (x8_1 : Int) (x9_1 : Int),v8=.int .i64 x8_1∧v9=.int .i64 x9_1∧Zf (Ya.l0 kq a2 x7_1 x8_1 x9_1 a0_0 a0_1 a0_2 a0_3 a0_4 a0_5 a0_6 a0_7=some r)∧Zf (kq≤k)∧Zf (Kd.R (Kd.int .u8) 5 w' w.heap.size (fun _ => True) v7 x7_1)∧Zf (w'.heap[gb106]?=some (.cells #[.int .i64 a0_0,.int .i64 a0_1,.int .i64 a0_2,.int .i64 a0_3,.int .i64 a0_4,.int .i64 a0_5,.int .i64 a0_6,.int .u8 a0_7] 59 (0,0)))∧Zf (Below w.heap.size w w'))
 case atStart => exact ⟨(([] : List Int)),(a1),(a0_0),(by first|rfl|(simp;done)|(simp [*];done)),(by first|rfl|(simp;done)|(simp [*];done)),H',⟨Nat.le_refl _⟩,⟨by first|exact Kd.R_nil _ _ _ _ _|exact Kd.N_nil _ _ _ _ _|exact Kd.V_nil _ _ _ _ _|exact Kd.Q_nil _ _ _ _ _|exact Kd.S_nil _ _ _ _ _⟩,⟨by (with_reducible repeat (first|refine Zk ?_ _|refine Zn ?_|refine Zl ?_ _));exact BK106.out⟩,⟨by repeat (first|(with_reducible first|exact HB.out|apply Ze|apply Zc|apply Zd|refine Zg ?_ GE106.out)|exact HB.out)⟩⟩
 case round =>
  clear H'
  try clear p2
  try clear c4
  try clear hcz5_0
  try clear hcz5_1
  try clear hcz5_2
  try clear hcz5_3
  try clear hcz5_4
  try clear hcz5_5
  try clear hcz5_6
  try clear hcz5_7
  try clear hfz5_0
  try clear hfz5_1
  try clear hfz5_2
  try clear hfz5_3
  try clear hfz5_4
  try clear hfz5_5
  try clear hfz5_6
  try clear hfz5_7
  obtain ⟨x7_1,x8_1,x9_1,rfl,rfl,HA,HK1,HO_7,BK106,HB⟩:=hrel
  cases gk with
  | zero => exact absurd HA.out (by simp [Ya.l0])
  | succ k1 =>
   have H:=HA.out
   clear HA
   simp only [Ya.l0] at H
   replace H:=Option.bind_eq_some_iff.mp H
   obtain ⟨t107,A60,H⟩:=H
   replace H : (if x8_1 < t107 then ((puny_letter.f x8_1).bind fun t108 => (if x7_1.length < 140737488355328 then (some (x7_1++[t108])) else (none))) else (if (wrap64 (a0_0 - t107))=0 then (none) else ((puny_letter.f (wrap64 (t107 + (Int.tmod (wrap64 (x8_1 - t107)) (wrap64 (a0_0 - t107)))))).bind fun t112 => (if x7_1.length < 140737488355328 then (Ya.l0 k1 a2 (x7_1++[t112]) (wrap64 (Int.tdiv (wrap64 (x8_1 - t107)) (wrap64 (a0_0 - t107)))) (wrap64 (x9_1 + a0_0)) a0_0 a0_1 a0_2 a0_3 a0_4 a0_5 a0_6 a0_7) else (none)))))=some r:=H
   have A6:=Zf.mk A60
   clear A60
   by_cases c7 : x8_1 < t107
   ·rw [if_pos c7] at H
    have c7b0 : decide (x8_1 < t107)=true:=decide_eq_true c7
    clear c7
    replace H:=Option.bind_eq_some_iff.mp H
    obtain ⟨t108,A80,H⟩:=H
    replace H : (if x7_1.length < 140737488355328 then (some (x7_1++[t108])) else (none))=some r:=H
    have A8:=Zf.mk A80
    clear A80
    by_cases c9 : x7_1.length < 140737488355328
    ·rw [if_pos c9] at H
     have LMc9:=Zf.mk c9
     clear c9
     obtain ⟨y109,hy109⟩ : ∃ y_ : List Int,y_=(x7_1++[t108]):=⟨_,rfl⟩
     replace H : (some y109)=some r:=by first|(rw [hy109];with_reducible exact H)|(have H2_:=(Option.bind_some _ _).symm.trans H;rw [hy109];with_reducible exact H2_)|(have H2_:=(Option.bind_some _ _).symm.trans H;with_reducible exact H2_)|with_reducible exact H|(rw [hy109];exact H)|exact H
     have Ny109:=Zf.mk hy109
     clear hy109
     obtain rfl:=Option.some.inj H
     have hcz10_0 : wr.cell? ⟨gb106,0,none⟩=some (.int .i64 a0_0):=(Zb BK106.out 0).trans rfl
     have hcz10_1 : wr.cell? ⟨gb106,1,none⟩=some (.int .i64 a0_1):=(Zb BK106.out 1).trans rfl
     have hcz10_2 : wr.cell? ⟨gb106,2,none⟩=some (.int .i64 a0_2):=(Zb BK106.out 2).trans rfl
     have hcz10_3 : wr.cell? ⟨gb106,3,none⟩=some (.int .i64 a0_3):=(Zb BK106.out 3).trans rfl
     have hcz10_4 : wr.cell? ⟨gb106,4,none⟩=some (.int .i64 a0_4):=(Zb BK106.out 4).trans rfl
     have hcz10_5 : wr.cell? ⟨gb106,5,none⟩=some (.int .i64 a0_5):=(Zb BK106.out 5).trans rfl
     have hcz10_6 : wr.cell? ⟨gb106,6,none⟩=some (.int .i64 a0_6):=(Zb BK106.out 6).trans rfl
     have hcz10_7 : wr.cell? ⟨gb106,7,none⟩=some (.int .u8 a0_7):=(Zb BK106.out 7).trans rfl
     have hfz10_0:=Za BK106.out 0
     have hfz10_1:=Za BK106.out 1
     have hfz10_2:=Za BK106.out 2
     have hfz10_3:=Za BK106.out 3
     have hfz10_4:=Za BK106.out 4
     have hfz10_5:=Za BK106.out 5
     have hfz10_6:=Za BK106.out 6
     have hfz10_7:=Za BK106.out 7
     go_wp2_with (first|((with_reducible refine Z0 (f:=55) rfl ?_);refine goesL_ (some 21) rfl rfl Tryd.func55 (by kernel_rfl) rfl #[.agg #[.int .i64 a0_0,.int .i64 a0_1,.int .i64 a0_2,.int .i64 a0_3,.int .i64 a0_4,.int .i64 a0_5,.int .i64 a0_6,.int .u8 a0_7],.int .i64 x9_1,.int .i64 a2] rfl (by (try simp only [List.map_toArray,List.map_cons,List.map_nil]);first|done|rfl|(simp only [List.length_drop,List.length_take];rfl)) ?_;(with_reducible refine (Yj.calls a0_0 a0_1 a0_2 a0_3 a0_4 a0_5 a0_6 a0_7 x9_1 a2 t107 _ A6.out).mono ?_);rintro e w11 ⟨rfl,hb⟩;refine ⟨_,rfl,?_⟩;have n0_:=Zf.mk (Kd.Z9 (by (with_reducible repeat (first|apply Kd.Zv|apply Kd.Zu|apply Kd.Zz));exact HO_7.out) hb);have n1_:=Zf.mk (Zw (g:=gb106) (o:=.cells #[.int .i64 a0_0,.int .i64 a0_1,.int .i64 a0_2,.int .i64 a0_3,.int .i64 a0_4,.int .i64 a0_5,.int .i64 a0_6,.int .u8 a0_7] 59 (0,0)) (by (with_reducible repeat (first|refine Zk ?_ _|refine Zn ?_|refine Zl ?_ _));exact BK106.out) hb);have n2_:=Zf.mk (Zm (by repeat (first|(with_reducible first|exact HB.out|apply Ze|apply Zc|apply Zd|refine Zg ?_ GE106.out)|exact HB.out)) hb);clear HO_7;clear BK106;clear HB;have HO_7:=n0_;have BK106:=n1_;have HB:=n2_;clear n0_ n1_ n2_;(try clear hb);(try clear hb2);(try clear hk);(try clear hi))|((with_reducible refine Z0 (f:=36) rfl ?_);refine goesL_ (some 27) rfl rfl Tryd.func36 (by kernel_rfl) rfl #[.int .i64 x8_1] rfl (by (try simp only [List.map_toArray,List.map_cons,List.map_nil]);first|done|rfl|(simp only [List.length_drop,List.length_take];rfl)) ?_;(with_reducible refine (puny_letter.calls x8_1 t108 _ A8.out).mono ?_);rintro e w' ⟨rfl,⟨nd,rfl⟩⟩;refine ⟨_,rfl,?_⟩)|((with_reducible refine gate_builtin (b:=.append) (xs:=#[.tmp 25,.tmp 28]) rfl ?_);at_builtin;refine Kd.R_append (Kd.int .u8) (w0:=w) w.heap.size rfl (.tmp 25) (.tmp 28) 35 5 (.int .u8 0) 1 rfl Tryd.underlying35 info5 rfl (by decide) (by omega) u7 x7_1 t108 [.int .u8 t108] (fun _ => True) (fun _ => False) rfl rfl ?aP (fun _ hk => hk.elim) ?aF ?aO ?aB ?aS ?aL ?_;(case aP => exact rfl);(case aB => exact (by repeat (first|(with_reducible first|exact HB.out|apply Ze|apply Zc|apply Zd|refine Zg ?_ GE106.out)|exact HB.out)));(case aF => exact (fun _ _ => trivial));(case aO => exact (by (with_reducible repeat (first|apply Kd.Zv|apply Kd.Zu|apply Kd.Zz));exact HO_7.out));(case aS => exact (Zo (by repeat (first|(with_reducible first|exact HB.out|apply Ze|apply Zc|apply Zd|refine Zg ?_ GE106.out)|exact HB.out))));(case aL => have:=LMc9.out;omega);intro v110 w12 ho hb hg hat;rw [← Ny109.out] at ho;have n0_:=Zf.mk (blk_grown (g:=gb106) (o:=.cells #[.int .i64 a0_0,.int .i64 a0_1,.int .i64 a0_2,.int .i64 a0_3,.int .i64 a0_4,.int .i64 a0_5,.int .i64 a0_6,.int .u8 a0_7] 59 (0,0)) (by (with_reducible repeat (first|refine Zk ?_ _|refine Zn ?_|refine Zl ?_ _));exact BK106.out) hg (Kd.R_ne HO_7.out BK106.out (by decide)));have n1_:=Zf.mk (hb);have n2_:=Zf.mk (ho);clear BK106;clear HB;clear HO_7;have BK106:=n0_;have HB:=n1_;have HO111:=n2_;clear n0_ n1_ n2_;clear ho hb hg hat))
     go_ret
     exact ⟨_,by first|rfl|(simp [Zp,Zq] <;> rfl)|(simp [*,Zp,Zq] <;> rfl),by (with_reducible repeat (first|apply Kd.Zv|apply Kd.Zu|apply Kd.Zz));exact HO111.out,by repeat (first|(with_reducible first|exact HB.out|apply Ze|apply Zc|apply Zd|refine Zg ?_ GE106.out)|exact HB.out)⟩
    ·rw [if_neg c9] at H
     exact absurd H (by simp)
   ·rw [if_neg c7] at H
    have c7b0 : decide (x8_1 < t107)=false:=decide_eq_false c7
    clear c7
    by_cases c13 : (wrap64 (a0_0 - t107))=0
    ·rw [if_pos c13] at H
     exact absurd H (by simp)
    ·rw [if_neg c13] at H
     have c13b0 : ((wrap64 (a0_0 - t107)) == 0)=false:=beq_eq_false_iff_ne.mpr c13
     have c13b1 : ((wrap64 (a0_0 - t107)) != 0)=true:=bne_iff_ne.mpr c13
     replace H:=Option.bind_eq_some_iff.mp H
     obtain ⟨t112,A140,H⟩:=H
     replace H : (if x7_1.length < 140737488355328 then (Ya.l0 k1 a2 (x7_1++[t112]) (wrap64 (Int.tdiv (wrap64 (x8_1 - t107)) (wrap64 (a0_0 - t107)))) (wrap64 (x9_1 + a0_0)) a0_0 a0_1 a0_2 a0_3 a0_4 a0_5 a0_6 a0_7) else (none))=some r:=H
     have A14:=Zf.mk A140
     clear A140
     by_cases c15 : x7_1.length < 140737488355328
     ·rw [if_pos c15] at H
      have LMc15:=Zf.mk c15
      clear c15
      obtain ⟨y113,hy113⟩ : ∃ y_ : List Int,y_=(x7_1++[t112]):=⟨_,rfl⟩
      replace H : (Ya.l0 k1 a2 y113 (wrap64 (Int.tdiv (wrap64 (x8_1 - t107)) (wrap64 (a0_0 - t107)))) (wrap64 (x9_1 + a0_0)) a0_0 a0_1 a0_2 a0_3 a0_4 a0_5 a0_6 a0_7)=some r:=by first|(rw [hy113];with_reducible exact H)|(have H2_:=(Option.bind_some _ _).symm.trans H;rw [hy113];with_reducible exact H2_)|(have H2_:=(Option.bind_some _ _).symm.trans H;with_reducible exact H2_)|with_reducible exact H|(rw [hy113];exact H)|exact H
      have Ny113:=Zf.mk hy113
      clear hy113
      have H':=Zf.mk H
      clear H
      have hcz16_0 : wr.cell? ⟨gb106,0,none⟩=some (.int .i64 a0_0):=(Zb BK106.out 0).trans rfl
      have hcz16_1 : wr.cell? ⟨gb106,1,none⟩=some (.int .i64 a0_1):=(Zb BK106.out 1).trans rfl
      have hcz16_2 : wr.cell? ⟨gb106,2,none⟩=some (.int .i64 a0_2):=(Zb BK106.out 2).trans rfl
      have hcz16_3 : wr.cell? ⟨gb106,3,none⟩=some (.int .i64 a0_3):=(Zb BK106.out 3).trans rfl
      have hcz16_4 : wr.cell? ⟨gb106,4,none⟩=some (.int .i64 a0_4):=(Zb BK106.out 4).trans rfl
      have hcz16_5 : wr.cell? ⟨gb106,5,none⟩=some (.int .i64 a0_5):=(Zb BK106.out 5).trans rfl
      have hcz16_6 : wr.cell? ⟨gb106,6,none⟩=some (.int .i64 a0_6):=(Zb BK106.out 6).trans rfl
      have hcz16_7 : wr.cell? ⟨gb106,7,none⟩=some (.int .u8 a0_7):=(Zb BK106.out 7).trans rfl
      have hfz16_0:=Za BK106.out 0
      have hfz16_1:=Za BK106.out 1
      have hfz16_2:=Za BK106.out 2
      have hfz16_3:=Za BK106.out 3
      have hfz16_4:=Za BK106.out 4
      have hfz16_5:=Za BK106.out 5
      have hfz16_6:=Za BK106.out 6
      have hfz16_7:=Za BK106.out 7
      go_wp2_with (first|((with_reducible refine Z0 (f:=55) rfl ?_);refine goesL_ (some 21) rfl rfl Tryd.func55 (by kernel_rfl) rfl #[.agg #[.int .i64 a0_0,.int .i64 a0_1,.int .i64 a0_2,.int .i64 a0_3,.int .i64 a0_4,.int .i64 a0_5,.int .i64 a0_6,.int .u8 a0_7],.int .i64 x9_1,.int .i64 a2] rfl (by (try simp only [List.map_toArray,List.map_cons,List.map_nil]);first|done|rfl|(simp only [List.length_drop,List.length_take];rfl)) ?_;(with_reducible refine (Yj.calls a0_0 a0_1 a0_2 a0_3 a0_4 a0_5 a0_6 a0_7 x9_1 a2 t107 _ A6.out).mono ?_);rintro e w17 ⟨rfl,hb⟩;refine ⟨_,rfl,?_⟩;have n0_:=Zf.mk (Kd.Z9 (by (with_reducible repeat (first|apply Kd.Zv|apply Kd.Zu|apply Kd.Zz));exact HO_7.out) hb);have n1_:=Zf.mk (Zw (g:=gb106) (o:=.cells #[.int .i64 a0_0,.int .i64 a0_1,.int .i64 a0_2,.int .i64 a0_3,.int .i64 a0_4,.int .i64 a0_5,.int .i64 a0_6,.int .u8 a0_7] 59 (0,0)) (by (with_reducible repeat (first|refine Zk ?_ _|refine Zn ?_|refine Zl ?_ _));exact BK106.out) hb);have n2_:=Zf.mk (Zm (by repeat (first|(with_reducible first|exact HB.out|apply Ze|apply Zc|apply Zd|refine Zg ?_ GE106.out)|exact HB.out)) hb);clear HO_7;clear BK106;clear HB;have HO_7:=n0_;have BK106:=n1_;have HB:=n2_;clear n0_ n1_ n2_;(try clear hb);(try clear hb2);(try clear hk);(try clear hi);have hcz18_0 : w17.cell? ⟨gb106,0,none⟩=some (.int .i64 a0_0):=(Zb BK106.out 0).trans rfl;have hcz18_1 : w17.cell? ⟨gb106,1,none⟩=some (.int .i64 a0_1):=(Zb BK106.out 1).trans rfl;have hcz18_2 : w17.cell? ⟨gb106,2,none⟩=some (.int .i64 a0_2):=(Zb BK106.out 2).trans rfl;have hcz18_3 : w17.cell? ⟨gb106,3,none⟩=some (.int .i64 a0_3):=(Zb BK106.out 3).trans rfl;have hcz18_4 : w17.cell? ⟨gb106,4,none⟩=some (.int .i64 a0_4):=(Zb BK106.out 4).trans rfl;have hcz18_5 : w17.cell? ⟨gb106,5,none⟩=some (.int .i64 a0_5):=(Zb BK106.out 5).trans rfl;have hcz18_6 : w17.cell? ⟨gb106,6,none⟩=some (.int .i64 a0_6):=(Zb BK106.out 6).trans rfl;have hcz18_7 : w17.cell? ⟨gb106,7,none⟩=some (.int .u8 a0_7):=(Zb BK106.out 7).trans rfl;have hfz18_0:=Za BK106.out 0;have hfz18_1:=Za BK106.out 1;have hfz18_2:=Za BK106.out 2;have hfz18_3:=Za BK106.out 3;have hfz18_4:=Za BK106.out 4;have hfz18_5:=Za BK106.out 5;have hfz18_6:=Za BK106.out 6;have hfz18_7:=Za BK106.out 7)|((with_reducible refine Z0 (f:=36) rfl ?_);refine goesL_ (some 41) rfl rfl Tryd.func36 (by kernel_rfl) rfl #[.int .i64 (wrap64 (t107 + (Int.tmod (wrap64 (x8_1 - t107)) (wrap64 (a0_0 - t107)))))] rfl (by (try simp only [List.map_toArray,List.map_cons,List.map_nil]);first|done|rfl|(simp only [List.length_drop,List.length_take];rfl)) ?_;(with_reducible refine (puny_letter.calls (wrap64 (t107 + (Int.tmod (wrap64 (x8_1 - t107)) (wrap64 (a0_0 - t107))))) t112 _ A14.out).mono ?_);rintro e w' ⟨rfl,⟨nd,rfl⟩⟩;refine ⟨_,rfl,?_⟩)|((with_reducible refine gate_builtin (b:=.append) (xs:=#[.tmp 30,.tmp 42]) rfl ?_);at_builtin;refine Kd.R_append (Kd.int .u8) (w0:=w) w.heap.size rfl (.tmp 30) (.tmp 42) 35 5 (.int .u8 0) 1 rfl Tryd.underlying35 info5 rfl (by decide) (by omega) u7 x7_1 t112 [.int .u8 t112] (fun _ => True) (fun _ => False) rfl rfl ?aP (fun _ hk => hk.elim) ?aF ?aO ?aB ?aS ?aL ?_;(case aP => exact rfl);(case aB => exact (by repeat (first|(with_reducible first|exact HB.out|apply Ze|apply Zc|apply Zd|refine Zg ?_ GE106.out)|exact HB.out)));(case aF => exact (fun _ _ => trivial));(case aO => exact (by (with_reducible repeat (first|apply Kd.Zv|apply Kd.Zu|apply Kd.Zz));exact HO_7.out));(case aS => exact (Zo (by repeat (first|(with_reducible first|exact HB.out|apply Ze|apply Zc|apply Zd|refine Zg ?_ GE106.out)|exact HB.out))));(case aL => have:=LMc15.out;omega);intro v114 w19 ho hb hg hat;rw [← Ny113.out] at ho;have n0_:=Zf.mk (blk_grown (g:=gb106) (o:=.cells #[.int .i64 a0_0,.int .i64 a0_1,.int .i64 a0_2,.int .i64 a0_3,.int .i64 a0_4,.int .i64 a0_5,.int .i64 a0_6,.int .u8 a0_7] 59 (0,0)) (by (with_reducible repeat (first|refine Zk ?_ _|refine Zn ?_|refine Zl ?_ _));exact BK106.out) hg (Kd.R_ne HO_7.out BK106.out (by decide)));have n1_:=Zf.mk (hb);have n2_:=Zf.mk (ho);clear BK106;clear HB;clear HO_7;have BK106:=n0_;have HB:=n1_;have HO115:=n2_;clear n0_ n1_ n2_;clear ho hb hg hat;have hcz20_0 : w19.cell? ⟨gb106,0,none⟩=some (.int .i64 a0_0):=(Zb BK106.out 0).trans rfl;have hcz20_1 : w19.cell? ⟨gb106,1,none⟩=some (.int .i64 a0_1):=(Zb BK106.out 1).trans rfl;have hcz20_2 : w19.cell? ⟨gb106,2,none⟩=some (.int .i64 a0_2):=(Zb BK106.out 2).trans rfl;have hcz20_3 : w19.cell? ⟨gb106,3,none⟩=some (.int .i64 a0_3):=(Zb BK106.out 3).trans rfl;have hcz20_4 : w19.cell? ⟨gb106,4,none⟩=some (.int .i64 a0_4):=(Zb BK106.out 4).trans rfl;have hcz20_5 : w19.cell? ⟨gb106,5,none⟩=some (.int .i64 a0_5):=(Zb BK106.out 5).trans rfl;have hcz20_6 : w19.cell? ⟨gb106,6,none⟩=some (.int .i64 a0_6):=(Zb BK106.out 6).trans rfl;have hcz20_7 : w19.cell? ⟨gb106,7,none⟩=some (.int .u8 a0_7):=(Zb BK106.out 7).trans rfl;have hfz20_0:=Za BK106.out 0;have hfz20_1:=Za BK106.out 1;have hfz20_2:=Za BK106.out 2;have hfz20_3:=Za BK106.out 3;have hfz20_4:=Za BK106.out 4;have hfz20_5:=Za BK106.out 5;have hfz20_6:=Za BK106.out 6;have hfz20_7:=Za BK106.out 7))
      go_roundg k1
      case measure => have:=HK1.out;omega
      case rel => exact ⟨(y113),(wrap64 (Int.tdiv (wrap64 (x8_1 - t107)) (wrap64 (a0_0 - t107)))),(wrap64 (x9_1 + a0_0)),(by first|rfl|(simp;done)|(simp [*];done)),(by first|rfl|(simp;done)|(simp [*];done)),H',⟨by have:=HK1.out;omega⟩,⟨by (with_reducible repeat (first|apply Kd.Zv|apply Kd.Zu|apply Kd.Zz));exact HO115.out⟩,⟨by (with_reducible repeat (first|refine Zk ?_ _|refine Zn ?_|refine Zl ?_ _));exact BK106.out⟩,⟨by repeat (first|(with_reducible first|exact HB.out|apply Ze|apply Zc|apply Zd|refine Zg ?_ GE106.out)|exact HB.out)⟩⟩
     ·rw [if_neg c15] at H
      exact absurd H (by simp)
end Go.Proofs.YtmjlkifmbhaiiaaDoorQ.Pw
end
