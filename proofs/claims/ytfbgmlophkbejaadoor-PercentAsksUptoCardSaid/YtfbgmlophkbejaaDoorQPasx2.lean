/- What these functions of the program compute, and that they compute it: printed by wip/tools/orac.py over the kit's print.py; merged. -/
import Derived.Test.YtfbgmlophkbejaaDoorQPasx0
import Derived.Test.YtfbgmlophkbejaaDoorQPasx1
section
namespace Go.Proofs.YtfbgmlophkbejaaDoorQ.Pas
open Go.RowKit Go.Proofs.YtfbgmlophkbejaaDoorW.PrintWords Go.Proofs.YtfbgmlophkbejaaDoorW.PrintLast Go.Proofs.YtfbgmlophkbejaaDoorW.PrintMore
attribute [local go_sem] max2_int min2_int max_two min_two max_three min_three max_four min_four   -- for this text's walks alone
set_option linter.unusedVariables false
set_option linter.unusedSimpArgs false
/-! ### Zh: function 59 -/
mutual
def Zh.l0 : Nat→List Int→List Int→Int→Option (Bool)
 | 0,_,_,_ => none
 | k + 1,x5,x8,x11 => if x11 < (x5.length : Int) then (Zh.j1 k x5 x8 x11 (decide (x11 < (x8.length : Int)))) else (Zh.j1 k x5 x8 x11 false)
def Zh.j1 : Nat→List Int→List Int→Int→Bool→Option (Bool)
 | 0,_,_,_,_ => none
 | k + 1,x5,x8,x11,x35 => if x35=true then (if 0≤x11 then (if x11 < (x5.length : Int) then (if x11 < (x8.length : Int) then (if (rd x5 x11)=(rd x8 x11) then (Zh.l0 k x5 x8 (wrap64 (x11 + 1))) else (some (decide ((rd x5 x11) < (rd x8 x11))))) else (none)) else (none)) else (none)) else (some (decide ((x5.length : Int) < (x8.length : Int))))
end
def Zh.f (k : Nat) (a0 : ByteArray) (a1 : ByteArray) : Option (Bool):=(Zj.f a0).bind fun t143 => ((Ze.f k t143).bind fun bt146 => ((Zj.f a1).bind fun t151 => ((Ze.f k t151).bind fun bt154 => (Zh.l0 k bt146.1 bt154.1 0))))
set_option maxHeartbeats 8000000 in
set_option maxRecDepth 100000 in
theorem Zh.calls (k : Nat) (a0 : ByteArray) (a1 : ByteArray) (r : Bool) (w : World) (h : Zh.f k a0 a1=some r) :
  Calls Tryd.prog 59 #[.string a0,.string a1] w fun e w' => e=.returned (.bool r)∧Below w.heap.size w w':=by
 have HB:=Zd.mk (Below.refl w.heap.size w)
 have H : ((Zj.f a0).bind fun t143 => ((Ze.f k t143).bind fun bt146 => ((Zj.f a1).bind fun t151 => ((Ze.f k t151).bind fun bt154 => (Zh.l0 k bt146.1 bt154.1 0)))))=some r:=h
 clear h
 replace H:=Option.bind_eq_some_iff.mp H
 obtain ⟨t143,A30,H⟩:=H
 replace H : ((Ze.f k t143).bind fun bt146 => ((Zj.f a1).bind fun t151 => ((Ze.f k t151).bind fun bt154 => (Zh.l0 k bt146.1 bt154.1 0))))=some r:=H
 have A3:=Zd.mk A30
 clear A30
 replace H:=Option.bind_eq_some_iff.mp H
 obtain ⟨⟨t146,t147,t148⟩,A40,H⟩:=H
 replace H : ((Zj.f a1).bind fun t151 => ((Ze.f k t151).bind fun bt154 => (Zh.l0 k t146 bt154.1 0)))=some r:=H
 have A4:=Zd.mk A40
 clear A40
 replace H:=Option.bind_eq_some_iff.mp H
 obtain ⟨t151,A50,H⟩:=H
 replace H : ((Ze.f k t151).bind fun bt154 => (Zh.l0 k t146 bt154.1 0))=some r:=H
 have A5:=Zd.mk A50
 clear A50
 replace H:=Option.bind_eq_some_iff.mp H
 obtain ⟨⟨t154,t155,t156⟩,A60,H⟩:=H
 replace H : (Zh.l0 k t146 t154 0)=some r:=H
 have A6:=Zd.mk A60
 clear A60
 have H':=Zd.mk H
 clear H
 go_enter Tryd.func59,Tryd.ntmps59
 go_wp2_with (first|(go_at_call 66;(with_reducible refine (Zj.calls a0 t143 _ A3.out).mono ?_);rintro e w7 ⟨v144,rfl,ho0,hb⟩;have n0_:=Zd.mk (Kd.R_lower ho0 (Zw (by repeat (first|(with_reducible first|exact HB.out|apply Zb|apply Za|apply Zc)|exact HB.out))));have n1_:=Zd.mk (below_step (by repeat (first|(with_reducible first|exact HB.out|apply Zb|apply Za|apply Zc)|exact HB.out)) hb);clear HB;have HO145:=n0_;have HB:=n1_;clear n0_ n1_;(try clear hb);(try clear hb2);(try clear hk);(try clear hi);(try clear ho0);obtain ⟨Ao8,co8,eo8⟩:=Kd.R_slice HO145.out;subst eo8)|(go_at_call 84;(with_reducible refine (Ze.calls k _ _ t143 t146 t147 t148 _ ?side1 ?side2 A4.out).mono ?_);(case side1 => repeat (first|exact (Kd.R_reads' HO145.out).2.2|(with_reducible refine Kd.C_alloc ?_ _)|(with_reducible refine Kd.C_drewN ?_ _)|(with_reducible refine Kd.C_drew ?_)));(case side2 => exact (Kd.R_reads' HO145.out).2.1);rintro e w9 ⟨v149,rfl,ho0,hb⟩;have n0_:=Zd.mk (Kd.R_below (by (with_reducible repeat (first|apply Kd.Zm|apply Kd.Zl|apply Kd.Zt));exact HO145.out) hb);have n1_:=Zd.mk (Kd.R_lower ho0 (Zw (by repeat (first|(with_reducible first|exact HB.out|apply Zb|apply Za|apply Zc)|exact HB.out))));have n2_:=Zd.mk (below_step (by repeat (first|(with_reducible first|exact HB.out|apply Zb|apply Za|apply Zc)|exact HB.out)) hb);clear HO145;clear HB;have HO145:=n0_;have HO150:=n1_;have HB:=n2_;clear n0_ n1_ n2_;(try clear hb);(try clear hb2);(try clear hk);(try clear hi);(try clear ho0))|(go_at_call 66;(with_reducible refine (Zj.calls a1 t151 _ A5.out).mono ?_);rintro e w10 ⟨v152,rfl,ho0,hb⟩;have n0_:=Zd.mk (Kd.R_elder' (by (with_reducible repeat (first|apply Kd.Zm|apply Kd.Zl|apply Kd.Zt));exact HO145.out) (Kd.R_base ho0) hb);have n1_:=Zd.mk (Kd.R_below (by (with_reducible repeat (first|apply Kd.Zm|apply Kd.Zl|apply Kd.Zt));exact HO150.out) hb);have n2_:=Zd.mk (Kd.R_lower (Kd.R_new' ho0 (Kd.R_lt (by (with_reducible repeat (first|apply Kd.Zm|apply Kd.Zl|apply Kd.Zt));exact HO145.out))) (Zw (by repeat (first|(with_reducible first|exact HB.out|apply Zb|apply Za|apply Zc)|exact HB.out))));have n3_:=Zd.mk (below_step (by repeat (first|(with_reducible first|exact HB.out|apply Zb|apply Za|apply Zc)|exact HB.out)) hb);clear HO145;clear HO150;clear HB;have HO145:=n0_;have HO150:=n1_;have HO153:=n2_;have HB:=n3_;clear n0_ n1_ n2_ n3_;(try clear hb);(try clear hb2);(try clear hk);(try clear hi);(try clear ho0);obtain ⟨Ao11,co11,eo11⟩:=Kd.R_slice HO153.out;subst eo11)|(go_at_call 84;(with_reducible refine (Ze.calls k _ _ t151 t154 t155 t156 _ ?side1 ?side2 A6.out).mono ?_);(case side1 => repeat (first|exact (Kd.R_reads' HO153.out).2.2|(with_reducible refine Kd.C_alloc ?_ _)|(with_reducible refine Kd.C_drewN ?_ _)|(with_reducible refine Kd.C_drew ?_)));(case side2 => exact (Kd.R_reads' HO153.out).2.1);rintro e w12 ⟨v157,rfl,ho0,hb⟩;have n0_:=Zd.mk (Kd.R_below (by (with_reducible repeat (first|apply Kd.Zm|apply Kd.Zl|apply Kd.Zt));exact HO145.out) hb);have n1_:=Zd.mk (Kd.R_elder' (by (with_reducible repeat (first|apply Kd.Zm|apply Kd.Zl|apply Kd.Zt));exact HO150.out) (Kd.R_base ho0) hb);have n2_:=Zd.mk (Kd.R_below (by (with_reducible repeat (first|apply Kd.Zm|apply Kd.Zl|apply Kd.Zt));exact HO153.out) hb);have n3_:=Zd.mk (Kd.R_lower (Kd.R_new' ho0 (Kd.R_lt (by (with_reducible repeat (first|apply Kd.Zm|apply Kd.Zl|apply Kd.Zt));exact HO150.out))) (Zw (by repeat (first|(with_reducible first|exact HB.out|apply Zb|apply Za|apply Zc)|exact HB.out))));have n4_:=Zd.mk (below_step (by repeat (first|(with_reducible first|exact HB.out|apply Zb|apply Za|apply Zc)|exact HB.out)) hb);clear HO145;clear HO150;clear HO153;clear HB;have HO145:=n0_;have HO150:=n1_;have HO153:=n2_;have HO158:=n3_;have HB:=n4_;clear n0_ n1_ n2_ n3_ n4_;(try clear hb);(try clear hb2);(try clear hk);(try clear hi);(try clear ho0)))
 repeat (go_quiet (first|(go_at_call 66;(with_reducible refine (Zj.calls a0 t143 _ A3.out).mono ?_);rintro e w7 ⟨v144,rfl,ho0,hb⟩;have n0_:=Zd.mk (Kd.R_lower ho0 (Zw (by repeat (first|(with_reducible first|exact HB.out|apply Zb|apply Za|apply Zc)|exact HB.out))));have n1_:=Zd.mk (below_step (by repeat (first|(with_reducible first|exact HB.out|apply Zb|apply Za|apply Zc)|exact HB.out)) hb);clear HB;have HO145:=n0_;have HB:=n1_;clear n0_ n1_;(try clear hb);(try clear hb2);(try clear hk);(try clear hi);(try clear ho0);obtain ⟨Ao8,co8,eo8⟩:=Kd.R_slice HO145.out;subst eo8)|(go_at_call 84;(with_reducible refine (Ze.calls k _ _ t143 t146 t147 t148 _ ?side1 ?side2 A4.out).mono ?_);(case side1 => repeat (first|exact (Kd.R_reads' HO145.out).2.2|(with_reducible refine Kd.C_alloc ?_ _)|(with_reducible refine Kd.C_drewN ?_ _)|(with_reducible refine Kd.C_drew ?_)));(case side2 => exact (Kd.R_reads' HO145.out).2.1);rintro e w9 ⟨v149,rfl,ho0,hb⟩;have n0_:=Zd.mk (Kd.R_below (by (with_reducible repeat (first|apply Kd.Zm|apply Kd.Zl|apply Kd.Zt));exact HO145.out) hb);have n1_:=Zd.mk (Kd.R_lower ho0 (Zw (by repeat (first|(with_reducible first|exact HB.out|apply Zb|apply Za|apply Zc)|exact HB.out))));have n2_:=Zd.mk (below_step (by repeat (first|(with_reducible first|exact HB.out|apply Zb|apply Za|apply Zc)|exact HB.out)) hb);clear HO145;clear HB;have HO145:=n0_;have HO150:=n1_;have HB:=n2_;clear n0_ n1_ n2_;(try clear hb);(try clear hb2);(try clear hk);(try clear hi);(try clear ho0))|(go_at_call 66;(with_reducible refine (Zj.calls a1 t151 _ A5.out).mono ?_);rintro e w10 ⟨v152,rfl,ho0,hb⟩;have n0_:=Zd.mk (Kd.R_elder' (by (with_reducible repeat (first|apply Kd.Zm|apply Kd.Zl|apply Kd.Zt));exact HO145.out) (Kd.R_base ho0) hb);have n1_:=Zd.mk (Kd.R_below (by (with_reducible repeat (first|apply Kd.Zm|apply Kd.Zl|apply Kd.Zt));exact HO150.out) hb);have n2_:=Zd.mk (Kd.R_lower (Kd.R_new' ho0 (Kd.R_lt (by (with_reducible repeat (first|apply Kd.Zm|apply Kd.Zl|apply Kd.Zt));exact HO145.out))) (Zw (by repeat (first|(with_reducible first|exact HB.out|apply Zb|apply Za|apply Zc)|exact HB.out))));have n3_:=Zd.mk (below_step (by repeat (first|(with_reducible first|exact HB.out|apply Zb|apply Za|apply Zc)|exact HB.out)) hb);clear HO145;clear HO150;clear HB;have HO145:=n0_;have HO150:=n1_;have HO153:=n2_;have HB:=n3_;clear n0_ n1_ n2_ n3_;(try clear hb);(try clear hb2);(try clear hk);(try clear hi);(try clear ho0);obtain ⟨Ao11,co11,eo11⟩:=Kd.R_slice HO153.out;subst eo11)|(go_at_call 84;(with_reducible refine (Ze.calls k _ _ t151 t154 t155 t156 _ ?side1 ?side2 A6.out).mono ?_);(case side1 => repeat (first|exact (Kd.R_reads' HO153.out).2.2|(with_reducible refine Kd.C_alloc ?_ _)|(with_reducible refine Kd.C_drewN ?_ _)|(with_reducible refine Kd.C_drew ?_)));(case side2 => exact (Kd.R_reads' HO153.out).2.1);rintro e w12 ⟨v157,rfl,ho0,hb⟩;have n0_:=Zd.mk (Kd.R_below (by (with_reducible repeat (first|apply Kd.Zm|apply Kd.Zl|apply Kd.Zt));exact HO145.out) hb);have n1_:=Zd.mk (Kd.R_elder' (by (with_reducible repeat (first|apply Kd.Zm|apply Kd.Zl|apply Kd.Zt));exact HO150.out) (Kd.R_base ho0) hb);have n2_:=Zd.mk (Kd.R_below (by (with_reducible repeat (first|apply Kd.Zm|apply Kd.Zl|apply Kd.Zt));exact HO153.out) hb);have n3_:=Zd.mk (Kd.R_lower (Kd.R_new' ho0 (Kd.R_lt (by (with_reducible repeat (first|apply Kd.Zm|apply Kd.Zl|apply Kd.Zt));exact HO150.out))) (Zw (by repeat (first|(with_reducible first|exact HB.out|apply Zb|apply Za|apply Zc)|exact HB.out))));have n4_:=Zd.mk (below_step (by repeat (first|(with_reducible first|exact HB.out|apply Zb|apply Za|apply Zc)|exact HB.out)) hb);clear HO145;clear HO150;clear HO153;clear HB;have HO145:=n0_;have HO150:=n1_;have HO153:=n2_;have HO158:=n3_;have HB:=n4_;clear n0_ n1_ n2_ n3_ n4_;(try clear hb);(try clear hb2);(try clear hk);(try clear hi);(try clear ho0)));try go_wp2_with (first|(go_at_call 66;(with_reducible refine (Zj.calls a0 t143 _ A3.out).mono ?_);rintro e w7 ⟨v144,rfl,ho0,hb⟩;have n0_:=Zd.mk (Kd.R_lower ho0 (Zw (by repeat (first|(with_reducible first|exact HB.out|apply Zb|apply Za|apply Zc)|exact HB.out))));have n1_:=Zd.mk (below_step (by repeat (first|(with_reducible first|exact HB.out|apply Zb|apply Za|apply Zc)|exact HB.out)) hb);clear HB;have HO145:=n0_;have HB:=n1_;clear n0_ n1_;(try clear hb);(try clear hb2);(try clear hk);(try clear hi);(try clear ho0);obtain ⟨Ao8,co8,eo8⟩:=Kd.R_slice HO145.out;subst eo8)|(go_at_call 84;(with_reducible refine (Ze.calls k _ _ t143 t146 t147 t148 _ ?side1 ?side2 A4.out).mono ?_);(case side1 => repeat (first|exact (Kd.R_reads' HO145.out).2.2|(with_reducible refine Kd.C_alloc ?_ _)|(with_reducible refine Kd.C_drewN ?_ _)|(with_reducible refine Kd.C_drew ?_)));(case side2 => exact (Kd.R_reads' HO145.out).2.1);rintro e w9 ⟨v149,rfl,ho0,hb⟩;have n0_:=Zd.mk (Kd.R_below (by (with_reducible repeat (first|apply Kd.Zm|apply Kd.Zl|apply Kd.Zt));exact HO145.out) hb);have n1_:=Zd.mk (Kd.R_lower ho0 (Zw (by repeat (first|(with_reducible first|exact HB.out|apply Zb|apply Za|apply Zc)|exact HB.out))));have n2_:=Zd.mk (below_step (by repeat (first|(with_reducible first|exact HB.out|apply Zb|apply Za|apply Zc)|exact HB.out)) hb);clear HO145;clear HB;have HO145:=n0_;have HO150:=n1_;have HB:=n2_;clear n0_ n1_ n2_;(try clear hb);(try clear hb2);(try clear hk);(try clear hi);(try clear ho0))|(go_at_call 66;(with_reducible refine (Zj.calls a1 t151 _ A5.out).mono ?_);rintro e w10 ⟨v152,rfl,ho0,hb⟩;have n0_:=Zd.mk (Kd.R_elder' (by (with_reducible repeat (first|apply Kd.Zm|apply Kd.Zl|apply Kd.Zt));exact HO145.out) (Kd.R_base ho0) hb);have n1_:=Zd.mk (Kd.R_below (by (with_reducible repeat (first|apply Kd.Zm|apply Kd.Zl|apply Kd.Zt));exact HO150.out) hb);have n2_:=Zd.mk (Kd.R_lower (Kd.R_new' ho0 (Kd.R_lt (by (with_reducible repeat (first|apply Kd.Zm|apply Kd.Zl|apply Kd.Zt));exact HO145.out))) (Zw (by repeat (first|(with_reducible first|exact HB.out|apply Zb|apply Za|apply Zc)|exact HB.out))));have n3_:=Zd.mk (below_step (by repeat (first|(with_reducible first|exact HB.out|apply Zb|apply Za|apply Zc)|exact HB.out)) hb);clear HO145;clear HO150;clear HB;have HO145:=n0_;have HO150:=n1_;have HO153:=n2_;have HB:=n3_;clear n0_ n1_ n2_ n3_;(try clear hb);(try clear hb2);(try clear hk);(try clear hi);(try clear ho0);obtain ⟨Ao11,co11,eo11⟩:=Kd.R_slice HO153.out;subst eo11)|(go_at_call 84;(with_reducible refine (Ze.calls k _ _ t151 t154 t155 t156 _ ?side1 ?side2 A6.out).mono ?_);(case side1 => repeat (first|exact (Kd.R_reads' HO153.out).2.2|(with_reducible refine Kd.C_alloc ?_ _)|(with_reducible refine Kd.C_drewN ?_ _)|(with_reducible refine Kd.C_drew ?_)));(case side2 => exact (Kd.R_reads' HO153.out).2.1);rintro e w12 ⟨v157,rfl,ho0,hb⟩;have n0_:=Zd.mk (Kd.R_below (by (with_reducible repeat (first|apply Kd.Zm|apply Kd.Zl|apply Kd.Zt));exact HO145.out) hb);have n1_:=Zd.mk (Kd.R_elder' (by (with_reducible repeat (first|apply Kd.Zm|apply Kd.Zl|apply Kd.Zt));exact HO150.out) (Kd.R_base ho0) hb);have n2_:=Zd.mk (Kd.R_below (by (with_reducible repeat (first|apply Kd.Zm|apply Kd.Zl|apply Kd.Zt));exact HO153.out) hb);have n3_:=Zd.mk (Kd.R_lower (Kd.R_new' ho0 (Kd.R_lt (by (with_reducible repeat (first|apply Kd.Zm|apply Kd.Zl|apply Kd.Zt));exact HO150.out))) (Zw (by repeat (first|(with_reducible first|exact HB.out|apply Zb|apply Za|apply Zc)|exact HB.out))));have n4_:=Zd.mk (below_step (by repeat (first|(with_reducible first|exact HB.out|apply Zb|apply Za|apply Zc)|exact HB.out)) hb);clear HO145;clear HO150;clear HO153;clear HB;have HO145:=n0_;have HO150:=n1_;have HO153:=n2_;have HO158:=n3_;have HB:=n4_;clear n0_ n1_ n2_ n3_ n4_;(try clear hb);(try clear hb2);(try clear hk);(try clear hi);(try clear ho0))))
 go_loopg [11] k (fun kq v11 w' => ∃ (x11_1 : Int),v11=.int .i64 x11_1∧Zd (Zh.l0 kq t146 t154 x11_1=some r)∧Zd (kq≤k)∧Zd (Kd.R (Kd.int .u16) 93 w' w.heap.size (fun k_ => some k_ ≠ (v157 : Value).ownBlock) v149 t146)∧Zd (Kd.R (Kd.int .u16) 93 w' w.heap.size (fun k_ => some k_ ≠ (v149 : Value).ownBlock) v157 t154)∧Zd (Below w.heap.size w w'))
 case atStart => exact ⟨(0),(by first|rfl|(simp;done)|(simp [*];done)),H',⟨Nat.le_refl _⟩,⟨by (with_reducible repeat (first|apply Kd.Zm|apply Kd.Zl|apply Kd.Zt));exact Kd.R_mono HO150.out (fun _ hk => hk.2)⟩,⟨by (with_reducible repeat (first|apply Kd.Zm|apply Kd.Zl|apply Kd.Zt));exact Kd.R_mono HO158.out (fun _ hk => hk.2)⟩,⟨by repeat (first|(with_reducible first|exact HB.out|apply Zb|apply Za|apply Zc)|exact HB.out)⟩⟩
 case round =>
  clear H'
  try clear p2
  try clear c5
  obtain ⟨x11_1,rfl,HA,HK1,HO_5,HO_8,HB⟩:=hrel
  cases gk with
  | zero => exact absurd HA.out (by simp [Zh.l0])
  | succ k1 =>
   have H:=HA.out
   clear HA
   simp only [Zh.l0] at H
   have HC13:=Zd.mk H
   clear H
   go_upto_region 4 with (fail)
   repeat (go_quiet (fail);go_upto_region 4 with (fail))
   go_cut [35] (fun v35 wc => ∃ (kq : Nat) (x35_12 : Bool),v35=.bool x35_12∧Zd (Zh.j1 kq t146 t154 x11_1 x35_12=some r)∧Zd (kq≤k1)∧Zd (Kd.R (Kd.int .u16) 93 wc w.heap.size (fun k_ => some k_ ≠ (v157 : Value).ownBlock) v149 t146)∧Zd (Kd.R (Kd.int .u16) 93 wc w.heap.size (fun k_ => some k_ ≠ (v149 : Value).ownBlock) v157 t154)∧Zd (Below w.heap.size w wc))
   case first =>
    have H:=HC13.out
    clear HC13
    by_cases c14 : x11_1 < (t146.length : Int)
    ·rw [if_pos c14] at H
     have c14b0 : decide (x11_1 < (t146.length : Int))=true:=decide_eq_true c14
     clear c14
     (first|rw [c14b0]|rw [c14b1]|(simp only [i64_w,i32_w];rw [c14b0])|skip)
     have H':=Zd.mk H
     clear H
     obtain ⟨Ao15,co15,eo15⟩:=Kd.R_slice HO_5.out
     subst eo15
     obtain ⟨Ao16,co16,eo16⟩:=Kd.R_slice HO_8.out
     subst eo16
     go_wp2
     repeat (go_quiet (fail);try go_wp2)
     go_meet
     case rel => exact ⟨_,(decide (x11_1 < (t154.length : Int))),(by first|rfl|(simp;done)|(simp [*];done)),H',⟨by have:=HK1.out;first|omega|exact Nat.le_refl _⟩,⟨by (with_reducible repeat (first|apply Kd.Zm|apply Kd.Zl|apply Kd.Zt));exact HO_5.out⟩,⟨by (with_reducible repeat (first|apply Kd.Zm|apply Kd.Zl|apply Kd.Zt));exact HO_8.out⟩,⟨by repeat (first|(with_reducible first|exact HB.out|apply Zb|apply Za|apply Zc)|exact HB.out)⟩⟩
    ·rw [if_neg c14] at H
     have c14b0 : decide (x11_1 < (t146.length : Int))=false:=decide_eq_false c14
     clear c14
     (first|rw [c14b0]|rw [c14b1]|(simp only [i64_w,i32_w];rw [c14b0])|skip)
     have H':=Zd.mk H
     clear H
     obtain ⟨Ao17,co17,eo17⟩:=Kd.R_slice HO_5.out
     subst eo17
     go_wp2
     repeat (go_quiet (fail);try go_wp2)
     go_meet
     case rel => exact ⟨_,(false),(by first|rfl|(simp;done)|(simp [*];done)),H',⟨by have:=HK1.out;first|omega|exact Nat.le_refl _⟩,⟨by (with_reducible repeat (first|apply Kd.Zm|apply Kd.Zl|apply Kd.Zt));exact HO_5.out⟩,⟨by (with_reducible repeat (first|apply Kd.Zm|apply Kd.Zl|apply Kd.Zt));exact HO_8.out⟩,⟨by repeat (first|(with_reducible first|exact HB.out|apply Zb|apply Za|apply Zc)|exact HB.out)⟩⟩
   case rest =>
    clear HC13
    try clear c1
    try clear p2
    try clear c5
    try clear c14
    try clear c14b0
    try clear p2
    obtain ⟨kq,x35_12,rfl,HA,HJ12,HO_5,HO_8,HB⟩:=hcut
    cases kq with
    | zero => exact absurd HA.out (by simp [Zh.j1])
    | succ kj12 =>
     have H:=HA.out
     clear HA
     simp only [Zh.j1] at H
     by_cases c18 : x35_12=true
     ·subst c18
      have H1 : (if 0≤x11_1 then (if x11_1 < (t146.length : Int) then (if x11_1 < (t154.length : Int) then (if (rd t146 x11_1)=(rd t154 x11_1) then (Zh.l0 kj12 t146 t154 (wrap64 (x11_1 + 1))) else (some (decide ((rd t146 x11_1) < (rd t154 x11_1))))) else (none)) else (none)) else (none))=some r:=by rw [if_pos rfl] at H;exact H
      clear H
      have H:=H1
      clear H1
      by_cases c19 : 0≤x11_1
      ·rw [if_pos c19] at H
       have c19b0 : decide (0≤x11_1)=true:=decide_eq_true c19
       clear c19
       by_cases c20 : x11_1 < (t146.length : Int)
       ·rw [if_pos c20] at H
        have c20b0 : decide (x11_1 < (t146.length : Int))=true:=decide_eq_true c20
        clear c20
        by_cases c21 : x11_1 < (t154.length : Int)
        ·rw [if_pos c21] at H
         have c21b0 : decide (x11_1 < (t154.length : Int))=true:=decide_eq_true c21
         clear c21
         by_cases c22 : (rd t146 x11_1)=(rd t154 x11_1)
         ·rw [if_pos c22] at H
          have c22b0 : ((rd t146 x11_1) == (rd t154 x11_1))=true:=beq_iff_eq.mpr c22
          have c22b1 : ((rd t146 x11_1) != (rd t154 x11_1))=false:=bne_eq_false_iff_eq.mpr c22
          clear c22
          have H':=Zd.mk H
          clear H
          obtain ⟨Ao23,co23,eo23⟩:=Kd.R_slice HO_5.out
          subst eo23
          have p159 : 0≤(x11_1 : Int):=of_decide_eq_true (by first|(with_reducible assumption)|assumption)
          have q159 : x11_1 < (t146.length : Int):=of_decide_eq_true (by first|(with_reducible assumption)|assumption)
          obtain ⟨ad159,e159,hx159_0⟩:=Kd.at_int (Kd.R_reads' HO_5.out).2.2 x11_1 p159 q159
          cases e159
          replace p159:=eq_true p159
          replace q159:=eq_true q159
          obtain ⟨Ao24,co24,eo24⟩:=Kd.R_slice HO_8.out
          subst eo24
          have p160 : 0≤(x11_1 : Int):=of_decide_eq_true (by first|(with_reducible assumption)|assumption)
          have q160 : x11_1 < (t154.length : Int):=of_decide_eq_true (by first|(with_reducible assumption)|assumption)
          obtain ⟨ad160,e160,hx160_0⟩:=Kd.at_int (Kd.R_reads' HO_8.out).2.2 x11_1 p160 q160
          cases e160
          replace p160:=eq_true p160
          replace q160:=eq_true q160
          go_wp2
          repeat (go_quiet (fail);try go_wp2)
          go_roundg kj12
          case measure => have:=HK1.out;have:=HJ12.out;omega
          case rel => exact ⟨(wrap64 (x11_1 + 1)),(by first|rfl|(simp;done)|(simp [*];done)),H',⟨by have:=HK1.out;have:=HJ12.out;omega⟩,⟨by (with_reducible repeat (first|apply Kd.Zm|apply Kd.Zl|apply Kd.Zt));exact HO_5.out⟩,⟨by (with_reducible repeat (first|apply Kd.Zm|apply Kd.Zl|apply Kd.Zt));exact HO_8.out⟩,⟨by repeat (first|(with_reducible first|exact HB.out|apply Zb|apply Za|apply Zc)|exact HB.out)⟩⟩
         ·rw [if_neg c22] at H
          have c22b0 : ((rd t146 x11_1) == (rd t154 x11_1))=false:=beq_eq_false_iff_ne.mpr c22
          have c22b1 : ((rd t146 x11_1) != (rd t154 x11_1))=true:=bne_iff_ne.mpr c22
          obtain rfl:=Option.some.inj H
          obtain ⟨Ao25,co25,eo25⟩:=Kd.R_slice HO_5.out
          subst eo25
          have p159 : 0≤(x11_1 : Int):=of_decide_eq_true (by first|(with_reducible assumption)|assumption)
          have q159 : x11_1 < (t146.length : Int):=of_decide_eq_true (by first|(with_reducible assumption)|assumption)
          obtain ⟨ad159,e159,hx159_0⟩:=Kd.at_int (Kd.R_reads' HO_5.out).2.2 x11_1 p159 q159
          cases e159
          replace p159:=eq_true p159
          replace q159:=eq_true q159
          obtain ⟨Ao26,co26,eo26⟩:=Kd.R_slice HO_8.out
          subst eo26
          have p160 : 0≤(x11_1 : Int):=of_decide_eq_true (by first|(with_reducible assumption)|assumption)
          have q160 : x11_1 < (t154.length : Int):=of_decide_eq_true (by first|(with_reducible assumption)|assumption)
          obtain ⟨ad160,e160,hx160_0⟩:=Kd.at_int (Kd.R_reads' HO_8.out).2.2 x11_1 p160 q160
          cases e160
          replace p160:=eq_true p160
          replace q160:=eq_true q160
          have p161 : 0≤(x11_1 : Int):=of_decide_eq_true (by first|(with_reducible assumption)|assumption)
          have q161 : x11_1 < (t146.length : Int):=of_decide_eq_true (by first|(with_reducible assumption)|assumption)
          obtain ⟨ad161,e161,hx161_0⟩:=Kd.at_int (Kd.R_reads' HO_5.out).2.2 x11_1 p161 q161
          obtain rfl : ad159=ad161:=(by injection e161)
          replace p161:=eq_true p161
          replace q161:=eq_true q161
          have p162 : 0≤(x11_1 : Int):=of_decide_eq_true (by first|(with_reducible assumption)|assumption)
          have q162 : x11_1 < (t154.length : Int):=of_decide_eq_true (by first|(with_reducible assumption)|assumption)
          obtain ⟨ad162,e162,hx162_0⟩:=Kd.at_int (Kd.R_reads' HO_8.out).2.2 x11_1 p162 q162
          obtain rfl : ad160=ad162:=(by injection e162)
          replace p162:=eq_true p162
          replace q162:=eq_true q162
          go_wp2
          repeat (go_quiet (fail);try go_wp2)
          go_ret
          exact ⟨by first|rfl|(simp [errW_none,errW_some] <;> rfl)|(simp [*,errW_none,errW_some] <;> rfl),by repeat (first|(with_reducible first|exact HB.out|apply Zb|apply Za|apply Zc)|exact HB.out)⟩
        ·rw [if_neg c21] at H
         exact absurd H (by simp)
       ·rw [if_neg c20] at H
        exact absurd H (by simp)
      ·rw [if_neg c19] at H
       exact absurd H (by simp)
     ·replace c18:=Bool.eq_false_iff.mpr c18
      subst c18
      have H1 : (some (decide ((t146.length : Int) < (t154.length : Int))))=some r:=by rw [if_neg (show ¬ (false=true) by decide)] at H;exact H
      clear H
      have H:=H1
      clear H1
      obtain rfl:=Option.some.inj H
      obtain ⟨Ao27,co27,eo27⟩:=Kd.R_slice HO_5.out
      subst eo27
      obtain ⟨Ao28,co28,eo28⟩:=Kd.R_slice HO_8.out
      subst eo28
      go_wp2
      repeat (go_quiet (fail);try go_wp2)
      go_ret
      exact ⟨by first|rfl|(simp [errW_none,errW_some] <;> rfl)|(simp [*,errW_none,errW_some] <;> rfl),by repeat (first|(with_reducible first|exact HB.out|apply Zb|apply Za|apply Zc)|exact HB.out)⟩
end Go.Proofs.YtfbgmlophkbejaaDoorQ.Pas
end
