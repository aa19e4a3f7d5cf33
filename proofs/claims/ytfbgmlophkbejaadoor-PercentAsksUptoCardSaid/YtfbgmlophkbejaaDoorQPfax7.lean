/- What these functions of the program compute, and that they compute it: printed by wip/tools/orac.py over the kit's print.py; merged. -/
import Derived.Test.YtfbgmlophkbejaaDoorQPfax0
section
namespace Go.Proofs.YtfbgmlophkbejaaDoorQ.Pfa
open Go.RowKit Go.Proofs.YtfbgmlophkbejaaDoorW.PrintWords Go.Proofs.YtfbgmlophkbejaaDoorW.PrintLast Go.Proofs.YtfbgmlophkbejaaDoorW.PrintMore
attribute [local go_sem] max2_int min2_int max_two min_two max_three min_three max_four min_four   -- for this text's walks alone
set_option linter.unusedVariables false
set_option linter.unusedSimpArgs false
/-! ### Zn: function 24 -/
def Zn.l0 : Nat→List (S35)→ByteArray→ByteArray→List (S35)→Bool→Int→Option ((List (S35)))
 | 0,_,_,_,_,_,_ => none
 | k + 1,x0,x1,x2,x7,x8,x9 => if x9 < (x0.length : Int) then (if 0≤x9 then (if ((rd_T35 x0 x9).f0).toList=x1.toList then (if x8=true then (Zn.l0 k x0 x1 x2 x7 x8 (wrap64 (x9 + 1))) else (if x7.length < 4398046511104 then (Zn.l0 k x0 x1 x2 (x7++[(⟨x1,x2⟩ : S35)]) true (wrap64 (x9 + 1))) else (none))) else (if x7.length < 4398046511104 then (Zn.l0 k x0 x1 x2 (x7++[(⟨(rd_T35 x0 x9).f0,(rd_T35 x0 x9).f1⟩ : S35)]) x8 (wrap64 (x9 + 1))) else (none))) else (none)) else (if x8=true then (some x7) else (if x7.length < 4398046511104 then (some (x7++[(⟨x1,x2⟩ : S35)])) else (none)))
def Zn.f (k : Nat) (l0 : List (S35)) (a1 : ByteArray) (a2 : ByteArray) : Option ((List (S35))):=Zn.l0 k l0 a1 a2 (([] : List (S35))) false 0
set_option maxHeartbeats 8000000 in
set_option maxRecDepth 100000 in
theorem Zn.calls (k : Nat) (A0 : Option Addr) (c0 : Nat) (l0 : List (S35)) (a1 : ByteArray) (a2 : ByteArray) (r : List (S35)) (w : World) (hr0 : Kd.C k35 w A0 l0.length l0) (hc0 : l0.length≤c0) (h : Zn.f k l0 a1 a2=some r) :
  Calls Tryd.prog 24 #[.slice A0 l0.length c0,.string a1,.string a2] w fun e w' => ∃ v0_ : Value,e=.returned (v0_)∧Kd.R k35 35 w' w.heap.size (fun _ => True) v0_ r∧Below w.heap.size w w':=by
 have hu35:=Tryd.underlying35
 have HR0:=Zd.mk hr0
 have HC0:=Zd.mk hc0
 clear hr0 hc0
 have HB:=Zd.mk (Below.refl w.heap.size w)
 have H : (Zn.l0 k l0 a1 a2 (([] : List (S35))) false 0)=some r:=h
 clear h
 obtain ⟨y221,hy221⟩ : ∃ y_ : List (S35),y_=(([] : List (S35))):=⟨_,rfl⟩
 replace H : (Zn.l0 k l0 a1 a2 y221 false 0)=some r:=by first|(rw [hy221];with_reducible exact H)|(have H2_:=(Option.bind_some _ _).symm.trans H;rw [hy221];with_reducible exact H2_)|(have H2_:=(Option.bind_some _ _).symm.trans H;with_reducible exact H2_)|with_reducible exact H|(rw [hy221];exact H)|exact H
 have Ny221:=Zd.mk hy221
 clear hy221
 have H':=Zd.mk H
 clear H
 go_enter Tryd.func24,Tryd.ntmps24
 go_wp2_with (first|((with_reducible refine gate_dst (N:=10) rfl ?_);refine Kd.R_lit k35 _ 35 ?hg (N:=10) ?hd (xs:=([] : List (S35))) (inner:=[]) (ok:=fun _ => True) (okp:=fun _ => True) ?hr ?hp (fun _ hk => hk) trivial (Below.refl _ _) (Nat.le_refl _) (by simp) ?_;(case hd => rfl);(case hg => rfl);(case hr => first|(go_simp;done)|(go_simp;rfl));(case hp => exact (Reps.none _ _));intro v222 w4 ho5 hb hg_ hnew_;clear hg_ hnew_;(first|rw [← Ny221.out] at ho5|(simp only [Int.reduceToNat] at ho5;rw [← Ny221.out] at ho5));have n0_:=Zd.mk (Kd.R_lower ho5 (Zw (by repeat (first|(with_reducible first|exact HB.out|apply Zb|apply Za|apply Zc)|exact HB.out))));have n1_:=Zd.mk (below_step (by repeat (first|(with_reducible first|exact HB.out|apply Zb|apply Za|apply Zc)|exact HB.out)) hb);clear HB;have HO223:=n0_;have HB:=n1_;clear n0_ n1_;clear hb ho5))
 go_loopg [7,8,9] k (fun kq v7 v8 v9 w' => ∃ (x7_1 : List (S35)) (x8_1 : Bool) (x9_1 : Int),v8=.bool x8_1∧v9=.int .i64 x9_1∧Zd (Zn.l0 kq l0 a1 a2 x7_1 x8_1 x9_1=some r)∧Zd (kq≤k)∧Zd (Kd.R k35 35 w' w.heap.size (fun _ => True) v7 x7_1)∧Zd (Below w.heap.size w w'))
 case atStart => exact ⟨(y221),(false),(0),(by first|rfl|(simp;done)|(simp [*];done)),(by first|rfl|(simp;done)|(simp [*];done)),H',⟨Nat.le_refl _⟩,⟨by (with_reducible repeat (first|apply Kd.Zm|apply Kd.Zl|apply Kd.Zt));exact HO223.out⟩,⟨by repeat (first|(with_reducible first|exact HB.out|apply Zb|apply Za|apply Zc)|exact HB.out)⟩⟩
 case round =>
  clear H'
  try clear c2
  try clear p2
  obtain ⟨x7_1,x8_1,x9_1,rfl,rfl,HA,HK1,HO_7,HB⟩:=hrel
  cases gk with
  | zero => exact absurd HA.out (by simp [Zn.l0])
  | succ k1 =>
   have H:=HA.out
   clear HA
   simp only [Zn.l0] at H
   by_cases c6 : x9_1 < (l0.length : Int)
   ·rw [if_pos c6] at H
    have c6b0 : decide (x9_1 < (l0.length : Int))=true:=decide_eq_true c6
    clear c6
    by_cases c7 : 0≤x9_1
    ·rw [if_pos c7] at H
     have c7b0 : decide (0≤x9_1)=true:=decide_eq_true c7
     clear c7
     by_cases c8 : ((rd_T35 l0 x9_1).f0).toList=a1.toList
     ·rw [if_pos c8] at H
      have c8b0 : (((rd_T35 l0 x9_1).f0).toList == a1.toList)=true:=beq_iff_eq.mpr c8
      have c8b1 : (((rd_T35 l0 x9_1).f0).toList != a1.toList)=false:=bne_eq_false_iff_eq.mpr c8
      clear c8
      by_cases c9 : x8_1=true
      ·subst c9
       have H1 : (Zn.l0 k1 l0 a1 a2 x7_1 true (wrap64 (x9_1 + 1)))=some r:=by rw [if_pos rfl] at H;exact H
       clear H
       have H:=H1
       clear H1
       have H':=Zd.mk H
       clear H
       have p227 : 0≤(x9_1 : Int):=of_decide_eq_true (by first|(with_reducible assumption)|assumption)
       have q227 : x9_1 < (l0.length : Int):=of_decide_eq_true (by first|(with_reducible assumption)|assumption)
       obtain ⟨ad227,e227,hx227_0,hx227_1⟩:=at_T35 HR0.out x9_1 p227 q227
       cases e227
       replace hx227_0:=(HB.out.cell (World.block_lt_of_cell? w _ hx227_0)).trans hx227_0
       replace hx227_1:=(HB.out.cell (World.block_lt_of_cell? w _ hx227_1)).trans hx227_1
       replace p227:=eq_true p227
       replace q227:=eq_true q227
       go_wp2
       go_roundg k1
       case measure => have:=HK1.out;omega
       case rel => exact ⟨(x7_1),(true),(wrap64 (x9_1 + 1)),(by first|rfl|(simp;done)|(simp [*];done)),(by first|rfl|(simp;done)|(simp [*];done)),H',⟨by have:=HK1.out;omega⟩,⟨by (with_reducible repeat (first|apply Kd.Zm|apply Kd.Zl|apply Kd.Zt));exact HO_7.out⟩,⟨by repeat (first|(with_reducible first|exact HB.out|apply Zb|apply Za|apply Zc)|exact HB.out)⟩⟩
      ·replace c9:=Bool.eq_false_iff.mpr c9
       subst c9
       have H1 : (if x7_1.length < 4398046511104 then (Zn.l0 k1 l0 a1 a2 (x7_1++[(⟨a1,a2⟩ : S35)]) true (wrap64 (x9_1 + 1))) else (none))=some r:=by rw [if_neg (show ¬ (false=true) by decide)] at H;exact H
       clear H
       have H:=H1
       clear H1
       by_cases c10 : x7_1.length < 4398046511104
       ·rw [if_pos c10] at H
        have LMc10:=Zd.mk c10
        clear c10
        obtain ⟨y228,hy228⟩ : ∃ y_ : List (S35),y_=(x7_1++[(⟨a1,a2⟩ : S35)]):=⟨_,rfl⟩
        replace H : (Zn.l0 k1 l0 a1 a2 y228 true (wrap64 (x9_1 + 1)))=some r:=by first|(rw [hy228];with_reducible exact H)|(have H2_:=(Option.bind_some _ _).symm.trans H;rw [hy228];with_reducible exact H2_)|(have H2_:=(Option.bind_some _ _).symm.trans H;with_reducible exact H2_)|with_reducible exact H|(rw [hy228];exact H)|exact H
        have Ny228:=Zd.mk hy228
        clear hy228
        have H':=Zd.mk H
        clear H
        have p227 : 0≤(x9_1 : Int):=of_decide_eq_true (by first|(with_reducible assumption)|assumption)
        have q227 : x9_1 < (l0.length : Int):=of_decide_eq_true (by first|(with_reducible assumption)|assumption)
        obtain ⟨ad227,e227,hx227_0,hx227_1⟩:=at_T35 HR0.out x9_1 p227 q227
        cases e227
        replace hx227_0:=(HB.out.cell (World.block_lt_of_cell? w _ hx227_0)).trans hx227_0
        replace hx227_1:=(HB.out.cell (World.block_lt_of_cell? w _ hx227_1)).trans hx227_1
        replace p227:=eq_true p227
        replace q227:=eq_true q227
        go_wp2_with (first|((with_reducible refine gate_builtin (b:=.append) (xs:=#[.tmp 33,.tmp 37]) rfl ?_);at_builtin;refine Kd.R_append k35 (w0:=w) w.heap.size rfl (.tmp 33) (.tmp 37) 31 35 (.agg #[(.string ⟨#[]⟩),(.string ⟨#[]⟩)]) 32 rfl Tryd.underlying31 info35 rfl (by decide) (by omega) u7 x7_1 (⟨a1,a2⟩ : S35) [.string a1,.string a2] (fun _ => True) (fun _ => False) rfl rfl ?aP (fun _ hk => hk.elim) ?aF ?aO ?aB ?aS ?aL ?_;(case aP => exact k35_mkM _ _ _ (⟨a1,a2⟩ : S35));(case aB => exact (by repeat (first|(with_reducible first|exact HB.out|apply Zb|apply Za|apply Zc)|exact HB.out)));(case aF => exact (fun _ _ => trivial));(case aO => exact (by (with_reducible repeat (first|apply Kd.Zm|apply Kd.Zl|apply Kd.Zt));exact HO_7.out));(case aS => exact (Zw (by repeat (first|(with_reducible first|exact HB.out|apply Zb|apply Za|apply Zc)|exact HB.out))));(case aL => have:=LMc10.out;omega);intro v229 w11 ho hb hg hat;rw [← Ny228.out] at ho;have n0_:=Zd.mk (hb);have n1_:=Zd.mk (ho);clear HB;clear HO_7;have HB:=n0_;have HO230:=n1_;clear n0_ n1_;clear ho hb hg hat))
        go_roundg k1
        case measure => have:=HK1.out;omega
        case rel => exact ⟨(y228),(true),(wrap64 (x9_1 + 1)),(by first|rfl|(simp;done)|(simp [*];done)),(by first|rfl|(simp;done)|(simp [*];done)),H',⟨by have:=HK1.out;omega⟩,⟨by (with_reducible repeat (first|apply Kd.Zm|apply Kd.Zl|apply Kd.Zt));exact HO230.out⟩,⟨by repeat (first|(with_reducible first|exact HB.out|apply Zb|apply Za|apply Zc)|exact HB.out)⟩⟩
       ·rw [if_neg c10] at H
        exact absurd H (by simp)
     ·rw [if_neg c8] at H
      have c8b0 : (((rd_T35 l0 x9_1).f0).toList == a1.toList)=false:=beq_eq_false_iff_ne.mpr c8
      have c8b1 : (((rd_T35 l0 x9_1).f0).toList != a1.toList)=true:=bne_iff_ne.mpr c8
      by_cases c12 : x7_1.length < 4398046511104
      ·rw [if_pos c12] at H
       have LMc12:=Zd.mk c12
       clear c12
       obtain ⟨y232,hy232⟩ : ∃ y_ : List (S35),y_=(x7_1++[(⟨(rd_T35 l0 x9_1).f0,(rd_T35 l0 x9_1).f1⟩ : S35)]):=⟨_,rfl⟩
       replace H : (Zn.l0 k1 l0 a1 a2 y232 x8_1 (wrap64 (x9_1 + 1)))=some r:=by first|(rw [hy232];with_reducible exact H)|(have H2_:=(Option.bind_some _ _).symm.trans H;rw [hy232];with_reducible exact H2_)|(have H2_:=(Option.bind_some _ _).symm.trans H;with_reducible exact H2_)|with_reducible exact H|(rw [hy232];exact H)|exact H
       have Ny232:=Zd.mk hy232
       clear hy232
       have H':=Zd.mk H
       clear H
       have p227 : 0≤(x9_1 : Int):=of_decide_eq_true (by first|(with_reducible assumption)|assumption)
       have q227 : x9_1 < (l0.length : Int):=of_decide_eq_true (by first|(with_reducible assumption)|assumption)
       obtain ⟨ad227,e227,hx227_0,hx227_1⟩:=at_T35 HR0.out x9_1 p227 q227
       cases e227
       replace hx227_0:=(HB.out.cell (World.block_lt_of_cell? w _ hx227_0)).trans hx227_0
       replace hx227_1:=(HB.out.cell (World.block_lt_of_cell? w _ hx227_1)).trans hx227_1
       replace p227:=eq_true p227
       replace q227:=eq_true q227
       have p231 : 0≤(x9_1 : Int):=of_decide_eq_true (by first|(with_reducible assumption)|assumption)
       have q231 : x9_1 < (l0.length : Int):=of_decide_eq_true (by first|(with_reducible assumption)|assumption)
       obtain ⟨ad231,e231,hx231_0,hx231_1⟩:=at_T35 HR0.out x9_1 p231 q231
       obtain rfl : ad227=ad231:=(by injection e231)
       replace hx231_0:=(HB.out.cell (World.block_lt_of_cell? w _ hx231_0)).trans hx231_0
       replace hx231_1:=(HB.out.cell (World.block_lt_of_cell? w _ hx231_1)).trans hx231_1
       replace p231:=eq_true p231
       replace q231:=eq_true q231
       go_wp2_with (first|((with_reducible refine gate_builtin (b:=.append) (xs:=#[.tmp 24,.tmp 29]) rfl ?_);at_builtin;refine Kd.R_append k35 (w0:=w) w.heap.size rfl (.tmp 24) (.tmp 29) 31 35 (.agg #[(.string ⟨#[]⟩),(.string ⟨#[]⟩)]) 32 rfl Tryd.underlying31 info35 rfl (by decide) (by omega) u7 x7_1 (⟨(rd_T35 l0 x9_1).f0,(rd_T35 l0 x9_1).f1⟩ : S35) [.string ((rd_T35 l0 x9_1).f0),.string ((rd_T35 l0 x9_1).f1)] (fun _ => True) (fun _ => False) rfl rfl ?aP (fun _ hk => hk.elim) ?aF ?aO ?aB ?aS ?aL ?_;(case aP => exact k35_mkM _ _ _ (⟨(rd_T35 l0 x9_1).f0,(rd_T35 l0 x9_1).f1⟩ : S35));(case aB => exact (by repeat (first|(with_reducible first|exact HB.out|apply Zb|apply Za|apply Zc)|exact HB.out)));(case aF => exact (fun _ _ => trivial));(case aO => exact (by (with_reducible repeat (first|apply Kd.Zm|apply Kd.Zl|apply Kd.Zt));exact HO_7.out));(case aS => exact (Zw (by repeat (first|(with_reducible first|exact HB.out|apply Zb|apply Za|apply Zc)|exact HB.out))));(case aL => have:=LMc12.out;omega);intro v233 w13 ho hb hg hat;rw [← Ny232.out] at ho;have n0_:=Zd.mk (hb);have n1_:=Zd.mk (ho);clear HB;clear HO_7;have HB:=n0_;have HO234:=n1_;clear n0_ n1_;clear ho hb hg hat))
       go_roundg k1
       case measure => have:=HK1.out;omega
       case rel => exact ⟨(y232),(x8_1),(wrap64 (x9_1 + 1)),(by first|rfl|(simp;done)|(simp [*];done)),(by first|rfl|(simp;done)|(simp [*];done)),H',⟨by have:=HK1.out;omega⟩,⟨by (with_reducible repeat (first|apply Kd.Zm|apply Kd.Zl|apply Kd.Zt));exact HO234.out⟩,⟨by repeat (first|(with_reducible first|exact HB.out|apply Zb|apply Za|apply Zc)|exact HB.out)⟩⟩
      ·rw [if_neg c12] at H
       exact absurd H (by simp)
    ·rw [if_neg c7] at H
     exact absurd H (by simp)
   ·rw [if_neg c6] at H
    have c6b0 : decide (x9_1 < (l0.length : Int))=false:=decide_eq_false c6
    clear c6
    by_cases c14 : x8_1=true
    ·subst c14
     have H1 : (some x7_1)=some r:=by rw [if_pos rfl] at H;exact H
     clear H
     have H:=H1
     clear H1
     obtain rfl:=Option.some.inj H
     go_wp2
     go_ret
     exact ⟨_,by first|rfl|(simp [errW_none,errW_some] <;> rfl)|(simp [*,errW_none,errW_some] <;> rfl),by (with_reducible repeat (first|apply Kd.Zm|apply Kd.Zl|apply Kd.Zt));exact HO_7.out,by repeat (first|(with_reducible first|exact HB.out|apply Zb|apply Za|apply Zc)|exact HB.out)⟩
    ·replace c14:=Bool.eq_false_iff.mpr c14
     subst c14
     have H1 : (if x7_1.length < 4398046511104 then (some (x7_1++[(⟨a1,a2⟩ : S35)])) else (none))=some r:=by rw [if_neg (show ¬ (false=true) by decide)] at H;exact H
     clear H
     have H:=H1
     clear H1
     by_cases c15 : x7_1.length < 4398046511104
     ·rw [if_pos c15] at H
      have LMc15:=Zd.mk c15
      clear c15
      obtain ⟨y224,hy224⟩ : ∃ y_ : List (S35),y_=(x7_1++[(⟨a1,a2⟩ : S35)]):=⟨_,rfl⟩
      replace H : (some y224)=some r:=by first|(rw [hy224];with_reducible exact H)|(have H2_:=(Option.bind_some _ _).symm.trans H;rw [hy224];with_reducible exact H2_)|(have H2_:=(Option.bind_some _ _).symm.trans H;with_reducible exact H2_)|with_reducible exact H|(rw [hy224];exact H)|exact H
      have Ny224:=Zd.mk hy224
      clear hy224
      obtain rfl:=Option.some.inj H
      go_wp2_with (first|((with_reducible refine gate_builtin (b:=.append) (xs:=#[.tmp 41,.tmp 45]) rfl ?_);at_builtin;refine Kd.R_append k35 (w0:=w) w.heap.size rfl (.tmp 41) (.tmp 45) 31 35 (.agg #[(.string ⟨#[]⟩),(.string ⟨#[]⟩)]) 32 rfl Tryd.underlying31 info35 rfl (by decide) (by omega) u7 x7_1 (⟨a1,a2⟩ : S35) [.string a1,.string a2] (fun _ => True) (fun _ => False) rfl rfl ?aP (fun _ hk => hk.elim) ?aF ?aO ?aB ?aS ?aL ?_;(case aP => exact k35_mkM _ _ _ (⟨a1,a2⟩ : S35));(case aB => exact (by repeat (first|(with_reducible first|exact HB.out|apply Zb|apply Za|apply Zc)|exact HB.out)));(case aF => exact (fun _ _ => trivial));(case aO => exact (by (with_reducible repeat (first|apply Kd.Zm|apply Kd.Zl|apply Kd.Zt));exact HO_7.out));(case aS => exact (Zw (by repeat (first|(with_reducible first|exact HB.out|apply Zb|apply Za|apply Zc)|exact HB.out))));(case aL => have:=LMc15.out;omega);intro v225 w16 ho hb hg hat;rw [← Ny224.out] at ho;have n0_:=Zd.mk (hb);have n1_:=Zd.mk (ho);clear HB;clear HO_7;have HB:=n0_;have HO226:=n1_;clear n0_ n1_;clear ho hb hg hat))
      go_ret
      exact ⟨_,by first|rfl|(simp [errW_none,errW_some] <;> rfl)|(simp [*,errW_none,errW_some] <;> rfl),by (with_reducible repeat (first|apply Kd.Zm|apply Kd.Zl|apply Kd.Zt));exact HO226.out,by repeat (first|(with_reducible first|exact HB.out|apply Zb|apply Za|apply Zc)|exact HB.out)⟩
     ·rw [if_neg c15] at H
      exact absurd H (by simp)
end Go.Proofs.YtfbgmlophkbejaaDoorQ.Pfa
end
section
namespace Go.Proofs.YtfbgmlophkbejaaDoorQ.Pfa
open Go.RowKit Go.Proofs.YtfbgmlophkbejaaDoorW.PrintWords Go.Proofs.YtfbgmlophkbejaaDoorW.PrintLast Go.Proofs.YtfbgmlophkbejaaDoorW.PrintMore
attribute [local go_sem] max2_int min2_int max_two min_two max_three min_three max_four min_four   -- for this text's walks alone
set_option linter.unusedVariables false
set_option linter.unusedSimpArgs false
/-! ### Zk: function 25 -/
def Zk.l0 : Nat→List (S35)→ByteArray→List (S35)→Int→Option ((List (S35)))
 | 0,_,_,_,_ => none
 | k + 1,x0,x1,x5,x6 => if x6 < (x0.length : Int) then (if 0≤x6 then (if ((rd_T35 x0 x6).f0).toList=x1.toList then (Zk.l0 k x0 x1 x5 (wrap64 (x6 + 1))) else (if x5.length < 4398046511104 then (Zk.l0 k x0 x1 (x5++[(⟨(rd_T35 x0 x6).f0,(rd_T35 x0 x6).f1⟩ : S35)]) (wrap64 (x6 + 1))) else (none))) else (none)) else (some x5)
def Zk.f (k : Nat) (l0 : List (S35)) (a1 : ByteArray) : Option ((List (S35))):=Zk.l0 k l0 a1 (([] : List (S35))) 0
set_option maxHeartbeats 8000000 in
set_option maxRecDepth 100000 in
theorem Zk.calls (k : Nat) (A0 : Option Addr) (c0 : Nat) (l0 : List (S35)) (a1 : ByteArray) (r : List (S35)) (w : World) (hr0 : Kd.C k35 w A0 l0.length l0) (hc0 : l0.length≤c0) (h : Zk.f k l0 a1=some r) :
  Calls Tryd.prog 25 #[.slice A0 l0.length c0,.string a1] w fun e w' => ∃ v0_ : Value,e=.returned (v0_)∧Kd.R k35 35 w' w.heap.size (fun _ => True) v0_ r∧Below w.heap.size w w':=by
 have hu35:=Tryd.underlying35
 have HR0:=Zd.mk hr0
 have HC0:=Zd.mk hc0
 clear hr0 hc0
 have HB:=Zd.mk (Below.refl w.heap.size w)
 have H : (Zk.l0 k l0 a1 (([] : List (S35))) 0)=some r:=h
 clear h
 obtain ⟨y235,hy235⟩ : ∃ y_ : List (S35),y_=(([] : List (S35))):=⟨_,rfl⟩
 replace H : (Zk.l0 k l0 a1 y235 0)=some r:=by first|(rw [hy235];with_reducible exact H)|(have H2_:=(Option.bind_some _ _).symm.trans H;rw [hy235];with_reducible exact H2_)|(have H2_:=(Option.bind_some _ _).symm.trans H;with_reducible exact H2_)|with_reducible exact H|(rw [hy235];exact H)|exact H
 have Ny235:=Zd.mk hy235
 clear hy235
 have H':=Zd.mk H
 clear H
 go_enter Tryd.func25,Tryd.ntmps25
 go_wp2_with (first|((with_reducible refine gate_dst (N:=7) rfl ?_);refine Kd.R_lit k35 _ 35 ?hg (N:=7) ?hd (xs:=([] : List (S35))) (inner:=[]) (ok:=fun _ => True) (okp:=fun _ => True) ?hr ?hp (fun _ hk => hk) trivial (Below.refl _ _) (Nat.le_refl _) (by simp) ?_;(case hd => rfl);(case hg => rfl);(case hr => first|(go_simp;done)|(go_simp;rfl));(case hp => exact (Reps.none _ _));intro v236 w3 ho4 hb hg_ hnew_;clear hg_ hnew_;(first|rw [← Ny235.out] at ho4|(simp only [Int.reduceToNat] at ho4;rw [← Ny235.out] at ho4));have n0_:=Zd.mk (Kd.R_lower ho4 (Zw (by repeat (first|(with_reducible first|exact HB.out|apply Zb|apply Za|apply Zc)|exact HB.out))));have n1_:=Zd.mk (below_step (by repeat (first|(with_reducible first|exact HB.out|apply Zb|apply Za|apply Zc)|exact HB.out)) hb);clear HB;have HO237:=n0_;have HB:=n1_;clear n0_ n1_;clear hb ho4))
 go_loopg [5,6] k (fun kq v5 v6 w' => ∃ (x5_1 : List (S35)) (x6_1 : Int),v6=.int .i64 x6_1∧Zd (Zk.l0 kq l0 a1 x5_1 x6_1=some r)∧Zd (kq≤k)∧Zd (Kd.R k35 35 w' w.heap.size (fun _ => True) v5 x5_1)∧Zd (Below w.heap.size w w'))
 case atStart => exact ⟨(y235),(0),(by first|rfl|(simp;done)|(simp [*];done)),H',⟨Nat.le_refl _⟩,⟨by (with_reducible repeat (first|apply Kd.Zm|apply Kd.Zl|apply Kd.Zt));exact HO237.out⟩,⟨by repeat (first|(with_reducible first|exact HB.out|apply Zb|apply Za|apply Zc)|exact HB.out)⟩⟩
 case round =>
  clear H'
  try clear c2
  try clear p2
  obtain ⟨x5_1,x6_1,rfl,HA,HK1,HO_5,HB⟩:=hrel
  cases gk with
  | zero => exact absurd HA.out (by simp [Zk.l0])
  | succ k1 =>
   have H:=HA.out
   clear HA
   simp only [Zk.l0] at H
   by_cases c5 : x6_1 < (l0.length : Int)
   ·rw [if_pos c5] at H
    have c5b0 : decide (x6_1 < (l0.length : Int))=true:=decide_eq_true c5
    clear c5
    by_cases c6 : 0≤x6_1
    ·rw [if_pos c6] at H
     have c6b0 : decide (0≤x6_1)=true:=decide_eq_true c6
     clear c6
     by_cases c7 : ((rd_T35 l0 x6_1).f0).toList=a1.toList
     ·rw [if_pos c7] at H
      have c7b0 : (((rd_T35 l0 x6_1).f0).toList == a1.toList)=true:=beq_iff_eq.mpr c7
      have c7b1 : (((rd_T35 l0 x6_1).f0).toList != a1.toList)=false:=bne_eq_false_iff_eq.mpr c7
      clear c7
      have H':=Zd.mk H
      clear H
      have p238 : 0≤(x6_1 : Int):=of_decide_eq_true (by first|(with_reducible assumption)|assumption)
      have q238 : x6_1 < (l0.length : Int):=of_decide_eq_true (by first|(with_reducible assumption)|assumption)
      obtain ⟨ad238,e238,hx238_0,hx238_1⟩:=at_T35 HR0.out x6_1 p238 q238
      cases e238
      replace hx238_0:=(HB.out.cell (World.block_lt_of_cell? w _ hx238_0)).trans hx238_0
      replace hx238_1:=(HB.out.cell (World.block_lt_of_cell? w _ hx238_1)).trans hx238_1
      replace p238:=eq_true p238
      replace q238:=eq_true q238
      go_wp2
      go_roundg k1
      case measure => have:=HK1.out;omega
      case rel => exact ⟨(x5_1),(wrap64 (x6_1 + 1)),(by first|rfl|(simp;done)|(simp [*];done)),H',⟨by have:=HK1.out;omega⟩,⟨by (with_reducible repeat (first|apply Kd.Zm|apply Kd.Zl|apply Kd.Zt));exact HO_5.out⟩,⟨by repeat (first|(with_reducible first|exact HB.out|apply Zb|apply Za|apply Zc)|exact HB.out)⟩⟩
     ·rw [if_neg c7] at H
      have c7b0 : (((rd_T35 l0 x6_1).f0).toList == a1.toList)=false:=beq_eq_false_iff_ne.mpr c7
      have c7b1 : (((rd_T35 l0 x6_1).f0).toList != a1.toList)=true:=bne_iff_ne.mpr c7
      by_cases c8 : x5_1.length < 4398046511104
      ·rw [if_pos c8] at H
       have LMc8:=Zd.mk c8
       clear c8
       obtain ⟨y240,hy240⟩ : ∃ y_ : List (S35),y_=(x5_1++[(⟨(rd_T35 l0 x6_1).f0,(rd_T35 l0 x6_1).f1⟩ : S35)]):=⟨_,rfl⟩
       replace H : (Zk.l0 k1 l0 a1 y240 (wrap64 (x6_1 + 1)))=some r:=by first|(rw [hy240];with_reducible exact H)|(have H2_:=(Option.bind_some _ _).symm.trans H;rw [hy240];with_reducible exact H2_)|(have H2_:=(Option.bind_some _ _).symm.trans H;with_reducible exact H2_)|with_reducible exact H|(rw [hy240];exact H)|exact H
       have Ny240:=Zd.mk hy240
       clear hy240
       have H':=Zd.mk H
       clear H
       have p238 : 0≤(x6_1 : Int):=of_decide_eq_true (by first|(with_reducible assumption)|assumption)
       have q238 : x6_1 < (l0.length : Int):=of_decide_eq_true (by first|(with_reducible assumption)|assumption)
       obtain ⟨ad238,e238,hx238_0,hx238_1⟩:=at_T35 HR0.out x6_1 p238 q238
       cases e238
       replace hx238_0:=(HB.out.cell (World.block_lt_of_cell? w _ hx238_0)).trans hx238_0
       replace hx238_1:=(HB.out.cell (World.block_lt_of_cell? w _ hx238_1)).trans hx238_1
       replace p238:=eq_true p238
       replace q238:=eq_true q238
       have p239 : 0≤(x6_1 : Int):=of_decide_eq_true (by first|(with_reducible assumption)|assumption)
       have q239 : x6_1 < (l0.length : Int):=of_decide_eq_true (by first|(with_reducible assumption)|assumption)
       obtain ⟨ad239,e239,hx239_0,hx239_1⟩:=at_T35 HR0.out x6_1 p239 q239
       obtain rfl : ad238=ad239:=(by injection e239)
       replace hx239_0:=(HB.out.cell (World.block_lt_of_cell? w _ hx239_0)).trans hx239_0
       replace hx239_1:=(HB.out.cell (World.block_lt_of_cell? w _ hx239_1)).trans hx239_1
       replace p239:=eq_true p239
       replace q239:=eq_true q239
       go_wp2_with (first|((with_reducible refine gate_builtin (b:=.append) (xs:=#[.tmp 21,.tmp 26]) rfl ?_);at_builtin;refine Kd.R_append k35 (w0:=w) w.heap.size rfl (.tmp 21) (.tmp 26) 31 35 (.agg #[(.string ⟨#[]⟩),(.string ⟨#[]⟩)]) 32 rfl Tryd.underlying31 info35 rfl (by decide) (by omega) u5 x5_1 (⟨(rd_T35 l0 x6_1).f0,(rd_T35 l0 x6_1).f1⟩ : S35) [.string ((rd_T35 l0 x6_1).f0),.string ((rd_T35 l0 x6_1).f1)] (fun _ => True) (fun _ => False) rfl rfl ?aP (fun _ hk => hk.elim) ?aF ?aO ?aB ?aS ?aL ?_;(case aP => exact k35_mkM _ _ _ (⟨(rd_T35 l0 x6_1).f0,(rd_T35 l0 x6_1).f1⟩ : S35));(case aB => exact (by repeat (first|(with_reducible first|exact HB.out|apply Zb|apply Za|apply Zc)|exact HB.out)));(case aF => exact (fun _ _ => trivial));(case aO => exact (by (with_reducible repeat (first|apply Kd.Zm|apply Kd.Zl|apply Kd.Zt));exact HO_5.out));(case aS => exact (Zw (by repeat (first|(with_reducible first|exact HB.out|apply Zb|apply Za|apply Zc)|exact HB.out))));(case aL => have:=LMc8.out;omega);intro v241 w9 ho hb hg hat;rw [← Ny240.out] at ho;have n0_:=Zd.mk (hb);have n1_:=Zd.mk (ho);clear HB;clear HO_5;have HB:=n0_;have HO242:=n1_;clear n0_ n1_;clear ho hb hg hat))
       go_roundg k1
       case measure => have:=HK1.out;omega
       case rel => exact ⟨(y240),(wrap64 (x6_1 + 1)),(by first|rfl|(simp;done)|(simp [*];done)),H',⟨by have:=HK1.out;omega⟩,⟨by (with_reducible repeat (first|apply Kd.Zm|apply Kd.Zl|apply Kd.Zt));exact HO242.out⟩,⟨by repeat (first|(with_reducible first|exact HB.out|apply Zb|apply Za|apply Zc)|exact HB.out)⟩⟩
      ·rw [if_neg c8] at H
       exact absurd H (by simp)
    ·rw [if_neg c6] at H
     exact absurd H (by simp)
   ·rw [if_neg c5] at H
    have c5b0 : decide (x6_1 < (l0.length : Int))=false:=decide_eq_false c5
    clear c5
    obtain rfl:=Option.some.inj H
    go_wp2
    go_ret
    exact ⟨_,by first|rfl|(simp [errW_none,errW_some] <;> rfl)|(simp [*,errW_none,errW_some] <;> rfl),by (with_reducible repeat (first|apply Kd.Zm|apply Kd.Zl|apply Kd.Zt));exact HO_5.out,by repeat (first|(with_reducible first|exact HB.out|apply Zb|apply Za|apply Zc)|exact HB.out)⟩
end Go.Proofs.YtfbgmlophkbejaaDoorQ.Pfa
end
section
namespace Go.Proofs.YtfbgmlophkbejaaDoorQ.Pfa
open Go.RowKit Go.Proofs.YtfbgmlophkbejaaDoorW.PrintWords Go.Proofs.YtfbgmlophkbejaaDoorW.PrintLast Go.Proofs.YtfbgmlophkbejaaDoorW.PrintMore
attribute [local go_sem] max2_int min2_int max_two min_two max_three min_three max_four min_four   -- for this text's walks alone
set_option linter.unusedVariables false
set_option linter.unusedSimpArgs false
/-! ### percent_All: function 19 -/
def percent_All.l0 : Nat→ByteArray→List ByteArray→List (S46)→Int→Int→Option (List ByteArray)
 | 0,_,_,_,_,_ => none
 | k + 1,x1,x5,x8,x9,x10 => if x10 < x9 then (if 0≤x10 then (if x10 < (x8.length : Int) then (if ((Zq x8 x10).f0).toList=x1.toList then (if x5.length < 8796093022208 then (percent_All.l0 k x1 (x5++[(Zq x8 x10).f1]) x8 x9 (wrap64 (x10 + 1))) else (none)) else (percent_All.l0 k x1 x5 x8 x9 (wrap64 (x10 + 1)))) else (none)) else (none)) else (some x5)
def percent_All.f (k : Nat) (l0 : List (S46)) (a1 : ByteArray) : Option (List ByteArray):=percent_All.l0 k a1 ([] : List ByteArray) l0 (l0.length : Int) 0
set_option maxHeartbeats 8000000 in
set_option maxRecDepth 100000 in
theorem percent_All.calls (k : Nat) (A0 : Option Addr) (c0 : Nat) (l0 : List (S46)) (a1 : ByteArray) (r : List ByteArray) (w : World) (hr0 : Kd.C k46 w A0 l0.length l0) (hc0 : l0.length≤c0) (h : percent_All.f k l0 a1=some r) :
  Calls Tryd.prog 19 #[.slice A0 l0.length c0,.string a1] w fun e w' => ∃ v0_ : Value,e=.returned (v0_)∧Kd.R Kd.string 9 w' w.heap.size (fun _ => True) v0_ r∧Below w.heap.size w w':=by
 have hu46:=Tryd.underlying46
 have HR0:=Zd.mk hr0
 have HC0:=Zd.mk hc0
 clear hr0 hc0
 have HB:=Zd.mk (Below.refl w.heap.size w)
 have H : (percent_All.l0 k a1 ([] : List ByteArray) l0 (l0.length : Int) 0)=some r:=h
 clear h
 have H':=Zd.mk H
 clear H
 go_enter Tryd.func19,Tryd.ntmps19
 go_wp2
 go_loopg [5,10] k (fun kq v5 v10 w' => ∃ (x5_1 : List ByteArray) (x10_1 : Int),v10=.int .i64 x10_1∧Zd (percent_All.l0 kq a1 x5_1 l0 (l0.length : Int) x10_1=some r)∧Zd (kq≤k)∧Zd (Kd.R Kd.string 9 w' w.heap.size (fun _ => True) v5 x5_1)∧Zd (Below w.heap.size w w'))
 case atStart => exact ⟨(([] : List ByteArray)),(0),(by first|rfl|(simp;done)|(simp [*];done)),H',⟨Nat.le_refl _⟩,⟨by first|exact Kd.R_nil _ _ _ _ _|exact Kd.N_nil _ _ _ _ _|exact Kd.V_nil _ _ _ _ _|exact Kd.Q_nil _ _ _ _ _|exact Kd.S_nil _ _ _ _ _⟩,⟨by repeat (first|(with_reducible first|exact HB.out|apply Zb|apply Za|apply Zc)|exact HB.out)⟩⟩
 case round =>
  clear H'
  try clear c1
  try clear p2
  obtain ⟨x5_1,x10_1,rfl,HA,HK1,HO_5,HB⟩:=hrel
  cases gk with
  | zero => exact absurd HA.out (by simp [percent_All.l0])
  | succ k1 =>
   have H:=HA.out
   clear HA
   simp only [percent_All.l0] at H
   by_cases c3 : x10_1 < (l0.length : Int)
   ·rw [if_pos c3] at H
    have c3b0 : decide (x10_1 < (l0.length : Int))=true:=decide_eq_true c3
    clear c3
    by_cases c4 : 0≤x10_1
    ·rw [if_pos c4] at H
     have c4b0 : decide (0≤x10_1)=true:=decide_eq_true c4
     clear c4
     by_cases c5 : x10_1 < (l0.length : Int)
     ·rw [if_pos c5] at H
      have c5b0 : decide (x10_1 < (l0.length : Int))=true:=decide_eq_true c5
      clear c5
      by_cases c6 : ((Zq l0 x10_1).f0).toList=a1.toList
      ·rw [if_pos c6] at H
       have c6b0 : (((Zq l0 x10_1).f0).toList == a1.toList)=true:=beq_iff_eq.mpr c6
       have c6b1 : (((Zq l0 x10_1).f0).toList != a1.toList)=false:=bne_eq_false_iff_eq.mpr c6
       clear c6
       by_cases c7 : x5_1.length < 8796093022208
       ·rw [if_pos c7] at H
        have LMc7:=Zd.mk c7
        clear c7
        obtain ⟨y245,hy245⟩ : ∃ y_ : List ByteArray,y_=(x5_1++[(Zq l0 x10_1).f1]):=⟨_,rfl⟩
        replace H : (percent_All.l0 k1 a1 y245 l0 (l0.length : Int) (wrap64 (x10_1 + 1)))=some r:=by first|(rw [hy245];with_reducible exact H)|(have H2_:=(Option.bind_some _ _).symm.trans H;rw [hy245];with_reducible exact H2_)|(have H2_:=(Option.bind_some _ _).symm.trans H;with_reducible exact H2_)|with_reducible exact H|(rw [hy245];exact H)|exact H
        have Ny245:=Zd.mk hy245
        clear hy245
        have H':=Zd.mk H
        clear H
        have p243 : 0≤(x10_1 : Int):=of_decide_eq_true (by first|(with_reducible assumption)|assumption)
        have q243 : x10_1 < (l0.length : Int):=of_decide_eq_true (by first|(with_reducible assumption)|assumption)
        obtain ⟨ad243,e243,hx243_0,hx243_1⟩:=at_T46 HR0.out x10_1 p243 q243
        cases e243
        replace hx243_0:=(HB.out.cell (World.block_lt_of_cell? w _ hx243_0)).trans hx243_0
        replace hx243_1:=(HB.out.cell (World.block_lt_of_cell? w _ hx243_1)).trans hx243_1
        replace p243:=eq_true p243
        replace q243:=eq_true q243
        go_wp2_with (first|((with_reducible refine gate_dst (N:=7) rfl ?_);refine box_event ?hg (N:=7) ?hd (cs:=#[.string (⟨#[]⟩ : ByteArray),.string (⟨#[]⟩ : ByteArray)]) (t:=46) ?hr ?_;(case hd => rfl);(case hg => rfl);(case hr => first|(go_simp;done)|(go_simp;rfl));intro gb244 hg w8 hbox hb;have n0_:=Zd.mk (Kd.R_below (by (with_reducible repeat (first|apply Kd.Zm|apply Kd.Zl|apply Kd.Zt));exact HO_5.out) hb);have n1_:=Zd.mk (below_step (by repeat (first|(with_reducible first|exact HB.out|apply Zb|apply Za|apply Zc)|exact HB.out)) hb);have n2_:=Zd.mk (hbox);have n3_:=Zd.mk ((by rw [hg];exact (Zw (by repeat (first|(with_reducible first|exact HB.out|apply Zb|apply Za|apply Zc)|exact HB.out))) : w.heap.size≤gb244));have n4_:=Zd.mk ((by rw [hg];exact (Zw (by repeat (first|(with_reducible first|exact HB.out|apply Zb|apply Za|apply Zc)|exact HB.out))) : w.heap.size≤gb244));clear HO_5;clear HB;have HO_5:=n0_;have HB:=n1_;have BK244:=n2_;have GW244:=n3_;have GE244:=n4_;clear n0_ n1_ n2_ n3_ n4_;clear hb hbox hg;have hcz9_0 : w8.cell? ⟨gb244,0,none⟩=some (.string (⟨#[]⟩ : ByteArray)):=(blk_cell BK244.out 0).trans rfl;have hcz9_1 : w8.cell? ⟨gb244,1,none⟩=some (.string (⟨#[]⟩ : ByteArray)):=(blk_cell BK244.out 1).trans rfl;have hfz9_0:=blk_frozen BK244.out 0;have hfz9_1:=blk_frozen BK244.out 1)|((with_reducible refine gate_builtin (b:=.append) (xs:=#[.tmp 18,.tmp 21]) rfl ?_);at_builtin;refine Kd.R_append Kd.string (w0:=w) w.heap.size rfl (.tmp 18) (.tmp 21) 33 9 (.string ⟨#[]⟩) 16 rfl Tryd.underlying33 info9 rfl (by decide) (by omega) u5 x5_1 ((Zq l0 x10_1).f1) [.string ((Zq l0 x10_1).f1)] (fun _ => True) (fun _ => False) rfl (by first|(go_simp;done)|(go_simp;rfl)) ?aP (fun _ hk => hk.elim) ?aF ?aO ?aB ?aS ?aL ?_;(case aP => exact rfl);(case aB => exact (by repeat (first|(with_reducible first|exact HB.out|apply Zb|apply Za|apply Zc|refine below_set ?_ GE244.out)|exact HB.out)));(case aF => exact (fun _ _ => trivial));(case aO => exact (by (with_reducible repeat (first|apply Kd.Zm|apply Kd.Zl|apply Kd.Zt));exact Kd.R_mono (Kd.R_far (p:=⟨gb244,1,none⟩) (Kd.R_far (p:=⟨gb244,0,none⟩) (Kd.R_types HO_5.out BK244.out (by decide)) (fun _ hk => hk.2) (.string ((Zq l0 x10_1).f0))) (fun _ hk => hk.2) (.string ((Zq l0 x10_1).f1))) (fun _ hk => trivial)));(case aS => exact (Zw (by repeat (first|(with_reducible first|exact HB.out|apply Zb|apply Za|apply Zc|refine below_set ?_ GE244.out)|exact HB.out))));(case aL => have:=LMc7.out;omega);intro v246 w10 ho hb hg hat;rw [← Ny245.out] at ho;have n0_:=Zd.mk (blk_grown (g:=gb244) (o:=.cells #[.string ((Zq l0 x10_1).f0),.string ((Zq l0 x10_1).f1)] 46 (0,0)) (by (with_reducible repeat (first|refine blk_drewN ?_ _|refine blk_drew ?_|refine blk_alloc ?_ _));refine blk_put (cs:=#[.string ((Zq l0 x10_1).f0),.string (⟨#[]⟩ : ByteArray)]) ?_ 1 _ rfl;(with_reducible repeat (first|refine blk_drewN ?_ _|refine blk_drew ?_|refine blk_alloc ?_ _));refine blk_put (cs:=#[.string (⟨#[]⟩ : ByteArray),.string (⟨#[]⟩ : ByteArray)]) ?_ 0 _ rfl;(with_reducible repeat (first|refine blk_drewN ?_ _|refine blk_drew ?_|refine blk_alloc ?_ _));exact BK244.out) hg (Kd.R_ne HO_5.out BK244.out (by decide)));have n1_:=Zd.mk (hb);have n2_:=Zd.mk (ho);clear BK244;clear HB;clear HO_5;have BK244:=n0_;have HB:=n1_;have HO247:=n2_;clear n0_ n1_ n2_;clear ho hb hg hat))
        go_roundg k1
        case measure => have:=HK1.out;omega
        case rel => exact ⟨(y245),(wrap64 (x10_1 + 1)),(by first|rfl|(simp;done)|(simp [*];done)),H',⟨by have:=HK1.out;omega⟩,⟨by (with_reducible repeat (first|apply Kd.Zm|apply Kd.Zl|apply Kd.Zt));exact HO247.out⟩,⟨by repeat (first|(with_reducible first|exact HB.out|apply Zb|apply Za|apply Zc|refine below_set ?_ GE244.out)|exact HB.out)⟩⟩
       ·rw [if_neg c7] at H
        exact absurd H (by simp)
      ·rw [if_neg c6] at H
       have c6b0 : (((Zq l0 x10_1).f0).toList == a1.toList)=false:=beq_eq_false_iff_ne.mpr c6
       have c6b1 : (((Zq l0 x10_1).f0).toList != a1.toList)=true:=bne_iff_ne.mpr c6
       have H':=Zd.mk H
       clear H
       have p243 : 0≤(x10_1 : Int):=of_decide_eq_true (by first|(with_reducible assumption)|assumption)
       have q243 : x10_1 < (l0.length : Int):=of_decide_eq_true (by first|(with_reducible assumption)|assumption)
       obtain ⟨ad243,e243,hx243_0,hx243_1⟩:=at_T46 HR0.out x10_1 p243 q243
       cases e243
       replace hx243_0:=(HB.out.cell (World.block_lt_of_cell? w _ hx243_0)).trans hx243_0
       replace hx243_1:=(HB.out.cell (World.block_lt_of_cell? w _ hx243_1)).trans hx243_1
       replace p243:=eq_true p243
       replace q243:=eq_true q243
       go_wp2_with (first|((with_reducible refine gate_dst (N:=7) rfl ?_);refine box_event ?hg (N:=7) ?hd (cs:=#[.string (⟨#[]⟩ : ByteArray),.string (⟨#[]⟩ : ByteArray)]) (t:=46) ?hr ?_;(case hd => rfl);(case hg => rfl);(case hr => first|(go_simp;done)|(go_simp;rfl));intro gb244 hg w11 hbox hb;have n0_:=Zd.mk (Kd.R_below (by (with_reducible repeat (first|apply Kd.Zm|apply Kd.Zl|apply Kd.Zt));exact HO_5.out) hb);have n1_:=Zd.mk (below_step (by repeat (first|(with_reducible first|exact HB.out|apply Zb|apply Za|apply Zc)|exact HB.out)) hb);have n2_:=Zd.mk (hbox);have n3_:=Zd.mk ((by rw [hg];exact (Zw (by repeat (first|(with_reducible first|exact HB.out|apply Zb|apply Za|apply Zc)|exact HB.out))) : w.heap.size≤gb244));have n4_:=Zd.mk ((by rw [hg];exact (Zw (by repeat (first|(with_reducible first|exact HB.out|apply Zb|apply Za|apply Zc)|exact HB.out))) : w.heap.size≤gb244));clear HO_5;clear HB;have HO_5:=n0_;have HB:=n1_;have BK244:=n2_;have GW244:=n3_;have GE244:=n4_;clear n0_ n1_ n2_ n3_ n4_;clear hb hbox hg;have hcz12_0 : w11.cell? ⟨gb244,0,none⟩=some (.string (⟨#[]⟩ : ByteArray)):=(blk_cell BK244.out 0).trans rfl;have hcz12_1 : w11.cell? ⟨gb244,1,none⟩=some (.string (⟨#[]⟩ : ByteArray)):=(blk_cell BK244.out 1).trans rfl;have hfz12_0:=blk_frozen BK244.out 0;have hfz12_1:=blk_frozen BK244.out 1))
       go_roundg k1
       case measure => have:=HK1.out;omega
       case rel => exact ⟨(x5_1),(wrap64 (x10_1 + 1)),(by first|rfl|(simp;done)|(simp [*];done)),H',⟨by have:=HK1.out;omega⟩,⟨by (with_reducible repeat (first|apply Kd.Zm|apply Kd.Zl|apply Kd.Zt));exact Kd.R_mono (Kd.R_far (p:=⟨gb244,1,none⟩) (Kd.R_far (p:=⟨gb244,0,none⟩) (Kd.R_types HO_5.out BK244.out (by decide)) (fun _ hk => hk.2) (.string ((Zq l0 x10_1).f0))) (fun _ hk => hk.2) (.string ((Zq l0 x10_1).f1))) (fun _ hk => trivial)⟩,⟨by repeat (first|(with_reducible first|exact HB.out|apply Zb|apply Za|apply Zc|refine below_set ?_ GE244.out)|exact HB.out)⟩⟩
     ·rw [if_neg c5] at H
      exact absurd H (by simp)
    ·rw [if_neg c4] at H
     exact absurd H (by simp)
   ·rw [if_neg c3] at H
    have c3b0 : decide (x10_1 < (l0.length : Int))=false:=decide_eq_false c3
    clear c3
    obtain rfl:=Option.some.inj H
    go_wp2
    go_ret
    exact ⟨_,by first|rfl|(simp [errW_none,errW_some] <;> rfl)|(simp [*,errW_none,errW_some] <;> rfl),by (with_reducible repeat (first|apply Kd.Zm|apply Kd.Zl|apply Kd.Zt));exact HO_5.out,by repeat (first|(with_reducible first|exact HB.out|apply Zb|apply Za|apply Zc)|exact HB.out)⟩
end Go.Proofs.YtfbgmlophkbejaaDoorQ.Pfa
end
