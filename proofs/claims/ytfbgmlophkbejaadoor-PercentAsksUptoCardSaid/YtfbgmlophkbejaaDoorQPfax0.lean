/- What these functions of the program compute, and that they compute it: printed by wip/tools/orac.py over the kit's print.py; merged. -/
import Derived.Test.YtfbgmlophkbejaaDoorProg
import Derived.Below
import Derived.Deep.Draws
import Derived.Deep.AppendLies
import Derived.Maps.AppendAt
import Derived.OwnWalk
import Derived.Laws.BytesArg
import Derived.Laws.MakeOwn
import Derived.Laws.OwnMore
import Derived.Deep.OwnRows
import Derived.Tactics
import Derived.Lib.ConvBytes
import Derived.Laws.Slices
import Derived.WalkKit
import Derived.KernelRfl
import Derived.RowKit3
import Derived.Deep.LoopGhost
import Derived.Deep.QuietTactic
import Derived.BigQuiet
import Derived.WideLaws
import Derived.Deep.DeepCutAuto
import Derived.Deep.CutBlock
import Derived.Deep.RegionHeld3
import Derived.Laws.Rows
import Derived.Lib.AppendStr
import Derived.ArgAppend
import Derived.Laws.IdiomCopy
import Derived.OrdersHeld
import Derived.Laws.BitsLemmas
import Derived.RowKit
import Derived.Test.YtfbgmlophkbejaaDoorScX
import Derived.Test.YtfbgmlophkbejaaDoorPctM
import Derived.Test.YtfbgmlophkbejaaDoorShelf
import Derived.Test.YtfbgmlophkbejaaDoorMaxA
import Derived.Test.YtfbgmlophkbejaaDoorWWords
import Derived.Test.YtfbgmlophkbejaaDoorWLast
import Derived.Test.YtfbgmlophkbejaaDoorWTab
import Derived.Test.YtfbgmlophkbejaaDoorWQPut
import Derived.Test.YtfbgmlophkbejaaDoorWApart
import Derived.Test.YtfbgmlophkbejaaDoorWFoot
import Derived.Test.YtfbgmlophkbejaaDoorWKept
import Derived.Test.YtfbgmlophkbejaaDoorWShare
import Derived.Test.YtfbgmlophkbejaaDoorWN
import Derived.Laws.StructEq
import Derived.Test.YtfbgmlophkbejaaDoorWRepsOne
import Derived.Test.YtfbgmlophkbejaaDoorWInv
import Derived.Test.YtfbgmlophkbejaaDoorWInvWords
import Derived.Test.YtfbgmlophkbejaaDoorWMore
import Derived.SizedLaws
import Derived.ChangeSlices
section
namespace Go.Proofs.YtfbgmlophkbejaaDoorQ.Pfa
open Go.RowKit Go.Proofs.YtfbgmlophkbejaaDoorW.PrintWords Go.Proofs.YtfbgmlophkbejaaDoorW.PrintLast Go.Proofs.YtfbgmlophkbejaaDoorW.PrintMore
attribute [local go_sem] max2_int min2_int max_two min_two max_three min_three max_four min_four   -- for this text's walks alone
set_option linter.unusedVariables false
set_option linter.unusedSimpArgs false
def errW : Option Int→Value
 | none => .nilIface
 | some c => .iface 0 (.int .i64 c)
theorem errW_none : errW none=.nilIface:=rfl
theorem errW_some (c : Int) : errW (some c)=.iface 0 (.int .i64 c):=rfl
theorem info9 : (Tryd.prog.info? 9).map (fun i => (i.zero,i.size,i.bytes))=some (some (.string ⟨#[]⟩),1,16):=by kernel_rfl
theorem info35 : (Tryd.prog.info? 35).map (fun i => (i.zero,i.size,i.bytes))=some (some (.agg #[(.string ⟨#[]⟩),(.string ⟨#[]⟩)]),2,32):=by kernel_rfl
/-! #### struct type 46 -/
structure S46 where
 f0 : ByteArray
 f1 : ByteArray
def z46 : S46:=⟨(⟨#[]⟩ : ByteArray),(⟨#[]⟩ : ByteArray)⟩
def k46 : Kd S46:=Kd.iso (Kd.pair Kd.string Kd.string) (fun x : S46 => (x.f0,x.f1))
theorem k46_open {w : World} {x : S46} {cs : List Value} (h : k46.K w x cs) : cs=[.string x.f0,.string x.f1]:=by
 obtain ⟨_,_,rfl,rfl,rfl⟩:=h
 exact rfl
theorem k46_openM {w : World} {base : Nat} {ok : Nat→Prop} {x : S46} {cs : List Value} (h : k46.M w base ok x cs) : cs=[.string x.f0,.string x.f1]:=by
 obtain ⟨_,_,rfl,rfl,rfl⟩:=h
 exact rfl
theorem k46_mk (w : World) (x : S46)  : k46.K w x [.string x.f0,.string x.f1]:=⟨[.string x.f0],[.string x.f1],rfl,rfl,rfl⟩
theorem k46_mkM (w : World) (base : Nat) (ok : Nat→Prop) (x : S46)  : k46.M w base ok x [.string x.f0,.string x.f1]:=⟨[.string x.f0],[.string x.f1],rfl,rfl,rfl⟩
def Zq (xs : List S46) (i : Int) : S46:=xs.getD i.toNat z46
theorem at_T46 {w : World} {A : Option Addr} {n : Nat} {xs : List S46} (h : Kd.C k46 w A n xs) (i : Int) (h0 : 0≤i) (h1 : i < n) : ∃ ad ,A=some ad∧w.cell? (ad.add (i.toNat * 2))=some (.string (Zq xs i).f0)∧w.cell? ⟨(ad.add (i.toNat * 2)).block,(ad.add (i.toNat * 2)).off + 1,none⟩=some (.string (Zq xs i).f1):=by
 obtain ⟨ad,c,e,_,hK,hc0⟩:=Kd.C_get h z46 i h0 h1
 have hc : ∀ j u,c[j]?=some u→w.cell? (ad.add (i.toNat * 2 + j))=some u:=hc0
 obtain rfl:=k46_open hK
 exact ⟨ad,e,hc 0 _ rfl,by rw [← add_field _ _ 1 (by omega)];exact hc 1 _ rfl⟩
/-! #### struct type 35 -/
structure S35 where
 f0 : ByteArray
 f1 : ByteArray
def z35 : S35:=⟨(⟨#[]⟩ : ByteArray),(⟨#[]⟩ : ByteArray)⟩
def k35 : Kd S35:=Kd.iso (Kd.pair Kd.string Kd.string) (fun x : S35 => (x.f0,x.f1))
theorem k35_open {w : World} {x : S35} {cs : List Value} (h : k35.K w x cs) : cs=[.string x.f0,.string x.f1]:=by
 obtain ⟨_,_,rfl,rfl,rfl⟩:=h
 exact rfl
theorem k35_openM {w : World} {base : Nat} {ok : Nat→Prop} {x : S35} {cs : List Value} (h : k35.M w base ok x cs) : cs=[.string x.f0,.string x.f1]:=by
 obtain ⟨_,_,rfl,rfl,rfl⟩:=h
 exact rfl
theorem k35_mkM (w : World) (base : Nat) (ok : Nat→Prop) (x : S35)  : k35.M w base ok x [.string x.f0,.string x.f1]:=⟨[.string x.f0],[.string x.f1],rfl,rfl,rfl⟩
def rd_T35 (xs : List S35) (i : Int) : S35:=xs.getD i.toNat z35
theorem at_T35 {w : World} {A : Option Addr} {n : Nat} {xs : List S35} (h : Kd.C k35 w A n xs) (i : Int) (h0 : 0≤i) (h1 : i < n) : ∃ ad ,A=some ad∧w.cell? (ad.add (i.toNat * 2))=some (.string (rd_T35 xs i).f0)∧w.cell? ⟨(ad.add (i.toNat * 2)).block,(ad.add (i.toNat * 2)).off + 1,none⟩=some (.string (rd_T35 xs i).f1):=by
 obtain ⟨ad,c,e,_,hK,hc0⟩:=Kd.C_get h z35 i h0 h1
 have hc : ∀ j u,c[j]?=some u→w.cell? (ad.add (i.toNat * 2 + j))=some u:=hc0
 obtain rfl:=k35_open hK
 exact ⟨ad,e,hc 0 _ rfl,by rw [← add_field _ _ 1 (by omega)];exact hc 1 _ rfl⟩
end Go.Proofs.YtfbgmlophkbejaaDoorQ.Pfa
end
section
namespace Go.Proofs.YtfbgmlophkbejaaDoorQ.Pfa
open Go.RowKit Go.Proofs.YtfbgmlophkbejaaDoorW.PrintWords Go.Proofs.YtfbgmlophkbejaaDoorW.PrintLast Go.Proofs.YtfbgmlophkbejaaDoorW.PrintMore
attribute [local go_sem] max2_int min2_int max_two min_two max_three min_three max_four min_four   -- for this text's walks alone
set_option linter.unusedVariables false
set_option linter.unusedSimpArgs false
/-! ### posternlaw03_awake: function 9,by a contract of this repo -/
section
open Go.Proofs.YtfbgmlophkbejaaDoor
def posternlaw03_awake.f : Option Bool:=some true
theorem posternlaw03_awake.calls (r : Bool) (w : World) (h : posternlaw03_awake.f=some r) :
  Calls Tryd.prog 9 #[] w fun e w' => e=.returned (.bool r)∧Below w.heap.size w w':=by
 obtain rfl:=Option.some.inj h
 refine (Z.awake_any w).mono ?_
 rintro e w' ⟨rfl,hb⟩
 exact ⟨rfl,hb⟩
end
end Go.Proofs.YtfbgmlophkbejaaDoorQ.Pfa
end
section
namespace Go.Proofs.YtfbgmlophkbejaaDoorQ.Pfa
open Go.RowKit Go.Proofs.YtfbgmlophkbejaaDoorW.PrintWords Go.Proofs.YtfbgmlophkbejaaDoorW.PrintLast Go.Proofs.YtfbgmlophkbejaaDoorW.PrintMore
attribute [local go_sem] max2_int min2_int max_two min_two max_three min_three max_four min_four   -- for this text's walks alone
set_option linter.unusedVariables false
set_option linter.unusedSimpArgs false
/-! ### Zi: function 17 -/
def Zi.l0 : Nat→List (S46)→List (S35)→Int→Option ((List (S35)))
 | 0,_,_,_ => none
 | k + 1,x0,x3,x4 => if x4 < (x0.length : Int) then (if 0≤x4 then (if x3.length < 4398046511104 then (Zi.l0 k x0 (x3++[(⟨(Zq x0 x4).f0,(Zq x0 x4).f1⟩ : S35)]) (wrap64 (x4 + 1))) else (none)) else (none)) else (some x3)
def Zi.f (k : Nat) (l0 : List (S46)) : Option ((List (S35))):=Zi.l0 k l0 (([] : List (S35))) 0
def Zi.T5 : Bool × List (List Nat × List Nat):=(true,[([],[]),([],[]),([],[]),([1,2],[1,2]),([3],[3]),([4],[4]),([],[]),([],[]),([6,7],[6,7]),([8],[8]),([9],[9]),([5,10],[5,10]),([11],[11]),([0,12],[0,12]),([13,13,0,1,2,3,4,5,6,7,8,9,10,11,12,13],[0,13])])
def Zi.B5 : List Nat:=[0,0,0,6,14,30,0,0,192,448,960,2046,4094,8191,16383]
theorem Zi.tab5 : rtab .any (opsOf Tryd.f17 5)=Zi.T5:=by kernel_rfl
theorem Zi.bits5 : waitsOk Zi.T5.2 Zi.B5=true:=by kernel_rfl
set_option maxHeartbeats 8000000 in
set_option maxRecDepth 100000 in
theorem Zi.calls (k : Nat) (A0 : Option Addr) (c0 : Nat) (l0 : List (S46)) (r : List (S35)) (w : World) (hr0 : Kd.C k46 w A0 l0.length l0) (hc0 : l0.length≤c0) (h : Zi.f k l0=some r) :
  Calls Tryd.prog 17 #[.slice A0 l0.length c0] w fun e w' => ∃ v0_ : Value,e=.returned (v0_)∧Kd.R k35 35 w' w.heap.size (fun _ => True) v0_ r∧Below w.heap.size w w':=by
 have hu35:=Tryd.underlying35
 have HR0:=Zd.mk hr0
 have HC0:=Zd.mk hc0
 clear hr0 hc0
 have HB:=Zd.mk (Below.refl w.heap.size w)
 have H : (Zi.l0 k l0 (([] : List (S35))) 0)=some r:=h
 clear h
 obtain ⟨y101,hy101⟩ : ∃ y_ : List (S35),y_=(([] : List (S35))):=⟨_,rfl⟩
 replace H : (Zi.l0 k l0 y101 0)=some r:=by first|(rw [hy101];with_reducible exact H)|(have H2_:=(Option.bind_some _ _).symm.trans H;rw [hy101];with_reducible exact H2_)|(have H2_:=(Option.bind_some _ _).symm.trans H;with_reducible exact H2_)|with_reducible exact H|(rw [hy101];exact H)|exact H
 have Ny101:=Zd.mk hy101
 clear hy101
 have H':=Zd.mk H
 clear H
 go_enter Tryd.func17,Tryd.ntmps17
 go_wp2_with (first|((with_reducible refine gate_dst (N:=5) rfl ?_);refine Kd.R_lit k35 _ 35 ?hg (N:=5) ?hd (xs:=([] : List (S35))) (inner:=[]) (ok:=fun _ => True) (okp:=fun _ => True) ?hr ?hp (fun _ hk => hk) trivial (Below.refl _ _) (Nat.le_refl _) (by simp) ?_;(case hd => rfl);(case hg => rfl);(case hr => first|(go_simp;done)|(go_simp;rfl));(case hp => exact (Reps.none _ _));intro v102 w2 ho3 hb hg_ hnew_;clear hg_ hnew_;(first|rw [← Ny101.out] at ho3|(simp only [Int.reduceToNat] at ho3;rw [← Ny101.out] at ho3));have n0_:=Zd.mk (Kd.R_lower ho3 (Zw (by repeat (first|(with_reducible first|exact HB.out|apply Zb|apply Za|apply Zc)|exact HB.out))));have n1_:=Zd.mk (below_step (by repeat (first|(with_reducible first|exact HB.out|apply Zb|apply Za|apply Zc)|exact HB.out)) hb);clear HB;have HO103:=n0_;have HB:=n1_;clear n0_ n1_;clear hb ho3))
 go_loopg [3,4] k (fun kq v3 v4 w' => ∃ (x3_1 : List (S35)) (x4_1 : Int),v4=.int .i64 x4_1∧Zd (Zi.l0 kq l0 x3_1 x4_1=some r)∧Zd (kq≤k)∧Zd (Kd.R k35 35 w' w.heap.size (fun _ => True) v3 x3_1)∧Zd (Below w.heap.size w w'))
 case atStart => exact ⟨(y101),(0),(by first|rfl|(simp;done)|(simp [*];done)),H',⟨Nat.le_refl _⟩,⟨by (with_reducible repeat (first|apply Kd.Zm|apply Kd.Zl|apply Kd.Zt));exact HO103.out⟩,⟨by repeat (first|(with_reducible first|exact HB.out|apply Zb|apply Za|apply Zc)|exact HB.out)⟩⟩
 case round =>
  clear H'
  try clear c1
  try clear p2
  obtain ⟨x3_1,x4_1,rfl,HA,HK1,HO_3,HB⟩:=hrel
  cases gk with
  | zero => exact absurd HA.out (by simp [Zi.l0])
  | succ k1 =>
   have H:=HA.out
   clear HA
   simp only [Zi.l0] at H
   by_cases c4 : x4_1 < (l0.length : Int)
   ·rw [if_pos c4] at H
    have c4b0 : decide (x4_1 < (l0.length : Int))=true:=decide_eq_true c4
    clear c4
    by_cases c5 : 0≤x4_1
    ·rw [if_pos c5] at H
     have c5b0 : decide (0≤x4_1)=true:=decide_eq_true c5
     clear c5
     by_cases c6 : x3_1.length < 4398046511104
     ·rw [if_pos c6] at H
      have LMc6:=Zd.mk c6
      clear c6
      obtain ⟨y106,hy106⟩ : ∃ y_ : List (S35),y_=(x3_1++[(⟨(Zq l0 x4_1).f0,(Zq l0 x4_1).f1⟩ : S35)]):=⟨_,rfl⟩
      replace H : (Zi.l0 k1 l0 y106 (wrap64 (x4_1 + 1)))=some r:=by first|(rw [hy106];with_reducible exact H)|(have H2_:=(Option.bind_some _ _).symm.trans H;rw [hy106];with_reducible exact H2_)|(have H2_:=(Option.bind_some _ _).symm.trans H;with_reducible exact H2_)|with_reducible exact H|(rw [hy106];exact H)|exact H
      have Ny106:=Zd.mk hy106
      clear hy106
      have H':=Zd.mk H
      clear H
      try go_wp2
      have n0_:=Zd.mk (Kd.Zt HO_3.out)
      have n1_:=Zd.mk (Zc HB.out)
      clear HO_3
      clear HB
      have HO_3:=n0_
      have HB:=n1_
      clear n0_ n1_
      have p104 : 0≤(x4_1 : Int):=of_decide_eq_true (by first|(with_reducible assumption)|assumption)
      have q104 : x4_1 < (l0.length : Int):=of_decide_eq_true (by first|(with_reducible assumption)|assumption)
      obtain ⟨ad104,e104,hx104_0,hx104_1⟩:=at_T46 HR0.out x4_1 p104 q104
      have hw104_1:=hx104_1
      have hw104_0:=hx104_0
      cases e104
      replace hx104_0:=(HB.out.cell (World.block_lt_of_cell? w _ hx104_0)).trans hx104_0
      replace hx104_1:=(HB.out.cell (World.block_lt_of_cell? w _ hx104_1)).trans hx104_1
      replace p104:=eq_true p104
      replace q104:=eq_true q104
      have p105 : 0≤(x4_1 : Int):=of_decide_eq_true (by first|(with_reducible assumption)|assumption)
      have q105 : x4_1 < (l0.length : Int):=of_decide_eq_true (by first|(with_reducible assumption)|assumption)
      obtain ⟨ad105,e105,hx105_0,hx105_1⟩:=at_T46 HR0.out x4_1 p105 q105
      have hw105_1:=hx105_1
      have hw105_0:=hx105_0
      obtain rfl : ad104=ad105:=(by injection e105)
      replace hx105_0:=(HB.out.cell (World.block_lt_of_cell? w _ hx105_0)).trans hx105_0
      replace hx105_1:=(HB.out.cell (World.block_lt_of_cell? w _ hx105_1)).trans hx105_1
      replace p105:=eq_true p105
      replace q105:=eq_true q105
      refine start_ (n:=15) (S:=fun w' => w'.cell? (ad104.add ((x4_1).toNat * 2))=some (.string ((Zq l0 x4_1).f0))∧w'.cell? ⟨(ad104.add ((x4_1).toNat * 2)).block,(ad104.add ((x4_1).toNat * 2)).off + 1,none⟩=some (.string ((Zq l0 x4_1).f1))∧w'.cell? (ad104.add ((x4_1).toNat * 2))=some (.string ((Zq l0 x4_1).f0))∧w'.cell? ⟨(ad104.add ((x4_1).toNat * 2)).block,(ad104.add ((x4_1).toNat * 2)).off + 1,none⟩=some (.string ((Zq l0 x4_1).f1))) (ds:=[]) #[false,false,false,false,false,false,false,false,false,false,false,false,false,false,false] (by kernel_rfl) rfl rfl ⟨((HB.out.cell (World.block_lt_of_cell? w _ hw104_0)).trans hw104_0),((HB.out.cell (World.block_lt_of_cell? w _ hw104_1)).trans hw104_1),((HB.out.cell (World.block_lt_of_cell? w _ hw105_0)).trans hw105_0),((HB.out.cell (World.block_lt_of_cell? w _ hw105_1)).trans hw105_1)⟩ (fun hHeld => ?_);refine with_tabW Zi.tab5 Zi.bits5 (fun HT_ HW_ => ?_)
      generalize wr.drew=w7 at HO_3 HB hx104_0 hx104_1 hx105_0 hx105_1 hHeld ⊢
      refine pure_ (i:=0) (N:=some 12) (v:=?_) (a':=?_) #[true,false,false,false,false,false,false,false,false,false,false,false,false,false,false] rfl rfl (any_of HT_.out (by kernel_rfl)) (fun _ _ _ h => h) (Or.inl ⟨by rfl,?_⟩) ?_ ?_
      rotate_left
      ·intro w'
       go_simp
       with_reducible rfl
      rotate_left
      ·simp only [Act.put,List.setIfInBounds_toArray,List.set_cons_zero,List.set_cons_succ,i64_w,i32_w]
       rfl
      refine pure_ (i:=1) (N:=some 13) (v:=?_) (a':=?_) #[true,true,false,false,false,false,false,false,false,false,false,false,false,false,false] rfl rfl (any_of HT_.out (by kernel_rfl)) (fun _ _ _ h => h) (Or.inl ⟨by rfl,?_⟩) ?_ ?_
      rotate_left
      ·intro w'
       go_simp
       with_reducible rfl
      rotate_left
      ·simp only [Act.put,List.setIfInBounds_toArray,List.set_cons_zero,List.set_cons_succ,i64_w,i32_w]
       rfl
      refine pure_ (i:=2) (N:=some 14) (v:=?_) (a':=?_) #[true,true,true,false,false,false,false,false,false,false,false,false,false,false,false] rfl rfl (any_of HT_.out (by kernel_rfl)) (fun _ _ _ h => h) (Or.inl ⟨by rfl,?_⟩) ?_ ?_
      rotate_left
      ·intro w'
       go_simp
       with_reducible rfl
      rotate_left
      ·simp only [Act.put,List.setIfInBounds_toArray,List.set_cons_zero,List.set_cons_succ,i64_w,i32_w]
       rfl
      refine pure_ (i:=3) (N:=some 15) (v:=?_) (a':=?_) #[true,true,true,true,false,false,false,false,false,false,false,false,false,false,false] rfl rfl (any_of HT_.out (by kernel_rfl)) (fun _ _ _ h => h) (Or.inl ⟨by rfl,?_⟩) ?_ ?_
      rotate_left
      ·intro w'
       go_simp
       with_reducible rfl
      rotate_left
      ·simp only [Act.put,List.setIfInBounds_toArray,List.set_cons_zero,List.set_cons_succ,i64_w,i32_w]
       rfl
      refine pure_ (i:=4) (N:=some 16) (v:=?_) (a':=?_) #[true,true,true,true,true,false,false,false,false,false,false,false,false,false,false] rfl rfl (any_of HT_.out (by kernel_rfl)) (fun _ _ _ h => h) (Or.inl ⟨by rfl,?_⟩) ?_ ?_
      rotate_left
      ·intro w'
       go_simp
       with_reducible rfl
      rotate_left
      ·simp only [Act.put,List.setIfInBounds_toArray,List.set_cons_zero,List.set_cons_succ,i64_w,i32_w]
       rfl
      refine pure_ (i:=6) (N:=some 18) (v:=?_) (a':=?_) #[true,true,true,true,true,false,true,false,false,false,false,false,false,false,false] rfl rfl (any_of HT_.out (by kernel_rfl)) (fun _ _ _ h => h) (Or.inl ⟨by rfl,?_⟩) ?_ ?_
      rotate_left
      ·intro w'
       go_simp
       with_reducible rfl
      rotate_left
      ·simp only [Act.put,List.setIfInBounds_toArray,List.set_cons_zero,List.set_cons_succ,i64_w,i32_w]
       rfl
      refine pure_ (i:=7) (N:=some 19) (v:=?_) (a':=?_) #[true,true,true,true,true,false,true,true,false,false,false,false,false,false,false] rfl rfl (any_of HT_.out (by kernel_rfl)) (fun _ _ _ h => h) (Or.inl ⟨by rfl,?_⟩) ?_ ?_
      rotate_left
      ·intro w'
       go_simp
       with_reducible rfl
      rotate_left
      ·simp only [Act.put,List.setIfInBounds_toArray,List.set_cons_zero,List.set_cons_succ,i64_w,i32_w]
       rfl
      refine pure_ (i:=8) (N:=some 20) (v:=?_) (a':=?_) #[true,true,true,true,true,false,true,true,true,false,false,false,false,false,false] rfl rfl (any_of HT_.out (by kernel_rfl)) (fun _ _ _ h => h) (Or.inl ⟨by rfl,?_⟩) ?_ ?_
      rotate_left
      ·intro w'
       go_simp
       with_reducible rfl
      rotate_left
      ·simp only [Act.put,List.setIfInBounds_toArray,List.set_cons_zero,List.set_cons_succ,i64_w,i32_w]
       rfl
      refine pure_ (i:=9) (N:=some 21) (v:=?_) (a':=?_) #[true,true,true,true,true,false,true,true,true,true,false,false,false,false,false] rfl rfl (any_of HT_.out (by kernel_rfl)) (fun _ _ _ h => h) (Or.inl ⟨by rfl,?_⟩) ?_ ?_
      rotate_left
      ·intro w'
       go_simp
       with_reducible rfl
      rotate_left
      ·simp only [Act.put,List.setIfInBounds_toArray,List.set_cons_zero,List.set_cons_succ,i64_w,i32_w]
       rfl
      refine take_ (i:=5) (N:=some 17) (v:=?_) (a':=?_) #[true,true,true,true,true,true,true,true,true,true,false,false,false,false,false] rfl rfl (take_ofW HT_.out HW_.out (by kernel_rfl)) (fun _ _ _ h => h) (Or.inl ⟨by rfl,?_⟩) hHeld ?_ ?_
      rotate_left
      ·rintro w' ⟨s0,s1,s2,s3⟩
       go_simp
       with_reducible rfl
      rotate_left
      ·simp only [Act.put,List.setIfInBounds_toArray,List.set_cons_zero,List.set_cons_succ,i64_w,i32_w]
       rfl
      refine take_ (i:=10) (N:=some 22) (v:=?_) (a':=?_) #[true,true,true,true,true,true,true,true,true,true,true,false,false,false,false] rfl rfl (take_ofW HT_.out HW_.out (by kernel_rfl)) (fun _ _ _ h => h) (Or.inl ⟨by rfl,?_⟩) hHeld ?_ ?_
      rotate_left
      ·rintro w' ⟨s0,s1,s2,s3⟩
       go_simp
       with_reducible rfl
      rotate_left
      ·simp only [Act.put,List.setIfInBounds_toArray,List.set_cons_zero,List.set_cons_succ,i64_w,i32_w]
       rfl
      refine pure_ (i:=11) (N:=some 23) (v:=?_) (a':=?_) #[true,true,true,true,true,true,true,true,true,true,true,true,false,false,false] rfl rfl (any_of HT_.out (by kernel_rfl)) (fun _ _ _ h => h) (Or.inl ⟨by rfl,?_⟩) ?_ ?_
      rotate_left
      ·intro w'
       go_simp
       with_reducible rfl
      rotate_left
      ·simp only [Act.put,List.setIfInBounds_toArray,List.set_cons_zero,List.set_cons_succ,i64_w,i32_w]
       rfl
      refine one_ (i:=12) (N:=some 24) #[true,true,true,true,true,true,true,true,true,true,true,true,true,false,false] rfl rfl (one_of HT_.out (by kernel_rfl)) (by decide) (fun K hK => ?_)
      refine value_ (w1:=?_) (v:=?_) (by rfl) rfl ?_ ?_
      rotate_left 2
      ·go_simp
       constructor
       ·rfl
       ·rfl
      refine hK.out _ _ ⟨(World.cell?_alloc_lt _ _ _ (World.block_lt_of_cell? _ _ (((HB.out.cell (World.block_lt_of_cell? w _ hw104_0)).trans hw104_0)))).trans (((HB.out.cell (World.block_lt_of_cell? w _ hw104_0)).trans hw104_0)),(World.cell?_alloc_lt _ _ _ (World.block_lt_of_cell? _ _ (((HB.out.cell (World.block_lt_of_cell? w _ hw104_1)).trans hw104_1)))).trans (((HB.out.cell (World.block_lt_of_cell? w _ hw104_1)).trans hw104_1)),(World.cell?_alloc_lt _ _ _ (World.block_lt_of_cell? _ _ (((HB.out.cell (World.block_lt_of_cell? w _ hw105_0)).trans hw105_0)))).trans (((HB.out.cell (World.block_lt_of_cell? w _ hw105_0)).trans hw105_0)),(World.cell?_alloc_lt _ _ _ (World.block_lt_of_cell? _ _ (((HB.out.cell (World.block_lt_of_cell? w _ hw105_1)).trans hw105_1)))).trans (((HB.out.cell (World.block_lt_of_cell? w _ hw105_1)).trans hw105_1))⟩ (fun hHeld => ?_)
      clear hK K
      refine norm_ (a':=?_) ?_ ?_
      rotate_left
      ·show Act.put _ (some 24) _=_
       simp only [Act.put,List.setIfInBounds_toArray,List.set_cons_zero,List.set_cons_succ,i64_w,i32_w]
       rfl
      refine one_ (i:=13) (N:=some 25) #[true,true,true,true,true,true,true,true,true,true,true,true,true,true,false] rfl rfl (one_of HT_.out (by kernel_rfl)) (by decide) (fun K hK => ?_)
      refine Kd.R_append_step k35 (w0:=w) w.heap.size (by rfl) (.tmp 12) (.tmp 24) 31 35 (.agg #[(.string ⟨#[]⟩),(.string ⟨#[]⟩)]) 32 rfl Tryd.underlying31 info35 rfl (by decide) (by omega) u3 x3_1 (⟨(Zq l0 x4_1).f0,(Zq l0 x4_1).f1⟩ : S35) [.string ((Zq l0 x4_1).f0),.string ((Zq l0 x4_1).f1)] (fun _ => True) (fun _ => False) rfl rfl ?aP (fun _ hk => hk.elim) ?aF ?aO ?aB ?aS ?aL ?_
      (case aP => exact k35_mkM _ _ _ (⟨(Zq l0 x4_1).f0,(Zq l0 x4_1).f1⟩ : S35))
      (case aB => exact (by repeat (first|(with_reducible first|exact HB.out|apply Zb|apply Za|apply Zc)|exact HB.out)))
      (case aF => exact (fun _ _ => trivial))
      (case aO => exact (by (with_reducible repeat (first|apply Kd.Zm|apply Kd.Zl|apply Kd.Zt));exact HO_3.out))
      (case aS => exact (Zw (by repeat (first|(with_reducible first|exact HB.out|apply Zb|apply Za|apply Zc)|exact HB.out))))
      (case aL => have:=LMc6.out;omega)
      intro v107 w8 ho hb hg hat
      rw [← Ny106.out] at ho
      have n0_:=Zd.mk (hb)
      have n1_:=Zd.mk (ho)
      clear HB
      clear HO_3
      have HB:=n0_
      have HO108:=n1_
      clear n0_ n1_
      clear ho hb hg hat
      refine hK.out _ _ ⟨((HB.out.cell (World.block_lt_of_cell? w _ hw104_0)).trans hw104_0),((HB.out.cell (World.block_lt_of_cell? w _ hw104_1)).trans hw104_1),((HB.out.cell (World.block_lt_of_cell? w _ hw105_0)).trans hw105_0),((HB.out.cell (World.block_lt_of_cell? w _ hw105_1)).trans hw105_1)⟩ (fun hHeld => ?_)
      clear hK K
      refine norm_ (a':=?_) ?_ ?_
      rotate_left
      ·show Act.put _ (some 25) _=_
       simp only [Act.put,List.setIfInBounds_toArray,List.set_cons_zero,List.set_cons_succ,i64_w,i32_w]
       rfl
      refine pure_ (i:=14) (N:=some 3) (v:=?_) (a':=?_) #[true,true,true,true,true,true,true,true,true,true,true,true,true,true,true] rfl rfl (any_of HT_.out (by kernel_rfl)) (fun _ _ _ h => h) (Or.inl ⟨by rfl,?_⟩) ?_ ?_
      rotate_left
      ·intro w'
       go_simp
       with_reducible rfl
      rotate_left
      ·simp only [Act.put,List.setIfInBounds_toArray,List.set_cons_zero,List.set_cons_succ,i64_w,i32_w]
       rfl
      refine done_ (done_of HT_.out (by kernel_rfl)) ?_
      try go_wp2
      go_roundg k1
      case measure => have:=HK1.out;omega
      case rel => exact ⟨(y106),(wrap64 (x4_1 + 1)),(by first|rfl|(simp;done)|(simp [*];done)),H',⟨by have:=HK1.out;omega⟩,⟨by (with_reducible repeat (first|apply Kd.Zm|apply Kd.Zl|apply Kd.Zt));exact HO108.out⟩,⟨by repeat (first|(with_reducible first|exact HB.out|apply Zb|apply Za|apply Zc)|exact HB.out)⟩⟩
     ·rw [if_neg c6] at H
      exact absurd H (by simp)
    ·rw [if_neg c5] at H
     exact absurd H (by simp)
   ·rw [if_neg c4] at H
    have c4b0 : decide (x4_1 < (l0.length : Int))=false:=decide_eq_false c4
    clear c4
    obtain rfl:=Option.some.inj H
    go_wp2
    go_ret
    exact ⟨_,by first|rfl|(simp [errW_none,errW_some] <;> rfl)|(simp [*,errW_none,errW_some] <;> rfl),by (with_reducible repeat (first|apply Kd.Zm|apply Kd.Zl|apply Kd.Zt));exact HO_3.out,by repeat (first|(with_reducible first|exact HB.out|apply Zb|apply Za|apply Zc)|exact HB.out)⟩
end Go.Proofs.YtfbgmlophkbejaaDoorQ.Pfa
end
section
namespace Go.Proofs.YtfbgmlophkbejaaDoorQ.Pfa
open Go.RowKit Go.Proofs.YtfbgmlophkbejaaDoorW.PrintWords Go.Proofs.YtfbgmlophkbejaaDoorW.PrintLast Go.Proofs.YtfbgmlophkbejaaDoorW.PrintMore
attribute [local go_sem] max2_int min2_int max_two min_two max_three min_three max_four min_four   -- for this text's walks alone
set_option linter.unusedVariables false
set_option linter.unusedSimpArgs false
/-! ### Zr: function 23 -/
def Zr.l0 : Nat→List (S46)→List (S35)→Int→Option (Bool)
 | 0,_,_,_ => none
 | k + 1,x0,x1,x5 => if x5 < (x0.length : Int) then (if 0≤x5 then (if x5 < (x1.length : Int) then (if ((Zq x0 x5).f0).toList=((rd_T35 x1 x5).f0).toList then (if ((Zq x0 x5).f1).toList=((rd_T35 x1 x5).f1).toList then (Zr.l0 k x0 x1 (wrap64 (x5 + 1))) else (some false)) else (some false)) else (none)) else (none)) else (some true)
def Zr.f (k : Nat) (l0 : List (S46)) (l1 : List (S35)) : Option (Bool):=if (l0.length : Int)=(l1.length : Int) then (Zr.l0 k l0 l1 0) else (some false)
set_option maxHeartbeats 8000000 in
set_option maxRecDepth 100000 in
theorem Zr.calls (k : Nat) (A0 : Option Addr) (c0 : Nat) (l0 : List (S46)) (A1 : Option Addr) (c1 : Nat) (l1 : List (S35)) (r : Bool) (w : World) (hr0 : Kd.C k46 w A0 l0.length l0) (hc0 : l0.length≤c0) (hr1 : Kd.C k35 w A1 l1.length l1) (hc1 : l1.length≤c1) (h : Zr.f k l0 l1=some r) :
  Calls Tryd.prog 23 #[.slice A0 l0.length c0,.slice A1 l1.length c1] w fun e w' => e=.returned (.bool r)∧Zp w w':=by
 have HR0:=Zd.mk hr0
 have HC0:=Zd.mk hc0
 clear hr0 hc0
 have HR1:=Zd.mk hr1
 have HC1:=Zd.mk hc1
 clear hr1 hc1
 have H : (if (l0.length : Int)=(l1.length : Int) then (Zr.l0 k l0 l1 0) else (some false))=some r:=h
 clear h
 by_cases c3 : (l0.length : Int)=(l1.length : Int)
 ·rw [if_pos c3] at H
  have c3b0 : ((l0.length : Int) == (l1.length : Int))=true:=beq_iff_eq.mpr c3
  have c3b1 : ((l0.length : Int) != (l1.length : Int))=false:=bne_eq_false_iff_eq.mpr c3
  have c3b2 : (l0.length == l1.length)=true:=by first|simpa using c3|(simp at c3 ⊢;omega)
  clear c3
  have H':=Zd.mk H
  clear H
  go_enter Tryd.func23,Tryd.ntmps23
  go_wp2
  repeat (go_quiet (fail);try go_wp2)
  go_loopg [5] k (fun kq v5 w' => ∃ (x5_1 : Int),v5=.int .i64 x5_1∧Zd (Zr.l0 kq l0 l1 x5_1=some r)∧Zd (kq≤k)∧Zp w w')
  case atStart => exact ⟨(0),(by first|rfl|(simp;done)|(simp [*];done)),H',⟨Nat.le_refl _⟩,by repeat (first|exact Zp.refl _|apply Zp.step)⟩
  case round =>
   clear H'
   try clear c1
   try clear c2
   try clear p2
   try clear c3
   try clear c3b0
   try clear c3b1
   try clear c3b2
   obtain ⟨x5_1,rfl,HA,HK1,⟨m1,rfl⟩⟩:=hrel
   cases gk with
   | zero => exact absurd HA.out (by simp [Zr.l0])
   | succ k1 =>
    have H:=HA.out
    clear HA
    simp only [Zr.l0] at H
    by_cases c4 : x5_1 < (l0.length : Int)
    ·rw [if_pos c4] at H
     have c4b0 : decide (x5_1 < (l0.length : Int))=true:=decide_eq_true c4
     clear c4
     by_cases c5 : 0≤x5_1
     ·rw [if_pos c5] at H
      have c5b0 : decide (0≤x5_1)=true:=decide_eq_true c5
      clear c5
      by_cases c6 : x5_1 < (l1.length : Int)
      ·rw [if_pos c6] at H
       have c6b0 : decide (x5_1 < (l1.length : Int))=true:=decide_eq_true c6
       clear c6
       by_cases c7 : ((Zq l0 x5_1).f0).toList=((rd_T35 l1 x5_1).f0).toList
       ·rw [if_pos c7] at H
        have c7b0 : (((Zq l0 x5_1).f0).toList == ((rd_T35 l1 x5_1).f0).toList)=true:=beq_iff_eq.mpr c7
        have c7b1 : (((Zq l0 x5_1).f0).toList != ((rd_T35 l1 x5_1).f0).toList)=false:=bne_eq_false_iff_eq.mpr c7
        clear c7
        by_cases c8 : ((Zq l0 x5_1).f1).toList=((rd_T35 l1 x5_1).f1).toList
        ·rw [if_pos c8] at H
         have c8b0 : (((Zq l0 x5_1).f1).toList == ((rd_T35 l1 x5_1).f1).toList)=true:=beq_iff_eq.mpr c8
         have c8b1 : (((Zq l0 x5_1).f1).toList != ((rd_T35 l1 x5_1).f1).toList)=false:=bne_eq_false_iff_eq.mpr c8
         clear c8
         have H':=Zd.mk H
         clear H
         have p109 : 0≤(x5_1 : Int):=of_decide_eq_true (by first|(with_reducible assumption)|assumption)
         have q109 : x5_1 < (l0.length : Int):=of_decide_eq_true (by first|(with_reducible assumption)|assumption)
         obtain ⟨ad109,e109,hx109_0,hx109_1⟩:=at_T46 HR0.out x5_1 p109 q109
         cases e109
         replace p109:=eq_true p109
         replace q109:=eq_true q109
         have p110 : 0≤(x5_1 : Int):=of_decide_eq_true (by first|(with_reducible assumption)|assumption)
         have q110 : x5_1 < (l1.length : Int):=of_decide_eq_true (by first|(with_reducible assumption)|assumption)
         obtain ⟨ad110,e110,hx110_0,hx110_1⟩:=at_T35 HR1.out x5_1 p110 q110
         cases e110
         replace p110:=eq_true p110
         replace q110:=eq_true q110
         have p111 : 0≤(x5_1 : Int):=of_decide_eq_true (by first|(with_reducible assumption)|assumption)
         have q111 : x5_1 < (l0.length : Int):=of_decide_eq_true (by first|(with_reducible assumption)|assumption)
         obtain ⟨ad111,e111,hx111_0,hx111_1⟩:=at_T46 HR0.out x5_1 p111 q111
         obtain rfl : ad109=ad111:=(by injection e111)
         replace p111:=eq_true p111
         replace q111:=eq_true q111
         have p112 : 0≤(x5_1 : Int):=of_decide_eq_true (by first|(with_reducible assumption)|assumption)
         have q112 : x5_1 < (l1.length : Int):=of_decide_eq_true (by first|(with_reducible assumption)|assumption)
         obtain ⟨ad112,e112,hx112_0,hx112_1⟩:=at_T35 HR1.out x5_1 p112 q112
         obtain rfl : ad110=ad112:=(by injection e112)
         replace p112:=eq_true p112
         replace q112:=eq_true q112
         go_wp2
         repeat (go_quiet (fail);try go_wp2)
         go_roundg k1
         case measure => have:=HK1.out;omega
         case rel => exact ⟨(wrap64 (x5_1 + 1)),(by first|rfl|(simp;done)|(simp [*];done)),H',⟨by have:=HK1.out;omega⟩,by repeat (first|exact Zp.refl _|apply Zp.step)⟩
        ·rw [if_neg c8] at H
         have c8b0 : (((Zq l0 x5_1).f1).toList == ((rd_T35 l1 x5_1).f1).toList)=false:=beq_eq_false_iff_ne.mpr c8
         have c8b1 : (((Zq l0 x5_1).f1).toList != ((rd_T35 l1 x5_1).f1).toList)=true:=bne_iff_ne.mpr c8
         obtain rfl:=Option.some.inj H
         have p109 : 0≤(x5_1 : Int):=of_decide_eq_true (by first|(with_reducible assumption)|assumption)
         have q109 : x5_1 < (l0.length : Int):=of_decide_eq_true (by first|(with_reducible assumption)|assumption)
         obtain ⟨ad109,e109,hx109_0,hx109_1⟩:=at_T46 HR0.out x5_1 p109 q109
         cases e109
         replace p109:=eq_true p109
         replace q109:=eq_true q109
         have p110 : 0≤(x5_1 : Int):=of_decide_eq_true (by first|(with_reducible assumption)|assumption)
         have q110 : x5_1 < (l1.length : Int):=of_decide_eq_true (by first|(with_reducible assumption)|assumption)
         obtain ⟨ad110,e110,hx110_0,hx110_1⟩:=at_T35 HR1.out x5_1 p110 q110
         cases e110
         replace p110:=eq_true p110
         replace q110:=eq_true q110
         have p111 : 0≤(x5_1 : Int):=of_decide_eq_true (by first|(with_reducible assumption)|assumption)
         have q111 : x5_1 < (l0.length : Int):=of_decide_eq_true (by first|(with_reducible assumption)|assumption)
         obtain ⟨ad111,e111,hx111_0,hx111_1⟩:=at_T46 HR0.out x5_1 p111 q111
         obtain rfl : ad109=ad111:=(by injection e111)
         replace p111:=eq_true p111
         replace q111:=eq_true q111
         have p112 : 0≤(x5_1 : Int):=of_decide_eq_true (by first|(with_reducible assumption)|assumption)
         have q112 : x5_1 < (l1.length : Int):=of_decide_eq_true (by first|(with_reducible assumption)|assumption)
         obtain ⟨ad112,e112,hx112_0,hx112_1⟩:=at_T35 HR1.out x5_1 p112 q112
         obtain rfl : ad110=ad112:=(by injection e112)
         replace p112:=eq_true p112
         replace q112:=eq_true q112
         go_wp2
         repeat (go_quiet (fail);try go_wp2)
         go_ret
         exact ⟨by first|rfl|(simp;done)|(simp [*];done),by repeat (first|exact Zp.refl _|apply Zp.step)⟩
       ·rw [if_neg c7] at H
        have c7b0 : (((Zq l0 x5_1).f0).toList == ((rd_T35 l1 x5_1).f0).toList)=false:=beq_eq_false_iff_ne.mpr c7
        have c7b1 : (((Zq l0 x5_1).f0).toList != ((rd_T35 l1 x5_1).f0).toList)=true:=bne_iff_ne.mpr c7
        obtain rfl:=Option.some.inj H
        have p109 : 0≤(x5_1 : Int):=of_decide_eq_true (by first|(with_reducible assumption)|assumption)
        have q109 : x5_1 < (l0.length : Int):=of_decide_eq_true (by first|(with_reducible assumption)|assumption)
        obtain ⟨ad109,e109,hx109_0,hx109_1⟩:=at_T46 HR0.out x5_1 p109 q109
        cases e109
        replace p109:=eq_true p109
        replace q109:=eq_true q109
        have p110 : 0≤(x5_1 : Int):=of_decide_eq_true (by first|(with_reducible assumption)|assumption)
        have q110 : x5_1 < (l1.length : Int):=of_decide_eq_true (by first|(with_reducible assumption)|assumption)
        obtain ⟨ad110,e110,hx110_0,hx110_1⟩:=at_T35 HR1.out x5_1 p110 q110
        cases e110
        replace p110:=eq_true p110
        replace q110:=eq_true q110
        go_wp2
        repeat (go_quiet (fail);try go_wp2)
        go_ret
        exact ⟨by first|rfl|(simp;done)|(simp [*];done),by repeat (first|exact Zp.refl _|apply Zp.step)⟩
      ·rw [if_neg c6] at H
       exact absurd H (by simp)
     ·rw [if_neg c5] at H
      exact absurd H (by simp)
    ·rw [if_neg c4] at H
     have c4b0 : decide (x5_1 < (l0.length : Int))=false:=decide_eq_false c4
     clear c4
     obtain rfl:=Option.some.inj H
     go_wp2
     repeat (go_quiet (fail);try go_wp2)
     go_ret
     exact ⟨by first|rfl|(simp;done)|(simp [*];done),by repeat (first|exact Zp.refl _|apply Zp.step)⟩
 ·rw [if_neg c3] at H
  have c3b0 : ((l0.length : Int) == (l1.length : Int))=false:=beq_eq_false_iff_ne.mpr c3
  have c3b1 : ((l0.length : Int) != (l1.length : Int))=true:=bne_iff_ne.mpr c3
  have c3b2 : (l0.length == l1.length)=false:=by first|simpa using c3|(simp at c3 ⊢;omega)
  obtain rfl:=Option.some.inj H
  go_enter Tryd.func23,Tryd.ntmps23
  go_wp2
  repeat (go_quiet (fail);try go_wp2)
  go_ret
  exact ⟨by first|rfl|(simp;done)|(simp [*];done),by repeat (first|exact Zp.refl _|apply Zp.step)⟩
end Go.Proofs.YtfbgmlophkbejaaDoorQ.Pfa
end
section
namespace Go.Proofs.YtfbgmlophkbejaaDoorQ.Pfa
open Go.RowKit Go.Proofs.YtfbgmlophkbejaaDoorW.PrintWords Go.Proofs.YtfbgmlophkbejaaDoorW.PrintLast Go.Proofs.YtfbgmlophkbejaaDoorW.PrintMore
attribute [local go_sem] max2_int min2_int max_two min_two max_three min_three max_four min_four   -- for this text's walks alone
set_option linter.unusedVariables false
set_option linter.unusedSimpArgs false
/-! ### posternref03_FormDecode: function 13,by a contract of this repo -/
section
open Go.Proofs.YtfbgmlophkbejaaDoor
end
end Go.Proofs.YtfbgmlophkbejaaDoorQ.Pfa
end
section
namespace Go.Proofs.YtfbgmlophkbejaaDoorQ.Pfa
open Go.RowKit Go.Proofs.YtfbgmlophkbejaaDoorW.PrintWords Go.Proofs.YtfbgmlophkbejaaDoorW.PrintLast Go.Proofs.YtfbgmlophkbejaaDoorW.PrintMore
attribute [local go_sem] max2_int min2_int max_two min_two max_three min_three max_four min_four   -- for this text's walks alone
set_option linter.unusedVariables false
set_option linter.unusedSimpArgs false
/-! ### Zu: function 105 -/
def Zu.f (a0 : Int) : Option (Bool):=if a0 ≥ 0 then (if a0 < 55296 then (some true) else (if a0 > 57343 then (some (decide (a0≤1114111))) else (some false))) else (if a0 > 57343 then (some (decide (a0≤1114111))) else (some false))
set_option maxHeartbeats 8000000 in
set_option maxRecDepth 100000 in
theorem Zu.calls (a0 : Int) (r : Bool) (w : World) (h : Zu.f a0=some r) :
  Calls Tryd.prog 105 #[.int .i32 a0] w fun e w' => e=.returned (.bool r)∧Zp w w':=by
 have H : (if a0 ≥ 0 then (if a0 < 55296 then (some true) else (if a0 > 57343 then (some (decide (a0≤1114111))) else (some false))) else (if a0 > 57343 then (some (decide (a0≤1114111))) else (some false)))=some r:=h
 clear h
 by_cases c2 : a0 ≥ 0
 ·rw [if_pos c2] at H
  have c2b0 : decide (0≤a0)=true:=decide_eq_true c2
  clear c2
  by_cases c3 : a0 < 55296
  ·rw [if_pos c3] at H
   have c3b0 : decide (a0 < 55296)=true:=decide_eq_true c3
   clear c3
   obtain rfl:=Option.some.inj H
   go_enter Tryd.func105,Tryd.ntmps105
   go_wp2
   go_ret
   exact ⟨by first|rfl|(simp;done)|(simp [*];done),by repeat (first|exact Zp.refl _|apply Zp.step)⟩
  ·rw [if_neg c3] at H
   have c3b0 : decide (a0 < 55296)=false:=decide_eq_false c3
   clear c3
   by_cases c4 : a0 > 57343
   ·rw [if_pos c4] at H
    have c4b0 : decide (57343 < a0)=true:=decide_eq_true c4
    clear c4
    obtain rfl:=Option.some.inj H
    go_enter Tryd.func105,Tryd.ntmps105
    go_wp2
    go_ret
    exact ⟨by first|rfl|(simp;done)|(simp [*];done),by repeat (first|exact Zp.refl _|apply Zp.step)⟩
   ·rw [if_neg c4] at H
    have c4b0 : decide (57343 < a0)=false:=decide_eq_false c4
    clear c4
    obtain rfl:=Option.some.inj H
    go_enter Tryd.func105,Tryd.ntmps105
    go_wp2
    go_ret
    exact ⟨by first|rfl|(simp;done)|(simp [*];done),by repeat (first|exact Zp.refl _|apply Zp.step)⟩
 ·rw [if_neg c2] at H
  have c2b0 : decide (0≤a0)=false:=decide_eq_false c2
  clear c2
  by_cases c5 : a0 > 57343
  ·rw [if_pos c5] at H
   have c5b0 : decide (57343 < a0)=true:=decide_eq_true c5
   clear c5
   obtain rfl:=Option.some.inj H
   go_enter Tryd.func105,Tryd.ntmps105
   go_wp2
   go_ret
   exact ⟨by first|rfl|(simp;done)|(simp [*];done),by repeat (first|exact Zp.refl _|apply Zp.step)⟩
  ·rw [if_neg c5] at H
   have c5b0 : decide (57343 < a0)=false:=decide_eq_false c5
   clear c5
   obtain rfl:=Option.some.inj H
   go_enter Tryd.func105,Tryd.ntmps105
   go_wp2
   go_ret
   exact ⟨by first|rfl|(simp;done)|(simp [*];done),by repeat (first|exact Zp.refl _|apply Zp.step)⟩
end Go.Proofs.YtfbgmlophkbejaaDoorQ.Pfa
end
section
namespace Go.Proofs.YtfbgmlophkbejaaDoorQ.Pfa
open Go.RowKit Go.Proofs.YtfbgmlophkbejaaDoorW.PrintWords Go.Proofs.YtfbgmlophkbejaaDoorW.PrintLast Go.Proofs.YtfbgmlophkbejaaDoorW.PrintMore
attribute [local go_sem] max2_int min2_int max_two min_two max_three min_three max_four min_four   -- for this text's walks alone
set_option linter.unusedVariables false
set_option linter.unusedSimpArgs false
end Go.Proofs.YtfbgmlophkbejaaDoorQ.Pfa
end
