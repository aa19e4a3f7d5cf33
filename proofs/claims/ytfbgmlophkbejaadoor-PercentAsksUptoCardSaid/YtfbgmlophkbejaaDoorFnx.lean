/- Fields: the place of the first one of a name: the closure, slices.IndexFunc, find. Fields: slices.Clone, slices.DeleteFunc, Without. Fields: Without, Set. Sorting, stable: rows put in order one by one, two ordered rows merged, and where a merge may be split. Plain. Sorting by blocks that double: what stands in the row. Plain. -/
import Derived.Test.YtfbgmlophkbejaaDoorFrmC
import Derived.Test.YtfbgmlophkbejaaDoorQPfax3
import Derived.Test.YtfbgmlophkbejaaDoorQPfax0
import Derived.Lib.SliceRun
set_option linter.unusedVariables false
set_option linter.unusedSimpArgs false
namespace Go.Proofs.YtfbgmlophkbejaaDoor
open Go.RowKit Go.Proofs.YtfbgmlophkbejaaDoorW.PrintWords Go.Proofs.YtfbgmlophkbejaaDoorW.PrintLast Go.Proofs.YtfbgmlophkbejaaDoorQ.Pfa
namespace FC
theorem enter_fn {P : Program} {F : FuncId} {fn : Func} (hf : P.funcs[F]? = some fn) (h1 : (fn.name == "runtime.NumGoroutine") = false) (h2 : fn.body.isNone = false) (args : Array Value) (w : World) : (callFunc F args).run P w = .ok (.enter F args) w := by
 have h1' : ¬ fn.name = "runtime.NumGoroutine" := by simpa using h1
 have h2' : ¬ fn.body=Option.none:=fun e => by rw [e] at h2;cases h2
 unfold callFunc
 simp [go_sem,hf,h1',h2']
def isN (name : ByteArray) (x : S46) : Bool:=decide (x.f0=name)
def valF (x : S46) : Value:=.agg #[.string x.f0,.string x.f1]
def fixF (f : S46→Bool) : List S46→Int→Int
 | [],_ => -1
 | x :: l,i => if f x then i else fixF f l (i + 1)
theorem fixF_drop {f : S46→Bool} {l : List S46} {k : Nat} (h : k < l.length) (i : Int) : fixF f (l.drop k) i=if f (Zq l (k : Int)) then i else fixF f (l.drop (k + 1)) (i + 1):=by
 rw [List.drop_eq_getElem_cons h]
 have hg : Zq l (k : Int)=l[k]:=by unfold Zq;rw [Int.toNat_natCast,List.getD_eq_getElem?_getD,List.getElem?_eq_getElem h];rfl
 rw [hg]
 rfl
theorem isN_eq (name : ByteArray) (x : S46) : (x.f0.toList == name.toList)=isN name x:=by
 unfold isN
 by_cases h : x.f0=name
 ·rw [h,decide_eq_true rfl];exact beq_self_eq_true _
 ·rw [decide_eq_false h]
  refine beq_eq_false_iff_ne.2 fun e => h ?_
  rw [ByteArray.toList_eq,ByteArray.toList_eq] at e
  exact ByteArray.ext (Array.toList_inj.1 e)
set_option maxRecDepth 100000 in
theorem find1_any (name : ByteArray) (x : S46) (g : Nat) (W : World) (hB : Blk W g 9 #[.string name]) : Calls Tryd.prog 79 #[valF x,.pointer (some ⟨g,0,none⟩)] W fun e w' => e=.returned (.bool (isN name x))∧Below W.heap.size W w':=by
 have hlt:=hB.lt
 have hb:=below_one W (.cells #[.string x.f0,.string x.f1] 46)
 have h1:=hB.after hb
 have hc : (W.alloc (.cells #[.string x.f0,.string x.f1] 46)).cell? ⟨g,0,none⟩=some (.string name):=h1.cell 0
 have he:=isN_eq name x
 have HE:=Lib.hid he
 unfold valF
 clear he
 go_enter Tryd.func79,Tryd.ntmps79
 go_wp2
 go_ret
 exact ⟨by rw [HE.out];rfl,hb⟩
set_option maxRecDepth 100000 in
theorem With1_any (name : ByteArray) (x : S46) (g : Nat) (W : World) (hB : Blk W g 9 #[.string name]) : Calls Tryd.prog 54 #[valF x,.pointer (some ⟨g,0,none⟩)] W fun e w' => e=.returned (.bool (isN name x))∧Below W.heap.size W w':=by
 have hlt:=hB.lt
 have hb:=below_one W (.cells #[.string x.f0,.string x.f1] 46)
 have h1:=hB.after hb
 have hc : (W.alloc (.cells #[.string x.f0,.string x.f1] 46)).cell? ⟨g,0,none⟩=some (.string name):=h1.cell 0
 have he:=isN_eq name x
 have HE:=Lib.hid he
 unfold valF
 clear he
 go_enter Tryd.func54,Tryd.ntmps54
 go_wp2
 go_ret
 exact ⟨by rw [HE.out];rfl,hb⟩
set_option maxRecDepth 100000 in
theorem index_any (F : Nat) (caps : Array Value) (eg : ∀ args w,(callFunc F args).run Tryd.prog w=.ok (.enter F args) w) (p : S46→Bool) (l : List S46) (A : Option Addr) (c : Nat) (w : World) (hC : Kd.C k46 w A l.length l)
  (hp : ∀ (W : World) (x : S46),Below w.heap.size w W→Calls Tryd.prog F (#[valF x]++caps) W fun e w' => e=.returned (.bool (p x))∧Below W.heap.size W w') :
  Calls Tryd.prog 78 #[.slice A l.length c,.func (.func F) #[] caps] w fun e w' => e=.returned (.int .i64 (fixF p l 0))∧Below w.heap.size w w':=by
 have hl:=hC.2.1
 obtain ⟨R,hF⟩ : ∃ R,fixF p (l.drop 0) 0=R:=⟨_,rfl⟩
 have hF' : fixF p l 0=R:=hF
 rw [hF']
 have HF : Hid (fixF p (l.drop 0) ((0 : Nat) : Int)=R):=Lib.hid hF
 have HP:=Lib.hid hp
 have HC:=Lib.hid hC
 clear hF hF' hp hC
 go_enter Tryd.func78,Tryd.ntmps78
 go_wp2
 go_loopw [8] (fun i wr => ∃ k : Nat,i=.int .i64 (k : Int)∧k≤l.length∧Hid (fixF p (l.drop k) (k : Int)=R)∧Below w.heap.size w wr) (fun i _ => l.length - (intOf i).toNat)
 case atStart => exact ⟨0,rfl,by omega,HF,Below.refl _ _⟩
 case round =>
  clear HF
  obtain ⟨k,rfl,hk,hw,hbel⟩:=hrel
  by_cases hlt : k < l.length
  ·obtain ⟨ad,rfl,d0,d1⟩:=at_T46 (Kd.C_below HC.out hbel) (k : Int) (by omega) (by omega)
   simp only [Int.toNat_natCast] at d0 d1
   have hw2:=hw.out
   rw [fixF_drop hlt] at hw2
   have hd:=HP.out wr (Zq l (k : Int)) hbel
   unfold valF at hd
   generalize Zq l (k : Int)=q at *
   cases hc : p q with
   | true =>
    rw [hc] at hw2 hd
    simp only [if_true] at hw2
    have HW:=Lib.hid hw2
    have HH:=Lib.hid hd
    clear hd hc hw hw2
    go_wp2_with (go_at_fn F;(with_reducible refine (HH.out).mono ?_);rintro e w2 ⟨rfl,hb2⟩)
    go_ret
    exact ⟨by rw [← HW.out];rfl,Zf hbel hb2⟩
   | false =>
    rw [hc] at hw2 hd
    simp only [Bool.false_eq_true,if_false] at hw2
    have HW : Hid (fixF p (l.drop (k + 1)) ((k + 1 : Nat) : Int)=R):=Lib.hid hw2
    have HH:=Lib.hid hd
    clear hd hc hw hw2
    go_wp2_with (go_at_fn F;(with_reducible refine (HH.out).mono ?_);rintro e w2 ⟨rfl,hb2⟩)
    exact ⟨⟨k + 1,rfl,by omega,HW,Zf hbel hb2⟩,by simp [intOf];omega⟩
  ·obtain rfl : k=l.length:=by omega
   have hw2:=hw.out
   rw [List.drop_length] at hw2
   have HW:=Lib.hid (show R=-1 from hw2.symm)
   clear hw hw2
   go_wp2
   go_ret
   exact ⟨by rw [HW.out];rfl,hbel⟩
set_option maxRecDepth 100000 in
theorem find_any (name : ByteArray) (l : List S46) (A : Option Addr) (c : Nat) (w : World) (hC : Kd.C k46 w A l.length l) : Calls Tryd.prog 51 #[.slice A l.length c,.string name] w fun e w' => e=.returned (.int .i64 (fixF (isN name) l 0))∧Below w.heap.size w w':=by
 have hb:=below_one w (.cells #[.string name] 9)
 have hB : Blk (w.alloc (.cells #[.string name] 9)) w.heap.size 9 #[.string name]:=Blk.new _ _ _
 have hi:=index_any 79 #[.pointer (some ⟨w.heap.size,0,none⟩)] (enter_fn Tryd.func79 (by kernel_rfl) (by kernel_rfl)) (isN name) l A c _ (Kd.C_below hC hb) (fun W x hW => find1_any name x _ W (hB.after hW))
 have HI:=Lib.hid hi
 clear hi
 go_enter Tryd.func51,Tryd.ntmps51
 go_wp2_with (go_at_call 78;(with_reducible refine (HI.out).mono ?_);rintro e w2 ⟨rfl,hb2⟩)
 go_ret
 exact ⟨rfl,Zf hb hb2⟩
theorem fixF_cases (f : S46→Bool) (l : List S46) (i : Int) : (fixF f l i=-1∧∀ x ∈ l,f x=false) ∨ ∃ (k : Nat) (h : k < l.length),fixF f l i=i + k∧f l[k]=true∧∀ x ∈ l.take k,f x=false:=by
 induction l generalizing i with
 | nil => exact Or.inl ⟨rfl,fun x hx => by cases hx⟩
 | cons x l ih =>
  unfold fixF
  by_cases h : f x=true
  ·rw [if_pos h]
   exact Or.inr ⟨0,by simp,by simp,h,fun y hy => by cases hy⟩
  ·rw [if_neg h]
   have h' : f x=false:=by simpa using h
   rcases ih (i + 1) with ⟨h1,h2⟩|⟨k,hk,h1,h2,h3⟩
   ·refine Or.inl ⟨h1,fun y hy => ?_⟩
    rcases List.mem_cons.1 hy with rfl|hy
    ·exact h'
    ·exact h2 y hy
   ·refine Or.inr ⟨k + 1,by simp;omega,by omega,h2,fun y hy => ?_⟩
    rw [List.take_succ_cons] at hy
    rcases List.mem_cons.1 hy with rfl|hy
    ·exact h'
    ·exact h3 y hy
def getF (name : ByteArray) (l : List S46) : ByteArray × Bool:=match l.find? (isN name) with
 | some x => (x.f1,true)
 | none => (⟨#[]⟩,false)
theorem find_take (f : S46→Bool) (l : List S46) (k : Nat) (hk : k < l.length) (h1 : f l[k]=true) (h2 : ∀ x ∈ l.take k,f x=false) : l.find? f=some l[k]:=by
 conv => lhs;rw [← List.take_append_drop k l,List.drop_eq_getElem_cons hk]
 rw [List.find?_append,List.find?_eq_none.2 (fun x hx => by rw [h2 x hx];simp),List.find?_cons_of_pos h1]
 rfl
set_option maxRecDepth 100000 in
theorem Get_any (name : ByteArray) (l : List S46) (A : Option Addr) (c : Nat) (w : World) (hC : Kd.C k46 w A l.length l) : Calls Tryd.prog 18 #[.slice A l.length c,.string name] w fun e w' => e=.returned (.tuple #[.string (getF name l).1,.bool (getF name l).2])∧Below w.heap.size w w':=by
 have hl:=hC.2.1
 have hf:=find_any name l A c w hC
 rcases fixF_cases (isN name) l 0 with ⟨h1,h2⟩|⟨k,hk,h1,h2,h3⟩
 ·rw [h1] at hf
  have hg : getF name l=(⟨#[]⟩,false):=by unfold getF;rw [List.find?_eq_none.2 (fun x hx => by rw [h2 x hx];simp)]
  rw [hg]
  have HF:=Lib.hid hf
  clear hf hg h1 h2
  go_enter Tryd.func18,Tryd.ntmps18
  go_wp2_with (go_at_call 51;(with_reducible refine (HF.out).mono ?_);rintro e w2 ⟨rfl,hb2⟩)
  go_ret2
  exact ⟨rfl,hb2⟩
 ·rw [h1,Int.zero_add] at hf
  have hg : getF name l=((Zq l (k : Int)).f1,true):=by
   unfold getF
   rw [find_take _ l k hk h2 h3]
   have : Zq l (k : Int)=l[k]:=by unfold Zq;rw [Int.toNat_natCast,List.getD_eq_getElem?_getD,List.getElem?_eq_getElem hk];rfl
   rw [this]
  rw [hg]
  have HF:=Lib.hid hf
  have HC:=Lib.hid hC
  have hcs:=fun W (hb : Below w.heap.size w W) => at_T46 (Kd.C_below hC hb) (k : Int) (by omega) (by omega)
  have HCS:=Lib.hid hcs
  clear hf hg h1 h2 h3 hcs hC
  go_enter Tryd.func18,Tryd.ntmps18
  go_wp2_with (go_at_call 51;(with_reducible refine (HF.out).mono ?_);rintro e w2 ⟨rfl,hb2⟩;obtain ⟨ad,rfl,d0,d1⟩:=HCS.out w2 hb2;simp only [Int.toNat_natCast] at d0 d1)
  go_ret2
  exact ⟨rfl,hb2⟩
end FC
end Go.Proofs.YtfbgmlophkbejaaDoor
set_option linter.unusedVariables false
set_option linter.unusedSimpArgs false
namespace Go.Proofs.YtfbgmlophkbejaaDoor
open Go.RowKit Go.Proofs.YtfbgmlophkbejaaDoorW.PrintWords Go.Proofs.YtfbgmlophkbejaaDoorW.PrintLast Go.Proofs.YtfbgmlophkbejaaDoorQ.Pfa
namespace FC
theorem info_fl : (Tryd.prog.info? 46).map (fun i => (i.zero,i.size,i.bytes))=some (some (.agg #[.string ByteArray.empty,.string ByteArray.empty]),2,32):=by kernel_rfl
def RowS (W : World) (B : Nat) (v : Value) (X : List S46) : Prop:=Kd.R k46 46 W B (fun _ => True) v X
theorem RowS.made (W : World) (B : Nat) (hB : B=W.heap.size) : RowS (W.alloc (.cells #[] 46)) B (.slice (some ⟨B,0,none⟩) 0 0) []:=by
 subst hB
 exact ⟨fun _ _ => trivial,[],World.ownsRow_made W #[] 0 (Nat.le_refl _) (Nat.zero_le _) rfl,Reps.none _ _⟩
theorem RowS.lower {W : World} {B B' : Nat} {v : Value} {X : List S46} (h : RowS W B v X) (hb : B'≤B) : RowS W B' v X:=Kd.R_lower h hb
theorem RowS.below {W W' : World} {B : Nat} {v : Value} {X : List S46} (h : RowS W B v X) (hb : Below W.heap.size W W') : RowS W' B v X:=Kd.R_below h hb
theorem app_flx {ops : Array Oper} {rest : List Oper} {o : Oper} {a : Act} {Q : Exit→Act→World→Prop} {W : World} (B : Nat) (hgd : o.guard=none) (s x : Operand)
  (ho : o.op=.call { callee:=.builtin .append,args:=#[s,x],argTypes:=#[30,30] })
  (v : Value) (X Z : List S46) (A1 : Option Addr) (m c : Nat) (hs : a.eval s=v) (hx : a.eval x=.slice A1 m c) (HO : RowS W B v X) (HR : Kd.C k46 W A1 m Z) (hB : B≤W.heap.size) (hl : X.length + m≤1099511627776)
  (h : ∀ v1 w1,RowS w1 B v1 (X++Z)→Below B W w1→W.grownBy w1 v.ownBlock→(v1.ownBlock=v.ownBlock ∨ ∃ b,v1.ownBlock=some b∧W.heap.size≤b)→wpList Tryd.prog ops Q rest (a.put o.dst v1) w1) :
  wpList Tryd.prog ops Q (o :: rest) a W :=
 Kd.R_append_rows k46 (Rr:=k46.K W) (w0:=W) B hgd s x 30 46 _ 32 ho Tryd.underlying30 info_fl rfl (by decide) (by decide) v X Z A1 m c (fun _ => True) (fun _ => False) hs hx HO HR (fun y cs hK => by rw [k46_open hK];exact k46_mkM _ _ _ y) (fun _ hk => hk.elim) (fun _ _ => trivial) (Below.refl _ _) hB (by omega) h
set_option maxRecDepth 100000 in
theorem Clone_any (l : List S46) (A : Option Addr) (c : Nat) (w : World) (hC : Kd.C k46 w A l.length l) (hl : l.length≤1073741824) : Calls Tryd.prog 52 #[.slice A l.length c] w fun e w' => ∃ v,e=.returned v∧RowS w' w.heap.size v l∧Below w.heap.size w w':=by
 have q : ∀ (w : World) (a : Option Addr) (n c n' c' : Nat),(binOp .eql 30 (.slice a n c) (.slice none n' c')).run Tryd.prog w=.ok (.bool a.isNone) w:=fun w a n c n' c' => Lib.run_eql_slice_nil w _ _ a n c n' c' Tryd.underlying30
 cases A with
 | none =>
  have h0 : l=[]:=by
   rcases Nat.eq_zero_or_pos l.length with h|h
   ·exact List.eq_nil_of_length_eq_zero h
   ·obtain ⟨ad,e,_⟩:=hC.2.2 h
    cases e
  subst h0
  clear hC
  go_enter Tryd.func52,Tryd.ntmps52
  go_wp2
  go_ret
  exact ⟨_,rfl,Kd.R_nil _ _ _ _ _,Below.refl _ _⟩
 | some ad =>
  have hb:=below_one w (.cells #[] 46)
  have HC:=Lib.hid (Kd.C_below hC hb)
  have HM:=Lib.hid (RowS.made w _ rfl)
  clear hC
  go_enter Tryd.func52,Tryd.ntmps52
  go_wp2_with (at_builtin;(refine app_flx w.heap.size rfl (.tmp 5) (.tmp 6) rfl _ [] l (some ad) l.length c rfl rfl HM.out HC.out (by simp) (by simp;omega) ?_;intro v1 w1 h1 h2 h3 h4))
  go_ret
  exact ⟨_,rfl,h1,hb.trans (by simpa using h2)⟩
theorem Reps.takeK {R : S46→List Value→Prop} {X : List S46} {inner : List Value} (h : Reps R 2 X inner) (i : Nat) (hi : i≤X.length) : Reps R 2 (X.take i) (inner.take (i * 2)):=by
 have hl:=h.1
 refine ⟨by rw [List.length_take,List.length_take,hl];omega,fun j p hj => ?_⟩
 have hji : j < i:=by
  have:=(List.getElem?_eq_some_iff.1 hj).1
  rw [List.length_take] at this
  omega
 rw [List.getElem?_take_of_lt hji] at hj
 have h2:=h.2 j p hj
 have e : ((inner.take (i * 2)).drop (j * 2)).take 2=(inner.drop (j * 2)).take 2:=by
  rw [List.drop_take,List.take_take,Nat.min_eq_left (by omega)]
 rw [e]
 exact h2
theorem RowS.cut {W : World} {B q n cap : Nat} {X : List S46} (h : RowS W B (.slice (some ⟨q,0,none⟩) n cap) X) (i : Nat) (hi : i≤n) (vs : List Value) (hv : i * 2 + vs.length≤cap * 2) : RowS (W.setCells q (i * 2) vs) B (.slice (some ⟨q,0,none⟩) i cap) (X.take i):=by
 have hn:=(Kd.R_reads' h).1
 obtain ⟨h0,inner,⟨hlen,hcase⟩,hr⟩:=h
 rcases hcase with ⟨e,_⟩|⟨g,cap',cur,e,hbg,hh,hnc,hcm,hcs,htake⟩
 ·cases e
 injection e with e1 e2 e3
 injection e1 with e1
 injection e1 with e1
 subst e1 e3
 have hcs' : cur.size=cap * 2:=hcs
 obtain ⟨cur',h3,h4,h5⟩:=setCells_row vs (i * 2) W cur hh (by omega)
 have hr' : Reps _ 2 (X.take i) (inner.take (i * 2)):=Reps.takeK hr i (by omega)
 have hXi : (X.take i).length=i:=by rw [List.length_take];omega
 refine ⟨fun _ _ => trivial,inner.take (i * 2),?_,?_⟩
 ·rw [hXi]
  have htk : cur'.toList.take (i * 2)=inner.take (i * 2):=by
   have hl1 : (cur.toList.take (i * 2)).length=i * 2:=by rw [List.length_take,Array.length_toList];omega
   rw [h5,List.append_assoc,List.take_append_of_le_length (by omega),List.take_of_length_le (by omega),← htake,List.take_take]
   congr 1
   show i * 2=min (i * 2) (X.length * 2)
   omega
  refine ⟨?_,Or.inr ⟨q,cap,cur',rfl,hbg,h3,by omega,hcm,by rw [h4];exact hcs,htk⟩⟩
  rw [← htk,List.length_take,Array.length_toList,h4,hcs']
  show min (i * 2) (cap * 2)=i * 2
  omega
 ·exact hr'.imp_ (fun x c hp => by rw [k46_openM hp];exact k46_mkM _ _ _ x)
theorem run_clear_two (w : World) (ty : TypeId) (b o n c : Nat) (hc : ∀ j,j < n * 2→(w.cell? ⟨b,o + j,none⟩).isSome=true) (hf : ∀ j,j < n * 2→w.frozen? ⟨b,o + j,none⟩=false) :
  ∃ vs : List Value,vs.length=n * 2∧(Builtin.clear_ #[30] ty #[.slice (some ⟨b,o,none⟩) n c]).run Tryd.prog w=.ok (.tuple #[]) (w.setCells b o vs):=by
 cases n with
 | zero => exact ⟨[],rfl,by simp [Builtin.clear_,run_underlying Tryd.underlying30,World.setCells]⟩
 | succ m =>
  obtain ⟨i0,hi,hzz⟩:=Option.map_eq_some_iff.1 info_fl
  simp only [Prod.mk.injEq] at hzz
  obtain ⟨hz0,hz1,hz2⟩:=hzz
  have hz : ∀ w,(zeroValue 46).run Tryd.prog w=.ok (.agg #[.string ByteArray.empty,.string ByteArray.empty]) w:=fun w => by simp [zeroValue,typeInfo,hi,hz0]
  have hlen : (Builtin.zeroCells (Value.agg #[.string ByteArray.empty,.string ByteArray.empty]).cells (m + 1)).toList.length=(m + 1) * 2:=by
   unfold Builtin.zeroCells
   rw [Array.length_toList,Array.size_map,Array.size_range]
   rfl
  have hone : ∀ u ∈ (Builtin.zeroCells (Value.agg #[.string ByteArray.empty,.string ByteArray.empty]).cells (m + 1)).toList,u.oneCell'=true:=fun u hu => by
   unfold Builtin.zeroCells at hu
   rw [Array.mem_toList_iff,Array.mem_map] at hu
   obtain ⟨x,_,rfl⟩:=hu
   have hx : x % (Value.agg #[.string ByteArray.empty,.string ByteArray.empty]).cells.size < 2:=Nat.mod_lt _ (by decide)
   generalize x % (Value.agg #[.string ByteArray.empty,.string ByteArray.empty]).cells.size=y at hx
   match y,hx with
   | 0,_ => rfl
   | 1,_ => rfl
  have hst:=run_storeCells_cells (P:=Tryd.prog) b o (Builtin.zeroCells (Value.agg #[.string ByteArray.empty,.string ByteArray.empty]).cells (m + 1)).toList 0 w (by rw [hlen];simpa using hc) (by rw [hlen];simpa using hf) hone
  simp only [Nat.add_zero] at hst
  exact ⟨_,hlen,by simp [Builtin.clear_,run_underlying Tryd.underlying30,hz,hst]⟩
theorem below_le {w w1 : World} {B : Nat} (h : Below w.heap.size w w1) (hB : B≤w.heap.size) : Below B w w1:=⟨h.os,h.tape,h.output,h.size,fun i hi => h.block i (by omega)⟩
def DelAt (name : ByteArray) (l : List S46) (a b : Nat) (X : List S46) : Prop:=X.length=l.length∧X.take a=(l.take b).filter (fun x => !isN name x)∧X.drop b=l.drop b
theorem rd_at (l : List S46) (k : Nat) (h : k < l.length) : Zq l (k : Int)=l[k]:=by unfold Zq;rw [Int.toNat_natCast,List.getD_eq_getElem?_getD,List.getElem?_eq_getElem h];rfl
theorem setc_below {B q : Nat} (w : World) (h : B≤q) (vs : List Value) (o : Nat) : Below B w (w.setCells q o vs):=by
 obtain ⟨h1,h2,h3,h4⟩:=setCells_same q vs o w
 exact ⟨h1,h2,h3,Nat.le_of_eq h4.symm,fun i hi => setCells_far vs o i (by omega)⟩
set_option maxRecDepth 100000 in
set_option maxHeartbeats 4000000 in
theorem Del_any (name : ByteArray) (l : List S46) (v : Value) (B g : Nat) (w : World) (hR : RowS w B v l) (hg : g < B) (hB : B≤w.heap.size) (hK : Blk w g 9 #[.string name]) (hl : l.length≤1073741824) :
  Calls Tryd.prog 53 #[v,.func (.func 54) #[] #[.pointer (some ⟨g,0,none⟩)]] w fun e w' => ∃ v',e=.returned v'∧RowS w' B v' (l.filter fun x => !isN name x)∧Below B w w':=by
 obtain ⟨A1,c1,rfl,hc1,hC⟩:=Kd.R_reads hR
 have hi:=index_any 54 #[.pointer (some ⟨g,0,none⟩)] (enter_fn Tryd.func54 (by kernel_rfl) (by kernel_rfl)) (isN name) l A1 c1 w hC (fun W x hW => With1_any name x _ W (hK.after hW))
 rcases fixF_cases (isN name) l 0 with ⟨h1,h2⟩|⟨k,hk,h1,h2,h3⟩
 ·rw [h1] at hi
  have hf : (l.filter fun x => !isN name x)=l:=List.filter_eq_self.2 fun x hx => by rw [h2 x hx];rfl
  rw [hf]
  have HI:=Lib.hid hi
  have HR:=Lib.hid hR
  clear hi hR hC h1 h2 hf hK
  go_enter Tryd.func53,Tryd.ntmps53
  go_wp2_with (go_at_call 78;(with_reducible refine (HI.out).mono ?_);rintro e w2 ⟨rfl,hb2⟩)
  go_ret
  exact ⟨_,rfl,HR.out.below hb2,below_le hb2 hB⟩
 ·rw [h1,Int.zero_add] at hi
  obtain ⟨inner,ho⟩:=Kd.R_own hR
  obtain ⟨q,cap,hv,hBq,hlt⟩:=ho.form (by omega)
  injection hv with hv1 hv2 hv3
  subst hv1 hv3
  have hst : Hid (DelAt name l k (k + 1) l):=Lib.hid ⟨rfl,by
   rw [List.take_succ_eq_append_getElem hk,List.filter_append,List.filter_eq_self.2 (fun x hx => by rw [h3 x hx];rfl),List.filter_cons,h2]
   simp,rfl⟩
  have HI:=Lib.hid hi
  have HR:=Lib.hid hR
  have HK:=Lib.hid hK
  clear hi hR hC h1 h2 h3 hK
  go_enter Tryd.func53,Tryd.ntmps53
  go_wp2_with (go_at_call 78;(with_reducible refine (HI.out).mono ?_);rintro e w2 ⟨rfl,hb2⟩)
  have HR2:=Lib.hid (HR.out.below hb2)
  have HK2:=Lib.hid (HK.out.after hb2)
  have HB2:=Lib.hid (below_le hb2 hB)
  have hq2 : q < w2.heap.size:=by have:=hb2.size;omega
  clear hb2
  have hkd : ((k : Int) == -1)=false:=beq_eq_false_iff_ne.2 (by omega)
  simp only [hkd]
  clear hkd
  go_loopw [5,6] (fun i j wr => ∃ (a b : Nat) (X : List S46),i=.int .i64 (a : Int)∧j=.int .i64 (b : Int)∧a < b∧b≤l.length∧Hid (DelAt name l a b X)∧Hid (RowS wr B (.slice (some ⟨q,0,none⟩) l.length c1) X)∧Hid (Blk wr g 9 #[.string name])∧Hid (Below B w wr)∧q < wr.heap.size) (fun _ j _ => l.length - (intOf j).toNat)
  case atStart => exact ⟨k,k + 1,l,rfl,by simp,by omega,by omega,hst,HR2,HK2,HB2,hq2⟩
  case round =>
   clear hst HR2 HK2 HB2 hq2
   obtain ⟨a,b,X,rfl,rfl,hab,hbl,hD,hX,hK,hW,hq⟩:=hrel
   by_cases hlt : b < l.length
   ·have hXl : X.length=l.length:=hD.out.1
    obtain ⟨ad,e,d0,d1⟩:=at_T46 (Kd.R_reads' hX.out).2.2 (b : Int) (by omega) (by omega)
    obtain rfl:=Option.some.inj e
    simp only [Int.toNat_natCast,Addr.add_lit,Nat.zero_add] at d0 d1
    have hr : Zq X (b : Int)=l[b]:=by
     rw [rd_at X b (by omega)]
     have h1:=congrArg (·[0]?) hD.out.2.2
     simp only [List.getElem?_drop,Nat.add_zero] at h1
     rw [List.getElem?_eq_getElem (by omega),List.getElem?_eq_getElem hlt] at h1
     exact Option.some.inj h1
    rw [hr] at d0 d1
    generalize hy : l[b]=y at *
    have HY:=Lib.hid hy
    clear hr hy
    have hK1 : Blk (wr.alloc (.cells #[.string y.f0,.string y.f1] 46)) g 9 #[.string name]:=hK.out.alloc _
    have hV1 : Blk (wr.alloc (.cells #[.string y.f0,.string y.f1] 46)) wr.heap.size 46 #[.string y.f0,.string y.f1]:=Blk.new _ _ _
    have hX1:=hX.out.below (below_one wr (.cells #[.string y.f0,.string y.f1] 46))
    have hW1 : Below B w (wr.alloc (.cells #[.string y.f0,.string y.f1] 46)):=hW.out.alloc (by have:=hW.out.size;omega) _
    have hq1 : q < (wr.alloc (.cells #[.string y.f0,.string y.f1] 46)).heap.size:=by simp;omega
    have hBw : B≤(wr.alloc (.cells #[.string y.f0,.string y.f1] 46)).heap.size:=Nat.le_trans hB hW1.size
    have HC1:=Lib.hid (With1_any name y g _ hK1)
    have HK1:=Lib.hid hK1
    have HV1:=Lib.hid hV1
    have HX1:=Lib.hid hX1
    have HW1:=Lib.hid hW1
    clear hK1 hV1 hX1 hW1
    cases hc : isN name y with
    | true =>
     have hn : Hid (DelAt name l a (b + 1) X):=Lib.hid ⟨hXl,by
      rw [List.take_succ_eq_append_getElem hlt,List.filter_append,HY.out,List.filter_cons,hc,hD.out.2.1]
      simp,by
      have h1:=congrArg (List.drop 1) hD.out.2.2
      rw [List.drop_drop,List.drop_drop] at h1
      exact h1⟩
     have hc1:=HC1.out
     unfold valF at hc1
     rw [hc] at hc1
     have HC2:=Lib.hid hc1
     clear hc1 hc
     go_wp2_with (go_at_call 54;(with_reducible refine (HC2.out).mono ?_);rintro e w3 ⟨rfl,hb3⟩)
     exact ⟨⟨a,b + 1,X,rfl,by simp,by omega,by omega,hn,Lib.hid (HX1.out.below hb3),Lib.hid (HK1.out.after hb3),Lib.hid (HW1.out.trans (below_le hb3 hBw)),by have:=hb3.size;omega⟩,by simp [intOf];omega⟩
    | false =>
     have hn : Hid (DelAt name l (a + 1) (b + 1) (X.set a y)):=Lib.hid ⟨by rw [List.length_set];exact hXl,by
      rw [List.take_succ_eq_append_getElem hlt,List.filter_append,HY.out,List.filter_cons,hc,← hD.out.2.1,List.take_succ_eq_append_getElem (by rw [List.length_set];omega),List.take_set_of_le (Nat.le_refl _),List.getElem_set_self]
      simp,by
      have h1:=congrArg (List.drop 1) hD.out.2.2
      rw [List.drop_drop,List.drop_drop] at h1
      rw [List.drop_set_of_lt (by omega)]
      exact h1⟩
     have hc1:=HC1.out
     unfold valF at hc1
     rw [hc] at hc1
     have HC2:=Lib.hid hc1
     clear hc1 hc
     go_wp2_with (first
      | (go_at_call 54;(with_reducible refine (HC2.out).mono ?_);rintro e w3 ⟨rfl,hb3⟩;have hV3:=HV1.out.after hb3;have f0 : w3.cell? ⟨wr.heap.size,0,none⟩=some (.string y.f0):=hV3.cell 0;have f1 : w3.cell? ⟨wr.heap.size,1,none⟩=some (.string y.f1):=hV3.cell 1;have hX3:=HX1.out.below hb3;obtain ⟨ad,e,p0,p1⟩:=at_T46 (Kd.R_reads' hX3).2.2 (a : Int) (by omega) (by omega);obtain rfl:=Option.some.inj e;simp only [Int.toNat_natCast,Addr.add_lit,Nat.zero_add] at p0 p1;have D0:=Lib.hid p0;have D1:=Lib.hid p1;clear p0 p1;have X3:=Lib.hid hX3;have hBw3 : B≤w3.heap.size:=by have:=hb3.size;omega)
      | ((with_reducible refine gate_store (t:=46) (p:=33) (v:=.tmp 32) rfl ?_);go_loud (refine Kd.R_store k46 (w0:=w3) B rfl rfl 46 (.tmp 33) (.tmp 32) rfl 46 (a : Int) 0 X y (valF y) [.string y.f0,.string y.f1] [.string (Zq X (a : Int)).f0,.string (Zq X (a : Int)).f1] (fun _ => True) (fun _ => False) rfl (show a * 2=a * 2 + 0 from rfl) rfl rfl (by kernel_rfl) (by simp [Value.oneCell']) X3.out (by omega) (by omega) rfl ?hcc (by show 0 + 2≤2;omega) (k46_mkM _ _ _ y) (fun _ h => h.elim) (Below.refl _ _) ?_;(case hcc => intro j u hj;match j,hj with | 0,hj => exact (Option.some.inj hj) ▸ D0.out | 1,hj => exact (Option.some.inj hj) ▸ D1.out);intro w4 hX4 hb4 hg4)))
     exact ⟨⟨a + 1,b + 1,X.set a y,by simp,by simp,by omega,by omega,hn,Lib.hid hX4,Lib.hid ((HK1.out.after hb3).grown hg4 (by simp;omega)),Lib.hid ((HW1.out.trans (below_le hb3 hBw)).trans hb4),by have:=hg4.size;have:=hb3.size;omega⟩,by simp [intOf];omega⟩
   ·obtain rfl : b=l.length:=by omega
    obtain ⟨inner2,ho2⟩:=Kd.R_own hX.out
    rcases ho2.2 with ⟨e,_⟩|⟨g2,cap2,cur,e,hbg,hh,hnc,hcm,hcs,htake⟩
    ·cases e
    injection e with e1 e2 e3
    injection e1 with e1
    injection e1 with e1
    subst e1 e3
    have hcs' : cur.size=c1 * 2:=hcs
    have hcl:=fun ty => run_clear_two wr ty q (a * 2) (l.length - a) (c1 - a) (fun j hj => by rw [cell_of_row wr q _ cur 46 (0,0) hh];simp;omega) (fun j _ => blk_frozen hh _)
    obtain ⟨vs,hvs,hcl⟩:=hcl 0
    have hcut:=Lib.hid (RowS.cut hX.out a (by omega) vs (by omega))
    have hgr : q < wr.heap.size∧B≤q:=⟨hq,hBq⟩
    clear e2 ho2 hcs hcs' htake hh hnc hvs
    go_wp2
    go_ret
    have hD1:=hD.out.2.1
    rw [List.take_length] at hD1
    rw [← hD1]
    exact ⟨_,rfl,hcut.out,hW.out.trans (setc_below wr hBq vs (a * 2))⟩
end FC
end Go.Proofs.YtfbgmlophkbejaaDoor
set_option linter.unusedVariables false
set_option linter.unusedSimpArgs false
namespace Go.Proofs.YtfbgmlophkbejaaDoor
open Go.RowKit Go.Proofs.YtfbgmlophkbejaaDoorW.PrintWords Go.Proofs.YtfbgmlophkbejaaDoorW.PrintLast Go.Proofs.YtfbgmlophkbejaaDoorQ.Pfa
namespace FC
set_option maxRecDepth 100000 in
theorem Without_any (name : ByteArray) (l : List S46) (A : Option Addr) (c : Nat) (w : World) (hC : Kd.C k46 w A l.length l) (hl : l.length≤1073741824) : Calls Tryd.prog 21 #[.slice A l.length c,.string name] w fun e w' => ∃ v,e=.returned v∧RowS w' w.heap.size v (l.filter fun x => !isN name x)∧Below w.heap.size w w':=by
 have hb:=below_one w (.cells #[.string name] 9)
 have hB : Blk (w.alloc (.cells #[.string name] 9)) w.heap.size 9 #[.string name]:=Blk.new _ _ _
 have hc:=Clone_any l A c _ (Kd.C_below hC hb) hl
 have HC:=Lib.hid hc
 have hsz : (w.alloc (.cells #[.string name] 9)).heap.size=w.heap.size + 1:=by simp
 have Hsz:=Lib.hid hsz
 have hlt:=hb.size
 clear hc hC hsz
 go_enter Tryd.func21,Tryd.ntmps21
 go_wp2_with (first
  | (go_at_call 52;((with_reducible refine (HC.out).mono ?_);rintro e w2 ⟨v2,rfl,hR2,hb2⟩;have HD:=Lib.hid (Del_any name l v2 _ w.heap.size w2 hR2 (by rw [Hsz.out];omega) hb2.size (hB.after hb2) hl);have Hb2:=Lib.hid hb2;clear hb2 hR2))
  | (go_at_call 53;((with_reducible refine (HD.out).mono ?_);rintro e w3 ⟨v3,rfl,hR3,hb3⟩)))
 go_ret
 have hb2:=Hb2.out
 refine ⟨_,rfl,hR3.lower hlt,hb.trans ?_⟩
 have h1:=below_le hb2 hlt
 exact h1.trans ⟨hb3.os,hb3.tape,hb3.output,hb3.size,fun i hi => hb3.block i (by omega)⟩
def setF (name value : ByteArray) (l : List S46) : List S46:=match l.findIdx? (isN name) with
 | some k => l.take k++[⟨name,value⟩]++(l.drop (k + 1)).filter fun x => !isN name x
 | none => l++[⟨name,value⟩]
theorem RowS.one (W : World) (y : S46) : Kd.C k46 (W.alloc (.cells #[.string y.f0,.string y.f1] 46)) (some ⟨W.heap.size,0,none⟩) 1 [y]:=by
 have hB : Blk (W.alloc (.cells #[.string y.f0,.string y.f1] 46)) W.heap.size 46 #[.string y.f0,.string y.f1]:=Blk.new _ _ _
 refine ⟨rfl,by decide,fun _ => ⟨_,rfl,fun j p hj => ?_⟩⟩
 match j,hj with
 | 0,hj =>
  obtain rfl:=Option.some.inj hj
  refine ⟨[.string y.f0,.string y.f1],rfl,k46_mk _ y,fun i u hu => ?_⟩
  rw [Addr.add_lit]
  match i,hu with
  | 0,hu => obtain rfl:=Option.some.inj hu;exact hB.cell 0
  | 1,hu => obtain rfl:=Option.some.inj hu;exact hB.cell 1
set_option maxRecDepth 100000 in
set_option maxHeartbeats 4000000 in
theorem Set_any (name value : ByteArray) (l : List S46) (A : Option Addr) (c : Nat) (w : World) (hC : Kd.C k46 w A l.length l) (hcc : l.length≤c) (hl : l.length≤1073741824) : Calls Tryd.prog 20 #[.slice A l.length c,.string name,.string value] w fun e w' => ∃ v,e=.returned v∧RowS w' w.heap.size v (setF name value l)∧Below w.heap.size w w':=by
 have hf:=find_any name l A c w hC
 rcases fixF_cases (isN name) l 0 with ⟨h1,h2⟩|⟨k,hk,h1,h2,h3⟩
 ·rw [h1] at hf
  have hg : setF name value l=l++[⟨name,value⟩]:=by unfold setF;rw [List.findIdx?_eq_none_iff.2 h2]
  rw [hg]
  have HF:=Lib.hid hf
  have HC:=Lib.hid hC
  have HCl:=Lib.hid (fun W (hb : Below w.heap.size w W) => Clone_any l A c W (Kd.C_below hC hb) hl)
  clear hf hg h1 h2 hC
  go_enter Tryd.func20,Tryd.ntmps20
  go_wp2_with (first
   | (go_at_call 51;(with_reducible refine (HF.out).mono ?_);rintro e w2 ⟨rfl,hb2⟩)
   | (go_at_call 52;(with_reducible refine (HCl.out _ hb2).mono ?_);rintro e w3 ⟨v3,rfl,hR3,hb3⟩;have hlw:=hb2.size;have hlw3:=hb3.size;have hO:=(hR3.lower hlw).below (below_one w3 (.cells #[.string name,.string value] 46));have hN:=RowS.one w3 ⟨name,value⟩;have Hb2:=Lib.hid hb2;have Hb3:=Lib.hid hb3;clear hb2 hb3)
   | (at_builtin;(refine app_flx (W:=w3.alloc (.cells #[.string name,.string value] 46)) w.heap.size rfl (.tmp 15) (.tmp 19) rfl _ l [⟨name,value⟩] (some ⟨w3.heap.size,0,none⟩) 1 1 rfl rfl hO hN (by simp;omega) (by omega) ?_;intro v4 w4 hR4 hb4 _ _)))
  go_ret
  exact ⟨_,rfl,hR4,((Zf Hb2.out Hb3.out).trans (below_le (below_one w3 _) (by omega))).trans hb4⟩
 ·rw [h1,Int.zero_add] at hf
  have hg : setF name value l=(l.take k++[⟨name,value⟩])++(l.drop (k + 1)).filter fun x => !isN name x:=by
   unfold setF
   have : l.findIdx? (isN name)=some k:=List.findIdx?_eq_some_iff_getElem.2 ⟨hk,h2,fun j hj => by
    have:=h3 l[j] (List.mem_iff_getElem.2 ⟨j,by rw [List.length_take];omega,by rw [List.getElem_take]⟩)
    rw [this]
    simp⟩
   rw [this]
  rw [hg]
  obtain ⟨i0,hi,hzz⟩:=Option.map_eq_some_iff.1 info_fl
  simp only [Prod.mk.injEq] at hzz
  have hk1 : wrap64 ((k : Int) + 1)=((k + 1 : Nat) : Int):=by unfold wrap64;omega
  have hk2 : IntKind.i64.wrap ((k : Int) + 1)=((k + 1 : Nat) : Int):=(i64_w _).trans hk1
  have ct:=cut_to 30 46 .i64 Tryd.underlying30 hi A l.length c (k : Int) (by omega) (by omega) hcc
  have cf:=cut_from 30 46 .i64 Tryd.underlying30 hi 2 hzz.2.1 A l.length c ((k + 1 : Nat) : Int) (by omega) (by omega)
  rw [Int.toNat_natCast] at ct cf
  have hT:=Kd.C_take (m:=k) hC (by omega)
  have hD:=Kd.C_drop (m:=k + 1) (c:=c) hC (by omega) hcc
  have hD2 : Kd.C k46 w (if c=k + 1 then A else A.map (·.add ((k + 1) * 2))) (l.drop (k + 1)).length (l.drop (k + 1)):=hD
  have hTl : (l.take k).length=k:=by rw [List.length_take];omega
  have hDl : (l.drop (k + 1)).length=l.length - (k + 1):=by rw [List.length_drop]
  have HF:=Lib.hid hf
  have hcl:=(fun W (hb : Below w.heap.size w W) => Clone_any (l.take k) A c W (Kd.C_below hT hb) (by omega))
  have hwo1:=(fun W (hc : c=k + 1) (hb : Below w.heap.size w W) => Without_any name (l.drop (k + 1)) A 0 W (by rw [if_pos hc] at hD2;exact Kd.C_below hD2 hb) (by omega))
  have hwo2:=(fun W (hc : ¬ c=k + 1) (hb : Below w.heap.size w W) => Without_any name (l.drop (k + 1)) (A.map (·.add ((k + 1) * 2))) (c - (k + 1)) W (by rw [if_neg hc] at hD2;exact Kd.C_below hD2 hb) (by omega))
  rw [hTl] at hcl
  rw [hDl] at hwo1 hwo2
  have hFl:=List.length_filter_le (fun x => !isN name x) (l.drop (k + 1))
  rw [hDl] at hFl
  generalize (l.drop (k + 1)).filter (fun x => !isN name x)=FF at *
  have HCl:=Lib.hid hcl
  have HW1:=Lib.hid hwo1
  have HW2:=Lib.hid hwo2
  have HDl:=Lib.hid hDl
  have HTl:=Lib.hid hTl
  clear hf hg h1 h2 h3 hC hT hD hD2 hcl hwo1 hwo2 hi hzz hDl hTl
  go_enter Tryd.func20,Tryd.ntmps20
  go_wp2_with (first
   | (go_at_call 51;(with_reducible refine (HF.out).mono ?_);rintro e w2 ⟨rfl,hb2⟩)
   | (go_at_call 52;go_loud ((with_reducible refine (HCl.out _ hb2).mono ?_);rintro e w3 ⟨v3,rfl,hR3,hb3⟩;have hlw:=hb2.size;have hlw3:=hb3.size;have hO:=(hR3.lower hlw).below (below_one w3 (.cells #[.string name,.string value] 46));have hN:=RowS.one w3 ⟨name,value⟩;have Hb2:=Lib.hid hb2;have Hb3:=Lib.hid hb3;clear hb2 hb3))
   | (at_builtin;(refine app_flx (W:=w3.alloc (.cells #[.string name,.string value] 46)) w.heap.size rfl (.tmp 24) (.tmp 28) rfl _ (l.take k) [⟨name,value⟩] (some ⟨w3.heap.size,0,none⟩) 1 1 rfl rfl hO hN (by simp;omega) (by rw [HTl.out];omega) ?_;intro v4 w4 hR4 hb4 _ _;have hL4:=((Zf Hb2.out Hb3.out).trans (below_le (below_one w3 (.cells #[.string name,.string value] 46)) (by omega))).trans hb4;have hsz4:=hL4.size))
   | (go_at_call 21;first
    | ((with_reducible refine (HW1.out _ (by assumption) hL4).mono ?_);rintro e w5 ⟨v5,rfl,hR5,hb5⟩;obtain ⟨A5,c5,rfl,hc5,hC5⟩:=Kd.R_reads hR5;have hR4':=hR4.below hb5;have hL5:=Zf hL4 hb5;have hsz5:=hb5.size)
    | ((with_reducible refine (HW2.out _ (by assumption) hL4).mono ?_);rintro e w5 ⟨v5,rfl,hR5,hb5⟩;obtain ⟨A5,c5,rfl,hc5,hC5⟩:=Kd.R_reads hR5;have hR4':=hR4.below hb5;have hL5:=Zf hL4 hb5;have hsz5:=hb5.size))
   | (at_builtin;(refine app_flx (W:=w5) w.heap.size rfl (.tmp 30) (.tmp 36) rfl _ (l.take k++[({ f0:=name,f1:=value } : S46)]) FF A5 FF.length c5 rfl rfl hR4' hC5 (by omega) (by rw [List.length_append,HTl.out,List.length_singleton];omega) ?_;intro v6 w6 hR6 hb6 _ _)))
  all_goals (go_ret;exact ⟨_,rfl,hR6,hL5.trans hb6⟩)
end FC
end Go.Proofs.YtfbgmlophkbejaaDoor
set_option linter.unusedVariables false
set_option linter.unusedSimpArgs false
namespace Go.Proofs.YtfbgmlophkbejaaDoor
namespace Sr
variable {α : Type}
structure WO (lt : α→α→Bool) : Prop where
 trans : ∀ x y z,lt x y=true→lt y z=true→lt x z=true
 neg : ∀ x y z,lt x z=true→lt x y=true ∨ lt y z=true
 asym : ∀ x y,lt x y=true→lt y x=false
def ins (lt : α→α→Bool) (x : α) : List α→List α
 | [] => [x]
 | y :: r => if lt x y then x :: y :: r else y :: ins lt x r
def srt (lt : α→α→Bool) (l : List α) : List α:=l.foldl (fun acc x => ins lt x acc) []
def Ord (lt : α→α→Bool) (l : List α) : Prop:=l.Pairwise fun a b => lt b a=false
def mrg (lt : α→α→Bool) : List α→List α→List α
 | [],R => R
 | x :: L,[] => x :: L
 | x :: L,y :: R => if lt y x then y :: mrg lt (x :: L) R else x :: mrg lt L (y :: R)
termination_by L R => L.length + R.length
variable {lt : α→α→Bool}
theorem mrg_nil (R : List α) : mrg lt [] R=R:=by rw [mrg]
theorem mrg_nil' (L : List α) : mrg lt L []=L:=by cases L <;> rw [mrg]
theorem mrg_cons (x y : α) (L R : List α) : mrg lt (x :: L) (y :: R)=if lt y x then y :: mrg lt (x :: L) R else x :: mrg lt L (y :: R):=by rw [mrg]
theorem ins_len (x : α) (l : List α) : (ins lt x l).length=l.length + 1:=by
 induction l with
 | nil => rfl
 | cons y r ih => unfold ins;split <;> simp [ih]
theorem ins_mem (x : α) (l : List α) : ∀ z,z ∈ ins lt x l ↔ z=x ∨ z ∈ l:=by
 induction l with
 | nil => intro z;simp [ins]
 | cons y r ih =>
  intro z
  unfold ins
  split
  ·simp
  ·simp only [List.mem_cons,ih]
   constructor
   ·rintro (h|h|h) <;> simp [h]
   ·rintro (h|h|h) <;> simp [h]
theorem ins_ord (w : WO lt) (x : α) (l : List α) (h : Ord lt l) : Ord lt (ins lt x l):=by
 induction l with
 | nil => exact List.pairwise_singleton _ _
 | cons y r ih =>
  unfold ins
  have h':=List.pairwise_cons.1 h
  by_cases hc : lt x y=true
  ·rw [if_pos hc]
   refine List.pairwise_cons.2 ⟨fun z hz => ?_,h⟩
   rcases List.mem_cons.1 hz with rfl|hz
   ·exact w.asym _ _ hc
   ·refine Bool.eq_false_iff.2 fun hzx => ?_
    have:=w.trans _ _ _ hzx hc
    rw [h'.1 z hz] at this
    cases this
  ·rw [if_neg hc]
   refine List.pairwise_cons.2 ⟨fun z hz => ?_,ih h'.2⟩
   rcases (ins_mem x r z).1 hz with rfl|hz
   ·exact Bool.eq_false_iff.2 hc
   ·exact h'.1 z hz
theorem fold_ord (w : WO lt) (l : List α) : ∀ acc,Ord lt acc→Ord lt (l.foldl (fun acc x => ins lt x acc) acc):=by
 induction l with
 | nil => intro acc h;exact h
 | cons x r ih => intro acc h;exact ih _ (ins_ord w x acc h)
theorem srt_ord (w : WO lt) (l : List α) : Ord lt (srt lt l):=fold_ord w l [] List.Pairwise.nil
theorem fold_len (l : List α) : ∀ acc : List α,(l.foldl (fun acc x => ins lt x acc) acc).length=l.length + acc.length:=by
 induction l with
 | nil => intro acc;simp
 | cons x r ih => intro acc;rw [List.foldl_cons,ih,ins_len,List.length_cons];omega
theorem srt_len (l : List α) : (srt lt l).length=l.length:=by unfold srt;rw [fold_len];simp
theorem fold_mem (l : List α) : ∀ (acc : List α) (z : α),z ∈ l.foldl (fun acc x => ins lt x acc) acc ↔ z ∈ l ∨ z ∈ acc:=by
 induction l with
 | nil => intro acc z;simp
 | cons x r ih =>
  intro acc z
  rw [List.foldl_cons,ih,ins_mem,List.mem_cons]
  constructor
  ·rintro (h|h|h) <;> simp [h]
  ·rintro ((h|h)|h) <;> simp [h]
theorem srt_mem (l : List α) (z : α) : z ∈ srt lt l ↔ z ∈ l:=by unfold srt;rw [fold_mem];simp
theorem srt_snoc (l : List α) (x : α) : srt lt (l++[x])=ins lt x (srt lt l):=by unfold srt;rw [List.foldl_append];rfl
theorem ins_split (x : α) (P Q : List α) (hP : ∀ p ∈ P,lt x p=false) (hQ : ∀ q r,Q=q :: r→lt x q=true) : ins lt x (P++Q)=P++x :: Q:=by
 induction P with
 | nil =>
  cases Q with
  | nil => rfl
  | cons q r => show ins lt x (q :: r)=_;unfold ins;rw [if_pos (hQ q r rfl)];rfl
 | cons p P ih =>
  rw [List.cons_append]
  unfold ins
  rw [if_neg (by rw [hP p (by simp)];simp),ih (fun y hy => hP y (by simp [hy]))]
  rfl
theorem ord_last (w : WO lt) (x : α) (P : List α) (p : α) (h : Ord lt (P++[p])) (hp : lt x p=false) : ∀ y ∈ P++[p],lt x y=false:=by
 intro y hy
 rcases List.mem_append.1 hy with hy|hy
 ·have h2:=(List.pairwise_append.1 h).2.2 y hy p (by simp)
  refine Bool.eq_false_iff.2 fun hxy => ?_
  rcases w.neg x p y hxy with h3|h3
  ·rw [hp] at h3;cases h3
  ·rw [h2] at h3;cases h3
 ·rw [List.mem_singleton.1 hy];exact hp
theorem mrg_ins (w : WO lt) (x : α) : ∀ (n : Nat) (A B : List α),A.length + B.length=n→ins lt x (mrg lt A B)=mrg lt A (ins lt x B):=by
 intro n
 induction n with
 | zero =>
  intro A B h
  obtain rfl : A=[]:=List.eq_nil_of_length_eq_zero (by omega)
  rw [mrg_nil,mrg_nil]
 | succ n ih =>
  intro A B h
  cases A with
  | nil => rw [mrg_nil,mrg_nil]
  | cons a A =>
   cases B with
   | nil =>
    have:=ih A [] (by simp at h ⊢;omega)
    rw [mrg_nil'] at this ⊢
    show ins lt x (a :: A)=mrg lt (a :: A) [x]
    rw [mrg_cons,mrg_nil']
    unfold ins
    rw [this]
    rfl
   | cons b B =>
    rw [mrg_cons]
    by_cases hba : lt b a=true
    ·rw [if_pos hba]
     have:=ih (a :: A) B (by simp at h ⊢;omega)
     unfold ins
     by_cases hxb : lt x b=true
     ·rw [if_pos hxb,if_pos hxb,mrg_cons,if_pos (w.trans _ _ _ hxb hba),mrg_cons,if_pos hba]
     ·rw [if_neg hxb,if_neg hxb,mrg_cons,if_pos hba,this]
    ·rw [if_neg hba]
     have:=ih A (b :: B) (by simp at h ⊢;omega)
     by_cases hxa : lt x a=true
     ·have hxb : lt x b=true:=(w.neg x b a hxa).resolve_right hba
      have e : ins lt x (b :: B)=x :: b :: B:=by unfold ins;rw [if_pos hxb]
      rw [e,mrg_cons,if_pos hxa,mrg_cons,if_neg hba]
      unfold ins
      rw [if_pos hxa]
     ·have e : ins lt x (a :: mrg lt A (b :: B))=a :: ins lt x (mrg lt A (b :: B)):=by
       conv => lhs;unfold ins
       rw [if_neg hxa]
      rw [e,this]
      unfold ins
      by_cases hxb : lt x b=true
      ·rw [if_pos hxb,mrg_cons,if_neg hxa]
      ·rw [if_neg hxb,mrg_cons,if_neg hba]
theorem fold_mrg (w : WO lt) (R : List α) : ∀ A acc : List α,R.foldl (fun acc x => ins lt x acc) (mrg lt A acc)=mrg lt A (R.foldl (fun acc x => ins lt x acc) acc):=by
 induction R with
 | nil => intro A acc;rfl
 | cons x R ih => intro A acc;rw [List.foldl_cons,List.foldl_cons,mrg_ins w x _ A acc rfl,ih]
theorem srt_app (w : WO lt) (L R : List α) : srt lt (L++R)=mrg lt (srt lt L) (srt lt R):=by
 unfold srt
 rw [List.foldl_append]
 have:=fold_mrg w R (L.foldl (fun acc x => ins lt x acc) []) []
 rw [mrg_nil'] at this
 exact this
theorem mrg_len : ∀ (n : Nat) (L R : List α),L.length + R.length=n→(mrg lt L R).length=L.length + R.length:=by
 intro n
 induction n with
 | zero =>
  intro L R h
  obtain rfl : L=[]:=List.eq_nil_of_length_eq_zero (by omega)
  rw [mrg_nil]
  simp
 | succ n ih =>
  intro L R h
  cases L with
  | nil => rw [mrg_nil];simp
  | cons x L =>
   cases R with
   | nil => rw [mrg_nil'];simp
   | cons y R =>
    rw [mrg_cons]
    split
    ·rw [List.length_cons,ih (x :: L) R (by simp at h ⊢;omega)];simp;omega
    ·rw [List.length_cons,ih L (y :: R) (by simp at h ⊢;omega)];simp;omega
theorem mrg_split : ∀ (n : Nat) (L1 R1 L2 R2 : List α),L1.length + R1.length=n→(∀ r ∈ R1,∀ l ∈ L2,lt r l=true)→(∀ l ∈ L1,∀ r ∈ R2,lt r l=false) →
  mrg lt (L1++L2) (R1++R2)=mrg lt L1 R1++mrg lt L2 R2:=by
 intro n
 induction n with
 | zero =>
  intro L1 R1 L2 R2 h _ _
  obtain rfl : L1=[]:=List.eq_nil_of_length_eq_zero (by omega)
  obtain rfl : R1=[]:=List.eq_nil_of_length_eq_zero (by omega)
  rw [mrg_nil]
  rfl
 | succ n ih =>
  intro L1 R1 L2 R2 h h1 h2
  cases L1 with
  | nil =>
   cases R1 with
   | nil => simp at h
   | cons r R1 =>
    have:=ih [] R1 L2 R2 (by simp at h ⊢;omega) (fun x hx => h1 x (by simp [hx])) (fun x hx => by cases hx)
    rw [mrg_nil] at this ⊢
    cases L2 with
    | nil => rw [List.nil_append,mrg_nil,mrg_nil]
    | cons l L2 =>
     rw [List.nil_append,List.cons_append,mrg_cons,if_pos (h1 r (by simp) l (by simp))]
     rw [List.nil_append] at this
     rw [this]
     rfl
  | cons l L1 =>
   cases R1 with
   | nil =>
    have:=ih L1 [] L2 R2 (by simp at h ⊢;omega) (fun x hx => by cases hx) (fun x hx => h2 x (by simp [hx]))
    rw [mrg_nil'] at this ⊢
    cases R2 with
    | nil => rw [List.nil_append,mrg_nil',mrg_nil']
    | cons r R2 =>
     rw [List.nil_append,List.cons_append,mrg_cons,if_neg (by rw [h2 l (by simp) r (by simp)];simp)]
     rw [List.nil_append] at this
     rw [this]
     rfl
   | cons r R1 =>
    rw [List.cons_append,List.cons_append,mrg_cons,mrg_cons]
    by_cases hc : lt r l=true
    ·have:=ih (l :: L1) R1 L2 R2 (by simp at h ⊢;omega) (fun x hx => h1 x (by simp [hx])) h2
     rw [if_pos hc,if_pos hc]
     rw [List.cons_append] at this
     rw [this]
     rfl
    ·have:=ih L1 (r :: R1) L2 R2 (by simp at h ⊢;omega) h1 (fun x hx => h2 x (by simp [hx]))
     rw [if_neg hc,if_neg hc]
     rw [List.cons_append] at this
     rw [this]
     rfl
theorem cut_low (w : WO lt) (L1 R2 : List α) (h1 : Ord lt L1) (h2 : Ord lt R2) (h : ∀ P x Q y,L1=P++[x]→R2=y :: Q→lt y x=false) : ∀ l ∈ L1,∀ r ∈ R2,lt r l=false:=by
 intro l hl r hr
 rcases List.eq_nil_or_concat L1 with rfl|⟨P,x,rfl⟩
 ·cases hl
 rw [List.concat_eq_append] at *
 cases R2 with
 | nil => cases hr
 | cons y Q =>
  have hyx:=h P x Q y rfl rfl
  have hry : lt r y=false:=by
   rcases List.mem_cons.1 hr with rfl|hr
   ·cases hc : lt r r with
    | false => rfl
    | true => have:=w.asym _ _ hc;rw [hc] at this;cases this
   ·exact (List.pairwise_cons.1 h2).1 r hr
  have hxl : lt x l=false:=by
   rcases List.mem_append.1 hl with hl|hl
   ·exact (List.pairwise_append.1 h1).2.2 l hl x (by simp)
   ·rw [List.mem_singleton.1 hl]
    cases hc : lt x x with
    | false => rfl
    | true => have:=w.asym _ _ hc;rw [hc] at this;cases this
  refine Bool.eq_false_iff.2 fun hc => ?_
  rcases w.neg r y l hc with h3|h3
  ·rw [hry] at h3;cases h3
  ·rcases w.neg y x l h3 with h4|h4
   ·rw [hyx] at h4;cases h4
   ·rw [hxl] at h4;cases h4
theorem cut_high (w : WO lt) (R1 L2 : List α) (h1 : Ord lt R1) (h2 : Ord lt L2) (h : ∀ P x Q y,R1=P++[x]→L2=y :: Q→lt x y=true) : ∀ r ∈ R1,∀ l ∈ L2,lt r l=true:=by
 intro r hr l hl
 rcases List.eq_nil_or_concat R1 with rfl|⟨P,x,rfl⟩
 ·cases hr
 rw [List.concat_eq_append] at *
 cases L2 with
 | nil => cases hl
 | cons y Q =>
  have hxy:=h P x Q y rfl rfl
  have irr : ∀ z,lt z z=false:=fun z => by
   cases hc : lt z z with
   | false => rfl
   | true => have:=w.asym _ _ hc;rw [hc] at this;cases this
  have hly : lt l y=false:=by
   rcases List.mem_cons.1 hl with rfl|hl
   ·exact irr _
   ·exact (List.pairwise_cons.1 h2).1 l hl
  have hxr : lt x r=false:=by
   rcases List.mem_append.1 hr with hr|hr
   ·exact (List.pairwise_append.1 h1).2.2 r hr x (by simp)
   ·rw [List.mem_singleton.1 hr];exact irr _
  have h3 : lt r y=true:=(w.neg x r y hxy).resolve_left (by rw [hxr];simp)
  exact (w.neg r l y h3).resolve_right (by rw [hly];simp)
end Sr
end Go.Proofs.YtfbgmlophkbejaaDoor
set_option linter.unusedVariables false
set_option linter.unusedSimpArgs false
namespace Go.Proofs.YtfbgmlophkbejaaDoor
namespace Sr
variable {α : Type} {lt : α→α→Bool}
def blk (lt : α→α→Bool) (s : Nat) : Nat→List α→List α
 | 0,_ => []
 | k + 1,l => srt lt (l.take s)++blk lt s k (l.drop s)
theorem blk_len (s : Nat) : ∀ (k : Nat) (l : List α),k * s≤l.length→(blk lt s k l).length=k * s:=by
 intro k
 induction k with
 | zero => intro l _;simp [blk]
 | succ k ih =>
  intro l h
  rw [Nat.succ_mul] at h ⊢
  show (srt lt (l.take s)++blk lt s k (l.drop s)).length=_
  rw [List.length_append,srt_len,List.length_take,ih _ (by rw [List.length_drop];omega)]
  omega
theorem blk_snoc (s : Nat) : ∀ (k : Nat) (l : List α),blk lt s (k + 1) l=blk lt s k l++srt lt ((l.drop (k * s)).take s):=by
 intro k
 induction k with
 | zero => intro l;show srt lt (l.take s)++[]=[]++_;simp
 | succ k ih =>
  intro l
  show srt lt (l.take s)++blk lt s (k + 1) (l.drop s)=srt lt (l.take s)++blk lt s k (l.drop s)++_
  rw [ih,List.drop_drop,List.append_assoc,Nat.succ_mul,Nat.add_comm s]
def St (lt : α→α→Bool) (s : Nat) (l X : List α) : Prop:=∃ K ks,ks=K * s∧ks≤l.length∧l.length < ks + s∧X=blk lt s K l++srt lt (l.drop ks)
def In1 (lt : α→α→Bool) (s : Nat) (l : List α) (a : Nat) (X : List α) : Prop:=∃ j K ks,a=j * (2 * s)∧ks=K * s∧2 * j≤K∧ks≤l.length∧l.length < ks + s∧X=blk lt (2 * s) j l++blk lt s (K - 2 * j) (l.drop a)++srt lt (l.drop ks)
def In0 (lt : α→α→Bool) (l : List α) (a : Nat) (X : List α) : Prop:=∃ k,a=k * 20∧a≤l.length∧X=blk lt 20 k l++l.drop a
theorem St.start {s : Nat} {l X : List α} (h : St lt s l X) : In1 lt s l 0 X:=by
 obtain ⟨K,ks,h1,h2,h3,h4⟩:=h
 exact ⟨0,K,ks,by simp,h1,by omega,h2,h3,by rw [h4];simp [blk]⟩
theorem In1.more (w : WO lt) {s a : Nat} {l X : List α} (h : In1 lt s l a X) (hs : 0 < s) (ha : a + 2 * s≤l.length) :
  ∃ A M R S : List α,X=A++M++R++S∧A.length=a∧M.length=s∧R.length=s∧Ord lt M∧Ord lt R∧((∀ z ∈ M,z ∈ l)∧∀ z ∈ R,z ∈ l)∧In1 lt s l (a + 2 * s) (A++mrg lt M R++S):=by
 obtain ⟨j,K,ks,h1,h2,h3,h4,h5,rfl⟩:=h
 have hK : 2 * j + 2≤K:=by
  have h6 : (2 * j + 2) * s < (K + 1) * s:=by
   rw [Nat.succ_mul K s,← h2,Nat.add_mul,Nat.mul_comm 2 j,Nat.mul_assoc,← h1]
   omega
  have:=Nat.lt_of_mul_lt_mul_right h6
  omega
 obtain ⟨t,ht⟩ : ∃ t,K - 2 * j=t + 2:=⟨K - 2 * j - 2,by omega⟩
 have e1 : blk lt s (K - 2 * j) (l.drop a)=srt lt ((l.drop a).take s)++(srt lt (((l.drop a).drop s).take s)++blk lt s t (((l.drop a).drop s).drop s)):=by rw [ht];rfl
 refine ⟨blk lt (2 * s) j l,srt lt ((l.drop a).take s),srt lt (((l.drop a).drop s).take s),blk lt s t (((l.drop a).drop s).drop s)++srt lt (l.drop ks),by rw [e1];simp only [List.append_assoc],by rw [blk_len _ _ _ (by omega)];exact h1.symm,by rw [srt_len,List.length_take,List.length_drop];omega,by rw [srt_len,List.length_take,List.length_drop,List.length_drop];omega,srt_ord w _,srt_ord w _,⟨fun z hz => List.mem_of_mem_drop (List.mem_of_mem_take ((srt_mem _ z).1 hz)),fun z hz => List.mem_of_mem_drop (List.mem_of_mem_drop (List.mem_of_mem_take ((srt_mem _ z).1 hz)))⟩,?_⟩
 refine ⟨j + 1,K,ks,by rw [h1,Nat.add_mul,Nat.one_mul],h2,by omega,h4,h5,?_⟩
 rw [← srt_app w,← List.take_add,blk_snoc,← h1,show K - 2 * (j + 1)=t by omega,List.drop_drop,List.drop_drop,show s + s=2 * s by omega,show a + (2 * s)=a + s + s by omega]
 simp only [List.append_assoc]
theorem In1.last (w : WO lt) {s a : Nat} {l X : List α} (h : In1 lt s l a X) (hs : 0 < s) (ha : l.length < a + 2 * s) (hb : a + s < l.length) :
  ∃ A M R : List α,X=A++M++R++[]∧A.length=a∧M.length=s∧a + s + R.length=l.length∧Ord lt M∧Ord lt R∧((∀ z ∈ M,z ∈ l)∧∀ z ∈ R,z ∈ l)∧St lt (2 * s) l (A++mrg lt M R++[]):=by
 obtain ⟨j,K,ks,h1,h2,h3,h4,h5,rfl⟩:=h
 have hj : a=(2 * j) * s:=by rw [h1,Nat.mul_comm 2 j,Nat.mul_assoc]
 have hK : K=2 * j + 1:=by
  have h6 : K * s < (2 * j + 2) * s:=by rw [Nat.add_mul,← hj,← h2];omega
  have h7 : (2 * j + 1) * s < (K + 1) * s:=by rw [Nat.succ_mul K s,Nat.succ_mul,← hj,← h2];omega
  have h8:=Nat.lt_of_mul_lt_mul_right h6
  have h9:=Nat.lt_of_mul_lt_mul_right h7
  omega
 have hks : ks=a + s:=by rw [h2,hK,Nat.succ_mul,← hj]
 have e1 : blk lt s (K - 2 * j) (l.drop a)=srt lt ((l.drop a).take s)++[]:=by rw [show K - 2 * j=0 + 1 by omega];rfl
 refine ⟨blk lt (2 * s) j l,srt lt ((l.drop a).take s),srt lt (l.drop ks),by rw [e1];simp only [List.append_assoc,List.nil_append,List.append_nil],by rw [blk_len _ _ _ (by omega)];exact h1.symm,by rw [srt_len,List.length_take,List.length_drop];omega,by rw [srt_len,List.length_drop];omega,srt_ord w _,srt_ord w _,⟨fun z hz => List.mem_of_mem_drop (List.mem_of_mem_take ((srt_mem _ z).1 hz)),fun z hz => List.mem_of_mem_drop ((srt_mem _ z).1 hz)⟩,?_⟩
 refine ⟨j,a,h1,by omega,ha,?_⟩
 rw [← srt_app w,hks,← List.drop_drop,List.take_append_drop,List.append_nil]
theorem In1.done {s a : Nat} {l X : List α} (h : In1 lt s l a X) (hs : 0 < s) (ha : a≤l.length) (hb : l.length≤a + s) : St lt (2 * s) l X:=by
 obtain ⟨j,K,ks,h1,h2,h3,h4,h5,rfl⟩:=h
 have hj : a=(2 * j) * s:=by rw [h1,Nat.mul_comm 2 j,Nat.mul_assoc]
 have h6 : K * s < (2 * j + 2) * s:=by rw [Nat.add_mul,← hj,← h2];omega
 have h8:=Nat.lt_of_mul_lt_mul_right h6
 refine ⟨j,a,h1,ha,by omega,?_⟩
 rcases Nat.lt_or_ge (2 * j) K with h9|h9
 ·have hK : K=2 * j + 1:=by omega
  have hks : ks=a + s:=by rw [h2,hK,Nat.succ_mul,← hj]
  rw [show K - 2 * j=0 + 1 by omega]
  show _++(srt lt ((l.drop a).take s)++[])++_=_
  rw [List.take_of_length_le (by rw [List.length_drop];omega),show l.drop ks=[] from List.drop_eq_nil_of_le (by omega)]
  simp [srt]
 ·have hK : K=2 * j:=by omega
  have hks : ks=a:=by rw [h2,hK,← hj]
  rw [show K - 2 * j=0 by omega,hks]
  show _++[]++_=_
  rw [List.append_nil]
theorem St.done {s : Nat} {l X : List α} (h : St lt s l X) (hs : l.length≤s) : X=srt lt l:=by
 obtain ⟨K,ks,h1,h2,h3,rfl⟩:=h
 rcases Nat.lt_or_ge 0 K with h4|h4
 ·obtain ⟨t,rfl⟩ : ∃ t,K=t + 1:=⟨K - 1,by omega⟩
  rw [Nat.succ_mul] at h1
  have ht : t * s=0∧ks=s ∨ l.length=0∧ks=0:=by omega
  rcases ht with ⟨ht,hk⟩|⟨hl,hk⟩
  ·have hls : l.length=s:=by omega
   rw [hk,List.drop_eq_nil_of_le (by omega)]
   rcases Nat.eq_zero_or_pos s with h5|h5
   ·omega
   ·have ht0 : t=0:=by
     rcases Nat.mul_eq_zero.1 ht with h6|h6 <;> omega
    subst ht0
    show srt lt (l.take s)++[]++srt lt []=_
    rw [List.take_of_length_le (by omega)]
    simp [srt]
  ·omega
 ·obtain rfl : K=0:=by omega
  have : ks=0:=by rw [h1];simp
  rw [this]
  rfl
theorem In0.start (l : List α) : In0 lt l 0 l:=⟨0,rfl,by omega,by simp [blk]⟩
theorem In0.more {a : Nat} {l X : List α} (h : In0 lt l a X) (ha : a + 20≤l.length) : ∃ A M S : List α,X=A++M++S∧A.length=a∧M.length=20∧a + 20 + S.length=l.length∧(∀ z ∈ M,z ∈ l)∧In0 lt l (a + 20) (A++srt lt M++S):=by
 obtain ⟨k,h1,h2,rfl⟩:=h
 refine ⟨blk lt 20 k l,(l.drop a).take 20,(l.drop a).drop 20,by rw [List.append_assoc,List.take_append_drop],by rw [blk_len _ _ _ (by omega)];exact h1.symm,by rw [List.length_take,List.length_drop];omega,by rw [List.length_drop,List.length_drop];omega,fun z hz => List.mem_of_mem_drop (List.mem_of_mem_take hz),k + 1,by omega,ha,?_⟩
 rw [blk_snoc,← h1,List.drop_drop]
theorem In0.done {a : Nat} {l X : List α} (h : In0 lt l a X) (ha : l.length < a + 20) : ∃ A M : List α,X=A++M++[]∧A.length=a∧a + M.length=l.length∧(∀ z ∈ M,z ∈ l)∧St lt 20 l (A++srt lt M++[]):=by
 obtain ⟨k,h1,h2,rfl⟩:=h
 exact ⟨blk lt 20 k l,l.drop a,by rw [List.append_nil],by rw [blk_len _ _ _ (by omega)];exact h1.symm,by rw [List.length_drop];omega,fun z hz => List.mem_of_mem_drop hz,k,a,h1,h2,ha,by rw [List.append_nil]⟩
end Sr
end Go.Proofs.YtfbgmlophkbejaaDoor
