/- Puny: slices.Insert of one code point into a row of the call's own. -/
import Derived.Test.YtmjlkifmbhaiiaaDoorBas
import Derived.Shelf.Spec.SlicesInsert
import Derived.Lib.AppendZerosOnto
import Derived.Laws.NewBlocks
set_option linter.unusedVariables false
set_option linter.unusedSimpArgs false
namespace Go.Proofs.YtmjlkifmbhaiiaaDoor
open Go.RowKit Go.Proofs.YtmjlkifmbhaiiaaDoorW.PrintWords Go.Proofs.YtmjlkifmbhaiiaaDoorW.PrintLast
theorem gr_setCell (w : World) (b i : Nat) (v : Value) : w.grownBy (w.setCell ⟨b,i,none⟩ v) (some b) :=
 ⟨rfl,rfl,rfl,by simp [World.setCell],fun k _ hk => Below.heap_setCell _ _ _ _ (fun e => hk (by simp [e]))⟩
theorem gr_trans {w w1 w2 : World} {row : Option Nat} (h : w.grownBy w1 row) (k : w1.grownBy w2 row) : w.grownBy w2 row :=
 ⟨k.os.trans h.os,k.tape.trans h.tape,k.output.trans h.output,Nat.le_trans h.size k.size,fun i hi hr => (k.block i (Nat.lt_of_lt_of_le hi h.size) hr).trans (h.block i hi hr)⟩
theorem gr_refl (w : World) (row : Option Nat) : w.grownBy w row:=⟨rfl,rfl,rfl,Nat.le_refl _,fun _ _ _ => rfl⟩
theorem setCells_blk (b : Nat) (t : TypeId) : ∀ (vs : List Value) (o : Nat) (w : World) (cur : Array Value),Blk w b t cur →
  ∃ cur' : Array Value,Blk (w.setCells b o vs) b t cur'∧cur'.size=cur.size∧(∀ k,k < cur.size→cur'[k]?=if o≤k∧k < o + vs.length then vs[k - o]? else cur[k]?)∧w.grownBy (w.setCells b o vs) (some b)
 | [],o,w,cur,h => ⟨cur,h,rfl,fun k _ => by rw [if_neg (by simp)],gr_refl _ _⟩
 | v :: r,o,w,cur,h => by
  obtain ⟨cur',h1,h2,h3,h4⟩:=setCells_blk b t r (o + 1) (w.setCell ⟨b,o,none⟩ v) _ (h.set_ o v)
  refine ⟨cur',h1,by rw [h2];simp,fun k hk => ?_,gr_trans (gr_setCell w b o v) h4⟩
  rw [h3 k (by simpa using hk)]
  by_cases e : k=o
  ·subst e
   rw [if_neg (by omega),if_pos (by simp)]
   simp [hk]
  ·by_cases g : o + 1≤k∧k < o + 1 + r.length
   ·rw [if_pos g,if_pos (by simp;omega)]
    rw [show k - o=(k - (o + 1)) + 1 by omega]
    rfl
   ·rw [if_neg g,if_neg (by simp;omega)]
    rw [Array.getElem?_setIfInBounds_ne (by omega)]
theorem nums_get (k : IntKind) (l : List Int) (j : Nat) : (nums k l)[j]?=(l[j]?).map (Value.int k):=by unfold nums;rw [List.getElem?_map]
def insL (l : List Int) (i : Nat) (r : Int) : List Int:=l.take i++r :: l.drop i
theorem insL_len (l : List Int) (i : Nat) (r : Int) : (insL l i r).length=l.length + 1:=by
 unfold insL
 simp
 omega
theorem insL_get (l : List Int) (i : Nat) (r : Int) (hi : i≤l.length) (j : Nat) : (insL l i r)[j]?=if j < i then l[j]? else if j=i then some r else l[j - 1]?:=by
 unfold insL
 have hl : (l.take i).length=i:=by rw [List.length_take];omega
 by_cases h : j < i
 ·rw [if_pos h,List.getElem?_append_left (by omega),List.getElem?_take,if_pos h]
 ·rw [if_neg h,List.getElem?_append_right (by omega),hl]
  by_cases e : j=i
  ·subst e;simp
  ·rw [if_neg e,show j - i=(j - i - 1) + 1 by omega,List.getElem?_cons_succ,List.getElem?_drop]
   congr 1
   omega
theorem insL_end (l : List Int) (r : Int) : insL l l.length r=l++[r]:=by
 unfold insL
 rw [List.take_length,List.drop_length]
def InsSuch (base : Nat) (v : Value) (L : List Int) (W : World) (e : Ending) (w' : World) : Prop :=
 ∃ v1,e=.returned v1∧w'.ownsRow base 21 1 v1 L.length (nums .i32 L)∧W.grownBy w' v.ownBlock
theorem info_i32_ : (Tryd.prog.info? 21).map (fun i => (i.zero,i.size,i.bytes))=some (some (.int .i32 0),1,4):=by kernel_rfl
theorem mixed_ : Tryd.prog.follows Departure.mixedOrders=true:=by rfl
theorem size_i32_ : (Tryd.prog.info? 21).map (·.size)=some 1:=by kernel_rfl
set_option maxRecDepth 100000 in
set_option maxHeartbeats 4000000 in
theorem insert_end (W : World) (base : Nat) (v : Value) (l : List Int) (r : Int) (HO : W.ownsRow base 21 1 v l.length (nums .i32 l)) (hbase : base≤W.heap.size) (hl : (l.length + 1) * 4≤140737488355328) :
  Calls Tryd.prog 59 #[v,.int .i64 (l.length : Int),.slice (some ⟨W.heap.size,0,none⟩) 1 1] (W.alloc (.cells #[.int .i32 r] 21)) (InsSuch base v (insL l l.length r) W):=by
 obtain ⟨A1,c1,rfl⟩:=own_slice HO
 have hcap:=own_cap HO
 rw [insL_end]
 go_enter Tryd.func59,Tryd.ntmps59
 go_wp2_with (at_builtin;refine print_append_num (w0:=W) (W:=W) base rfl (.tmp 23) (.tmp 24) 22 21 .i32 4 rfl Tryd.underlying22 info_i32_ (by decide) _ l _ rfl rfl HO (Below.refl _ _) hbase (by omega) ?_;intro v1 w1 ho1 hb1 hg1 hat1)
 all_goals (go_ret;exact ⟨v1,rfl,ho1,by first|exact hg1|(cases A1 <;> exact hg1)⟩)
theorem ins_facts (i n c : Nat) (hi : i < n) (hroom : n + 1≤c) (hc63 : c≤9223372036854775807) : IntKind.i64.wrap ((i : Int) + 1)=(i : Int) + 1∧wrap64 ((i : Int) + 1)=(i : Int) + 1∧wrap64 ((n : Int) + 1)=(n : Int) + 1∧¬ ((i : Int)=(n : Int))∧i≤n∧(0 : Int)≤(i : Int) + 1∧((i : Int) + 1).toNat=i + 1∧¬ (c=i + 1)∧¬ (c=i)∧(i : Int)≤(n : Int) + 1 :=
 ⟨by rw [IntKind.wrap_i64];omega,IntWalk.wrap64_in _ ⟨by omega,by omega⟩,IntWalk.wrap64_in _ ⟨by omega,by omega⟩,by omega,by omega,by omega,by omega,by omega,by omega,by omega⟩
set_option maxRecDepth 100000 in
set_option maxHeartbeats 8000000 in
theorem insert_room (W : World) (base : Nat) (b c : Nat) (l : List Int) (i : Nat) (r : Int) (hi : i < l.length) (hroom : l.length + 1≤c) (hc63 : c≤9223372036854775807) (HO : W.ownsRow base 21 1 (.slice (some ⟨b,0,none⟩) l.length c) l.length (nums .i32 l)) :
  Calls Tryd.prog 59 #[.slice (some ⟨b,0,none⟩) l.length c,.int .i64 (i : Int),.slice (some ⟨W.heap.size,0,none⟩) 1 1] (W.alloc (.cells #[.int .i32 r] 21)) (InsSuch base (.slice (some ⟨b,0,none⟩) l.length c) (insL l i r) W):=by
 have HO2:=HO
 rcases HO.2 with ⟨h,_⟩|⟨g,cap,cur,hv,hb,hh,hnc,hcm,hcs,htk⟩
 ·cases h
 cases hv
 have hbw : b < W.heap.size:=(Array.getElem?_eq_some_iff.1 hh).1
 have hB0 : Blk W b 21 cur:=hh
 have hB1 : Blk (W.alloc (.cells #[.int .i32 r] 21)) b 21 cur:=hB0.alloc _
 have hV1 : Blk (W.alloc (.cells #[.int .i32 r] 21)) W.heap.size 21 #[.int .i32 r]:=Blk.new _ _ _
 have hne : W.heap.size ≠ b:=by omega
 have hcur : ∀ j,j < l.length→cur[j]?=(l[j]?).map (Value.int .i32):=fun j hj => by
  have h1 : (cur.toList.take (l.length * 1))[j]?=(nums .i32 l)[j]?:=by rw [htk]
  rw [List.getElem?_take,if_pos (by omega),nums_get,Array.getElem?_toList] at h1
  exact h1
 have hcsz : cur.size=c:=by omega
 have hwo : ∀ w' : World,(W.alloc (.cells #[.int .i32 r] 21)).grownBy w' (some b)→W.grownBy w' (some b):=fun w' k => gr_trans (World.grownBy_alloc W _ _) k
 -- the row behind the two copies
 have hfin : ∀ w1 : World,Blk w1 b 21 cur→w1.cell? ⟨W.heap.size,0,none⟩=some (.int .i32 r)→W.grownBy w1 (some b) →
   ((w1.setCells b (i + 1) ((nums .i32 l).drop i)).setCells b i [.int .i32 r]).ownsRow base 21 1 (.slice (some ⟨b,0,none⟩) (l.length + 1) c) (insL l i r).length (nums .i32 (insL l i r))∧W.grownBy ((w1.setCells b (i + 1) ((nums .i32 l).drop i)).setCells b i [.int .i32 r]) (some b):=by
  intro w1 hbw1 _ hg1
  obtain ⟨cu2,k1,k2,k3,k4⟩:=setCells_blk b 21 ((nums .i32 l).drop i) (i + 1) w1 cur hbw1
  obtain ⟨cu3,m1,m2,m3,m4⟩:=setCells_blk b 21 [.int .i32 r] i _ cu2 k1
  have hdl : ((nums .i32 l).drop i).length=l.length - i:=by rw [List.length_drop,nums_length]
  refine ⟨⟨by rw [nums_length,Nat.mul_one],Or.inr ⟨b,c,cu3,by rw [insL_len],hb,m1,by rw [insL_len];exact hroom,hcm,by omega,?_⟩⟩,gr_trans (gr_trans hg1 k4) m4⟩
  apply List.ext_getElem?
  intro j
  rw [nums_get,insL_get l i r (by omega),List.getElem?_take,insL_len]
  by_cases hj : j < (l.length + 1) * 1
  ·rw [if_pos hj,Array.getElem?_toList,m3 j (by omega),k3 j (by omega)]
   simp only [List.length_singleton,hdl]
   by_cases e1 : j < i
   ·rw [if_neg (by omega),if_neg (by omega),if_pos e1,hcur j (by omega)]
   ·by_cases e2 : j=i
    ·subst e2
     rw [if_pos (by omega),if_neg (by omega),if_pos rfl]
     simp
    ·rw [if_neg (by omega),if_pos (by omega),if_neg e1,if_neg e2,List.getElem?_drop,nums_get]
     congr 2
     omega
  ·rw [if_neg hj,if_neg (by omega),if_neg (by omega)]
   rw [List.getElem?_eq_none (by omega)]
   rfl
 have hov : ∀ lb cb W2,Blk W2 b 21 cur→Blk W2 W.heap.size 21 #[.int .i32 r]→(callFunc 62 #[.slice (some ⟨W.heap.size,0,none⟩) 1 1,.slice (some ⟨b,i + 1,none⟩) lb cb]).run Tryd.prog W2=.ok (.value (.bool false)) W2:=fun lb cb W2 q1 q2 => by
  rw [run_callFunc_extern Tryd.func62 (by kernel_rfl) (by kernel_rfl) (by kernel_rfl) (e:=Extern.SlicesOverlaps.overlaps #[22,22] #[4]) (by kernel_rfl),
   Lib.run_overlaps_apart W2 22 4 21 Tryd.underlying22 1 (fun w => by rfl) ⟨W.heap.size,0,none⟩ ⟨b,i + 1,none⟩ 1 1 lb cb hne 21 21 1 cur.size (by unfold World.shape?;rw [show W2.heap[W.heap.size]?=_ from q2];rfl) (by unfold World.shape?;rw [show W2.heap[b]?=_ from q1]) (by omega) (q2.frozen 0) (q2.frozen 1)]
  rfl
 obtain ⟨W1,hW1⟩ : ∃ W1,W1=W.alloc (.cells #[.int .i32 r] 21):=⟨_,rfl⟩
 have hgw : ∀ w1,W1.grownBy w1 (some b)→W.grownBy w1 (some b):=fun w1 k => hwo w1 (hW1 ▸ k)
 rw [← hW1] at hB1 hV1 ⊢
 have hV0 : W1.cell? ⟨W.heap.size,0,none⟩=some (.int .i32 r):=hV1.cell 0
 have hdl : ((nums .i32 l).drop i).length=l.length - i:=by rw [List.length_drop,nums_length]
 have h1c : ∀ v ∈ (nums .i32 l).drop i,v.oneCell'=true:=fun v hv => by
  obtain ⟨x,_,rfl⟩:=List.mem_map.1 (List.mem_of_mem_drop hv)
  rfl
 have hcp1 : ∀ (w2 : World),Blk w2 b 21 cur→∀ ty dc sc,(Builtin.copy_ #[22,22] ty #[.slice (some ⟨b,i + 1,none⟩) (l.length - i) dc,.slice (some ⟨b,i,none⟩) (l.length + 1 - i) sc]).run Tryd.prog w2=.ok (goInt ((nums .i32 l).drop i).length) (w2.setCells b (i + 1) ((nums .i32 l).drop i)):=fun w2 q ty dc sc =>
  run_copy_cells w2 _ _ ty 21 b (i + 1) (l.length - i) dc ⟨b,i,none⟩ (l.length + 1 - i) sc ((nums .i32 l).drop i) Tryd.underlying22 size_i32_ (by rw [hdl];simp only [Nat.min_def];split <;> omega)
   (fun j v hj => by
    rw [List.getElem?_drop,nums_get] at hj
    rw [Addr.add_lit,q.cell (i + j),hcur (i + j) (by
     rcases Nat.lt_or_ge (i + j) l.length with h|h
     ·exact h
     ·rw [List.getElem?_eq_none h] at hj;cases hj),hj])
   (fun j hj => by rw [q.cell,Array.getElem?_eq_getElem (by omega)];rfl) (fun j hj => q.frozen _) h1c
 have hcp2 : ∀ (w2 : World),(∃ cu,Blk w2 b 21 cu∧cu.size=c)→w2.cell? ⟨W.heap.size,0,none⟩=some (.int .i32 r)→∀ ty dc,(Builtin.copy_ #[22,22] ty #[.slice (some ⟨b,i,none⟩) (l.length + 1 - i) dc,.slice (some ⟨W.heap.size,0,none⟩) 1 1]).run Tryd.prog w2=.ok (goInt ([Value.int .i32 r] : List Value).length) (w2.setCells b i [.int .i32 r]):=by
  intro w2 hq q2 ty dc
  obtain ⟨cu,q,qs⟩:=hq
  generalize hvs : ([Value.int .i32 r] : List Value)=vs
  have hvl : vs.length=1:=by rw [← hvs];rfl
  have hv1 : ∀ v ∈ vs,v.oneCell'=true:=fun v hv => by rw [← hvs] at hv;rw [List.mem_singleton.1 hv];rfl
  have hvc : ∀ j v,vs[j]?=some v→w2.cell? ((⟨W.heap.size,0,none⟩ : Addr).add j)=some v:=fun j v hj => by
   cases j with
   | zero => rw [← hvs] at hj;simp only [List.getElem?_cons_zero,Option.some.injEq] at hj;rw [← hj];exact q2
   | succ j => rw [← hvs] at hj;simp at hj
  have hn : vs.length=Nat.min 1 (l.length + 1 - i):=by rw [hvl];exact (Nat.min_eq_left (by omega)).symm
  exact run_copy_cells w2 _ _ ty 21 b i (l.length + 1 - i) dc ⟨W.heap.size,0,none⟩ 1 1 vs Tryd.underlying22 size_i32_ hn hvc
   (fun j hj => by rw [q.cell,Array.getElem?_eq_getElem (by omega)];rfl) (fun j hj => q.frozen _) hv1
 have hHov:=Lib.hid hov
 have hHcp1:=Lib.hid hcp1
 have hHcp2:=Lib.hid hcp2
 have hHfin:=Lib.hid hfin
 have hHgw:=Lib.hid hgw
 obtain ⟨hw3,hw1,hw2,hz2,hin,hb1,htn,hb2,hb4,hb3⟩:=ins_facts i l.length c hi hroom hc63
 have mixed:=mixed_
 have hov1:=fun lb cb => hov lb cb W1 hB1 hV1
 have HB1:=Lib.hid hB1
 have hc1:=hHcp1.out W1.drew hB1.drew 3 (c - (i + 1)) (c - i)
 have HV0:=Lib.hid hV0
 have HW1:=Lib.hid hW1
 have HCS:=Lib.hid hcsz
 clear hov hcp1 hcp2 hfin hgw hwo hcs htk HO HO2 hh hcur h1c hW1 hB0 hB1 hV1 hV0 hdl hcsz
 go_enter Tryd.func59,Tryd.ntmps59
 go_wp2_with (simp only [hov1])
 go_region_law_o (fail)
 have hB2 : ∃ cu,Blk (W1.drew.setCells b (i + 1) ((nums .i32 l).drop i)) b 21 cu∧cu.size=c:=by
  obtain ⟨cu,k1,k2,_⟩:=setCells_blk b 21 ((nums .i32 l).drop i) (i + 1) W1.drew cur HB1.out.drew
  exact ⟨cu,k1,k2.trans HCS.out⟩
 have hV2 : (W1.drew.setCells b (i + 1) ((nums .i32 l).drop i)).cell? ⟨W.heap.size,0,none⟩=some (.int .i32 r):=by
  rw [World.cell?_setCells_out b _ _ _ _ (fun h _ => absurd h hne)]
  exact HV0.out
 have HB2:=Lib.hid hB2
 have HV2:=Lib.hid hV2
 have hF:=hHfin.out W1.drew HB1.out.drew HV0.out (hHgw.out _ ⟨rfl,rfl,rfl,Nat.le_refl _,fun _ _ _ => rfl⟩)
 have HF:=Lib.hid hF
 clear hB2 hV2 hF
 have hc2:=hHcp2.out _ HB2.out HV2.out 3 (c - i)
 generalize W1.drew.setCells b (i + 1) ((nums .i32 l).drop i)=W2 at *
 go_wp2
 go_ret
 exact ⟨_,rfl,by have:=HF.out.1;rw [insL_len] at this ⊢;exact this,HF.out.2⟩
end Go.Proofs.YtmjlkifmbhaiiaaDoor
