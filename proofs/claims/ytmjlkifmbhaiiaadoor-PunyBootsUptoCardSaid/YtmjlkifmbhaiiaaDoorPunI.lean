/- Puny: slices.Insert, where a new row is made. -/
import Derived.Test.YtmjlkifmbhaiiaaDoorPunH
import Derived.Shelf.Spec.SlicesInsert
import Derived.Lib.AppendZerosOnto
import Derived.Laws.NewBlocks
set_option linter.unusedVariables false
set_option linter.unusedSimpArgs false
namespace Go.Proofs.YtmjlkifmbhaiiaaDoor
open Go.RowKit Go.Proofs.YtmjlkifmbhaiiaaDoorW.PrintWords Go.Proofs.YtmjlkifmbhaiiaaDoorW.PrintLast
theorem ins_facts2 (i n c G : Nat) (hi : i < n) (hc : n=c) (hG : n + 1≤G) (h63 : n≤1000000000000) : IntKind.i64.wrap ((i : Int) + 1)=(i : Int) + 1∧wrap64 ((i : Int) + 1)=(i : Int) + 1∧wrap64 ((n : Int) + 1)=(n : Int) + 1∧wrap64 ((n : Int) + 1 - i)=(n : Int) + 1 - i∧¬ ((i : Int)=(n : Int))∧i≤n∧(0 : Int)≤(i : Int) + 1∧((i : Int) + 1).toNat=i + 1∧¬ (G=i + 1)∧¬ (G=i)∧(i : Int)≤(n : Int) + 1∧(i : Int)≤(n : Int)∧¬ (c=i)∧(c : Int) < (n : Int) + 1∧(0 : Int)≤(i : Int)∧((n : Int) + 1 - i)=((n + 1 - i : Nat) : Int)∧¬ (n=i + 1∧False) :=
 ⟨by rw [IntKind.wrap_i64];omega,IntWalk.wrap64_in _ ⟨by omega,by omega⟩,IntWalk.wrap64_in _ ⟨by omega,by omega⟩,IntWalk.wrap64_in _ ⟨by omega,by omega⟩,by omega,by omega,by omega,by omega,by omega,by omega,by omega,by omega,by omega,by omega,by omega,by omega,fun h => h.2⟩
theorem zero_size (k : Nat) : (Builtin.zeroCells (Value.int .i32 0).cells k).size=k:=by simp [Builtin.zeroCells,Value.cells]
set_option maxRecDepth 100000 in
set_option maxHeartbeats 8000000 in
theorem insert_grow (W : World) (base : Nat) (b c : Nat) (l : List Int) (i : Nat) (r : Int) (hi : i < l.length) (hc : l.length=c) (hbase : base≤W.heap.size) (h63 : l.length≤1000000000000) (HO : W.ownsRow base 21 1 (.slice (some ⟨b,0,none⟩) l.length c) l.length (nums .i32 l)) :
  Calls Tryd.prog 59 #[.slice (some ⟨b,0,none⟩) l.length c,.int .i64 (i : Int),.slice (some ⟨W.heap.size,0,none⟩) 1 1] (W.alloc (.cells #[.int .i32 r] 21)) (InsSuch base (.slice (some ⟨b,0,none⟩) l.length c) (insL l i r) W):=by
 rcases HO.2 with ⟨h,_⟩|⟨g,cap,cur,hv,hb,hh,hnc,hcm,hcs,htk⟩
 ·cases h
 cases hv
 have hbw : b < W.heap.size:=(Array.getElem?_eq_some_iff.1 hh).1
 have hB0 : Blk W b 21 cur:=hh
 have hne : W.heap.size ≠ b:=by omega
 have hcur : ∀ j,j < l.length→cur[j]?=(l[j]?).map (Value.int .i32):=fun j hj => by
  have h1 : (cur.toList.take (l.length * 1))[j]?=(nums .i32 l)[j]?:=by rw [htk]
  rw [List.getElem?_take,if_pos (by omega),nums_get,Array.getElem?_toList] at h1
  exact h1
 obtain ⟨W1,hW1⟩ : ∃ W1,W1=W.alloc (.cells #[.int .i32 r] 21):=⟨_,rfl⟩
 have hB1 : Blk W1 b 21 cur:=hW1 ▸ hB0.alloc _
 have hV1 : Blk W1 W.heap.size 21 #[.int .i32 r]:=hW1 ▸ Blk.new _ _ _
 have hgr1 : W.grownBy W1 (some b):=hW1 ▸ World.grownBy_alloc W _ _
 have hs1 : W1.heap.size=W.heap.size + 1:=by rw [hW1];simp
 rw [← hW1]
 obtain ⟨i0,hi0,hz0,hzs,hzb⟩:=info_parts info_i32_
 have hold : (Builtin.firstCells i0.size i (.slice (some ⟨b,0,none⟩) i c)).run Tryd.prog W1.drew=.ok ((nums .i32 l).take i).toArray W1.drew:=by
  rw [hzs]
  exact run_firstCells_some W1.drew 1 i ⟨b,0,none⟩ i c ((nums .i32 l).take i) (by rw [List.length_take,nums_length];omega) (fun j v hj => by
   rw [List.getElem?_take,nums_get] at hj
   rw [Addr.add_lit,Nat.zero_add]
   split at hj
   ·rw [← hj,← hcur j (by omega)];exact hB1.drew.cell j
   ·cases hj)
 obtain ⟨G,hG⟩ : ∃ G,G=grownCap W1 (l.length + 1) c 21:=⟨_,rfl⟩
 have hGn : l.length + 1≤G:=by rw [hG];exact grownCap_ge W1 _ _ _
 have hG63 : G≤maxLen:=by rw [hG];exact grownCap_le_maxLen W1 _ _ _ (by unfold maxLen;omega)
 have hik : i + (l.length + 1 - i)=l.length + 1:=by omega
 obtain ⟨ROW,hROW⟩ : ∃ ROW : Array Value,ROW=((nums .i32 l).take i).toArray++Builtin.zeroCells (Value.int .i32 0).cells (l.length + 1 - i)++Builtin.zeroCells (Value.int .i32 0).cells (G - (l.length + 1)):=⟨_,rfl⟩
 have hRs : ROW.size=G:=by
  rw [hROW,Array.size_append,Array.size_append,zero_size,zero_size,List.size_toArray,List.length_take,nums_length]
  omega
 have hRg : ∀ j,j < i→ROW[j]?=(l[j]?).map (Value.int .i32):=fun j hj => by
  have hl : ((nums .i32 l).take i).toArray.size=i:=by rw [List.size_toArray,List.length_take,nums_length];omega
  rw [hROW,Array.getElem?_append_left (by rw [Array.size_append];omega),Array.getElem?_append_left (by omega),List.getElem?_toArray,List.getElem?_take,if_pos hj,nums_get]
 obtain ⟨W2,hW2⟩ : ∃ W2,W2=W1.drew.alloc (.cells ROW 21):=⟨_,rfl⟩
 have happ : (Builtin.append_ #[22,3] 22 #[.slice (some ⟨b,0,none⟩) i c,.int .i64 ((l.length : Int) + 1 - i)]).run Tryd.prog W1=.ok (.slice (some ⟨W1.heap.size,0,none⟩) (l.length + 1) G) W2:=by
  have h:=Lib.run_append_grow_zeros W1 22 3 22 21 i0 _ .i64 .i64 Tryd.underlying22 Tryd.underlying3 hi0 hz0 (some ⟨b,0,none⟩) i c ((nums .i32 l).take i) hold (l.length + 1 - i) (by omega) (by omega) (by omega) (by omega) (by rw [hzb];omega) (by rw [hzb,hik];exact growslice_fits (by omega) (by omega))
  rw [hik,← hG,← hROW,← hW2] at h
  rw [show ((l.length : Int) + 1 - i)=((l.length + 1 - i : Nat) : Int) by omega]
  exact h
 have hB2 : Blk W2 b 21 cur:=hW2 ▸ hB1.drew.alloc _
 have hV2 : Blk W2 W.heap.size 21 #[.int .i32 r]:=hW2 ▸ hV1.drew.alloc _
 have hN2 : Blk W2 W1.heap.size 21 ROW:=hW2 ▸ Blk.at_new (by rfl)
 have hgr2 : W.grownBy W2 (some b):=gr_trans hgr1 (gr_trans (w1:=W1.drew) ⟨rfl,rfl,rfl,Nat.le_refl _,fun _ _ _ => rfl⟩ (hW2 ▸ World.grownBy_alloc W1.drew _ _))
 obtain ⟨H,hH⟩ : ∃ H,H=W1.heap.size:=⟨_,rfl⟩
 rw [← hH] at happ hN2
 have hHV : W.heap.size ≠ H:=by omega
 have hHb : b ≠ H:=by omega
 obtain ⟨vs,hvs⟩ : ∃ vs : List Value,vs=[.int .i32 r]:=⟨_,rfl⟩
 have hvl : vs.length=1:=by rw [hvs];rfl
 have hv1 : ∀ v ∈ vs,v.oneCell'=true:=fun v hv => by rw [hvs] at hv;rw [List.mem_singleton.1 hv];rfl
 have hvc : ∀ j v,vs[j]?=some v→W2.cell? ((⟨W.heap.size,0,none⟩ : Addr).add j)=some v:=fun j v hj => by
  cases j with
  | zero => rw [hvs] at hj;simp only [List.getElem?_cons_zero,Option.some.injEq] at hj;rw [← hj];exact hV2.cell 0
  | succ j => rw [hvs] at hj;simp at hj
 obtain ⟨W3,hW3⟩ : ∃ W3,W3=W2.setCells H i vs:=⟨_,rfl⟩
 have hcp1 : (Builtin.copy_ #[22,22] 3 #[.slice (some ⟨H,i,none⟩) (l.length + 1 - i) (G - i),.slice (some ⟨W.heap.size,0,none⟩) 1 1]).run Tryd.prog W2=.ok (goInt vs.length) W3:=by
  rw [hW3]
  have hn : vs.length=Nat.min 1 (l.length + 1 - i):=by rw [hvl];exact (Nat.min_eq_left (by omega)).symm
  exact run_copy_cells W2 _ _ 3 21 H i (l.length + 1 - i) _ ⟨W.heap.size,0,none⟩ 1 1 vs Tryd.underlying22 size_i32_ hn hvc
   (fun j hj => by rw [hN2.cell,Array.getElem?_eq_getElem (by omega)];rfl) (fun j hj => hN2.frozen _) hv1
 obtain ⟨cu3,k1,k2,k3,k4⟩:=setCells_blk H 21 vs i W2 ROW hN2
 rw [← hW3] at k1 k4
 have hB3 : Blk W3 b 21 cur:=hB2.grown k4 (by simp;omega)
 have hds : ((nums .i32 l).drop i).length=l.length - i:=by rw [List.length_drop,nums_length]
 have h1c : ∀ v ∈ (nums .i32 l).drop i,v.oneCell'=true:=fun v hv => by
  obtain ⟨x,_,rfl⟩:=List.mem_map.1 (List.mem_of_mem_drop hv)
  rfl
 obtain ⟨ds,hdd⟩ : ∃ ds : List Value,ds=(nums .i32 l).drop i:=⟨_,rfl⟩
 rw [← hdd] at hds h1c
 have hdc : ∀ j v,ds[j]?=some v→W3.drew.cell? ((⟨b,i,none⟩ : Addr).add j)=some v:=fun j v hj => by
  rw [hdd,List.getElem?_drop,nums_get] at hj
  rw [Addr.add_lit,hB3.drew.cell (i + j),hcur (i + j) (by
   rcases Nat.lt_or_ge (i + j) l.length with h|h
   ·exact h
   ·rw [List.getElem?_eq_none h] at hj;cases hj),hj]
 obtain ⟨W4,hW4⟩ : ∃ W4,W4=W3.drew.setCells H (i + 1) ds:=⟨_,rfl⟩
 have hcp2 : (Builtin.copy_ #[22,22] 3 #[.slice (some ⟨H,i + 1,none⟩) (l.length - i) (G - (i + 1)),.slice (some ⟨b,i,none⟩) (l.length - i) (c - i)]).run Tryd.prog W3.drew=.ok (goInt ds.length) W4:=by
  rw [hW4]
  have hn : ds.length=Nat.min (l.length - i) (l.length - i):=by rw [hds];exact (Nat.min_self _).symm
  exact run_copy_cells W3.drew _ _ 3 21 H (i + 1) (l.length - i) _ ⟨b,i,none⟩ (l.length - i) _ ds Tryd.underlying22 size_i32_ hn hdc
   (fun j hj => by rw [k1.drew.cell,Array.getElem?_eq_getElem (by omega)];rfl) (fun j hj => k1.drew.frozen _) h1c
 obtain ⟨cu4,m1,m2,m3,m4⟩:=setCells_blk H 21 ds (i + 1) W3.drew cu3 k1.drew
 rw [← hW4] at m1 m4
 have hfin : W4.ownsRow base 21 1 (.slice (some ⟨H,0,none⟩) (l.length + 1) G) (l.length + 1) (nums .i32 (insL l i r)):=by
  refine ⟨by rw [nums_length,insL_len,Nat.mul_one],Or.inr ⟨H,G,cu4,rfl,by omega,m1,hGn,hG63,by omega,?_⟩⟩
  apply List.ext_getElem?
  intro j
  rw [nums_get,insL_get l i r (by omega),List.getElem?_take]
  by_cases hj : j < (l.length + 1) * 1
  ·rw [if_pos hj,Array.getElem?_toList,m3 j (by omega),k3 j (by omega),hvl,hds]
   by_cases e1 : j < i
   ·rw [if_neg (by omega),if_neg (by omega),if_pos e1,hRg j e1]
   ·by_cases e2 : j=i
    ·subst e2
     rw [if_neg (by omega),if_pos (by omega),if_neg (by omega),if_pos rfl,hvs]
     simp
    ·rw [if_pos (by omega),if_neg e1,if_neg e2,hdd,List.getElem?_drop,nums_get]
     congr 2
     omega
  ·rw [if_neg hj,if_neg (by omega),if_neg (by omega),List.getElem?_eq_none (by omega)]
   rfl
 have hgfin : W.grownBy W4 (some b):=by
  have g3 : W2.grownBy W4 (some H):=gr_trans k4 ⟨m4.os,m4.tape,m4.output,m4.size,m4.block⟩
  exact ⟨g3.os.trans hgr2.os,g3.tape.trans hgr2.tape,g3.output.trans hgr2.output,Nat.le_trans hgr2.size g3.size,fun k hk hr => (g3.block k (Nat.lt_of_lt_of_le hk hgr2.size) (by simp;omega)).trans (hgr2.block k hk hr)⟩
 have HF:=Lib.hid hfin
 have HG:=Lib.hid hgfin
 have mixed:=mixed_
 clear hfin hgfin m1 m2 m3 m4 k1 k2 k3 k4 hdc hdd h1c hds hB3 hvc hv1 hvl hvs hHV hHb hN2 hV2 hB2 hgr2 hRg hRs hROW hW1 hW2 hW3 hW4 hold hi0 hz0 hzs hzb hs1 hgr1 hV1 hB1 hcur hne hB0 hbw hcs htk hh hik hG HO
 obtain ⟨f1,f2,f3,f4,f5,f6,f7,f8,f9,f10,f11,f12,f13,f14,f15,f16,f17⟩:=ins_facts2 i l.length c G hi hc hGn h63
 have v2 : Value.int IntKind.i64 (wrap64 ((i : Int) + 1))=Value.int IntKind.i64 ((i : Int) + 1):=by rw [f2]
 have v3 : Value.int IntKind.i64 (wrap64 ((l.length : Int) + 1))=Value.int IntKind.i64 ((l.length : Int) + 1):=by rw [f3]
 have v4 : Value.int IntKind.i64 (wrap64 ((l.length : Int) + 1 - i))=Value.int IntKind.i64 ((l.length : Int) + 1 - i):=by rw [f4]
 clear f16 f17 f2 f3 f4
 have g1 : i≤c:=by omega
 have g2 : i≤G:=by omega
 have g3 : i + 1≤G:=by omega
 clear hc hnc hH
 go_enter Tryd.func59,Tryd.ntmps59
 go_upto_region 10 with (at_builtin;refine Lib.wpList_append_run _ rfl _ _ _ _ rfl _ _ rfl rfl _ _ (happ) ?_)
 clear happ
 go_wp2_with (at_builtin;refine wpList_copy_runI _ rfl _ _ 22 22 rfl _ _ rfl rfl hcp1 ?_)
 go_region_law_o (fail)
 go_wp2
 go_ret
 exact ⟨_,rfl,by rw [insL_len];exact HF.out,HG.out⟩
end Go.Proofs.YtmjlkifmbhaiiaaDoor
