/- Puny: a number read, its code point put in, by the program. -/
import Derived.Test.YtmjlkifmbhaiiaaDoorPunJ
set_option linter.unusedVariables false
set_option linter.unusedSimpArgs false
namespace Go.Proofs.YtmjlkifmbhaiiaaDoor
open Go.RowKit Go.Proofs.YtmjlkifmbhaiiaaDoorW.PrintWords Go.Proofs.YtmjlkifmbhaiiaaDoorW.PrintLast Go.Proofs.YtmjlkifmbhaiiaaDoorQ.Pb
def nxR (p : Bt) (bias : Int) (L : List Int) (a : Int) (l : List Int) (n i : Int) : Int × Int :=
 let r:=num p bias L a i 1 p.base
 if r.1 ≠ 0 then (r.2.1,r.1)
 else if 1114111 < n + r.2.2.1 / (l.length + 1) then (r.2.1 - 1,142)
 else if scl (n + r.2.2.1 / (l.length + 1))=false then (r.2.1 - 1,143)
 else (0,0)
def NxtSuch (p : Bt) (s : ByteArray) (bias a : Int) (l : List Int) (n i : Int) (R : Int × Int × Int × List Int) (E : Int × Int) (g : Nat) (w : World) (e : Ending) (w' : World) : Prop :=
 e=.returned (.tuple #[.int .i64 E.1,.int .i64 E.2])∧Below g w w' ∧
 (E.2=0→∃ out : Value,Blk w' g 72 (rdrA p s R.2.1 out (n + R.2.2.1 / (l.length + 1)) (R.2.2.1 % (l.length + 1) + 1) (adp p (R.2.2.1 - i) (l.length + 1) (i == 0))) ∧
  w'.ownsRow (g + 1) 21 1 out (l.length + 1) (nums .i32 (insL l (R.2.2.1 % (l.length + 1)).toNat (n + R.2.2.1 / (l.length + 1)))))
theorem num_err (p : Bt) (bias : Int) : ∀ (L : List Int) (a i w k : Int),(num p bias L a i w k).1=0 ∨ (num p bias L a i w k).1=140 ∨ (num p bias L a i w k).1=142:=by
 intro L
 induction L with
 | nil => intro a i w k;right;left;rfl
 | cons c l ih =>
  intro a i w k
  rw [num]
  repeat' split
  ·right;left;rfl
  ·right;right;rfl
  ·left;rfl
  ·right;right;rfl
  ·exact ih _ _ _ _
theorem adapted_any {p : Bt} (hp : p.Ok) (delta pts : Int) (first : Bool) (h0 : 0≤delta) (h1 : delta≤2147483647) (hpt : 1≤pts) (W : World) :
  Calls Tryd.prog 37 #[.agg (bootA p),.int .i64 delta,.int .i64 pts,.bool first] W fun e w' => e=.returned (.int .i64 (adp p delta pts first))∧Below W.heap.size W w':=by
 obtain ⟨K,hK⟩ : ∃ K : Nat,5000000000≤K:=⟨5000000000,Nat.le_refl _⟩
 exact Zt.calls K p.base p.least p.most p.skew p.damp p.bias p.first p.btw delta pts first _ W (adapted_is hp K hK delta pts first h0 h1 hpt)
theorem own_cell {w : World} {g n : Nat} {e : TypeId} {v : Value} {xs : List Value} (ho : w.ownsRow (g + 1) e 1 v n xs) (k : Nat) (u : Value) : (w.setCell ⟨g,k,none⟩ u).ownsRow (g + 1) e 1 v n xs :=
 own_setCell (p:=⟨g,k,none⟩) ho (fun h => by have:=own_base ho g h.symm;omega) u
set_option maxRecDepth 100000 in
set_option maxHeartbeats 16000000 in
theorem next_any {p : Bt} (hp : p.Ok) (s : ByteArray) (a : Int) (out : Value) (l : List Int) (n i bias : Int) (g : Nat) (w : World) (hs : s.size≤1073741824) (h0 : 0≤a) (h1 : a≤s.size) (hi0 : 0≤i) (hi1 : i≤2147483647) (hn0 : 0≤n) (hn1 : n≤1114111) (hb0 : -1073741824≤bias) (hb1 : bias≤1099511627776)
  (hl : l.length≤1073741824) (hb : Blk w g 72 (rdrA p s a out n i bias)) (ho : w.ownsRow (g + 1) 21 1 out l.length (nums .i32 l)) :
  Calls Tryd.prog 51 #[.pointer (some ⟨g,0,none⟩)] w (NxtSuch p s bias a l n i (num p bias ((bytesOf s).drop a.toNat) a i 1 p.base) (nxR p bias ((bytesOf s).drop a.toNat) a l n i) g w):=by
 have hnum:=number_any hp s a out n i bias g w hs h0 h1 hi0 hi1 hb0 hb1 hb
 have hok:=num_ok hp bias ((bytesOf s).drop a.toNat) a i 1 p.base hi0 hi1 (by omega)
 have her:=num_err p bias ((bytesOf s).drop a.toNat) a i 1 p.base
 have hdl : ((bytesOf s).drop a.toNat).length=s.size - a.toNat:=by rw [List.length_drop,bytesOf_length]
 obtain ⟨E,hE⟩ : ∃ E,nxR p bias ((bytesOf s).drop a.toNat) a l n i=E:=⟨_,rfl⟩
 rw [hE]
 unfold nxR at hE
 generalize num p bias ((bytesOf s).drop a.toNat) a i 1 p.base=R at *
 simp only at hE
 obtain ⟨A1,c1,rfl⟩:=own_slice ho
 have HN:=Lib.hid hnum
 have HE:=Lib.hid hE
 have HP:=Lib.hid hp
 have HO:=Lib.hid ho
 obtain ⟨c0,c1_,c2,c3,c4,c5,c6,c7,c8,c9,c10,c11,c12,c13⟩:=rdrCells hb
 clear hnum hE hp ho
 have hgw:=hb.lt
 rcases Decidable.em (R.1=0) with hR|hR
 ·obtain ⟨m,m1,m2,m3,m4,m5,m6⟩:=hok hR
  obtain ⟨er,a1,i1,L1⟩:=R
  simp only at hR m3 m4 m5 m6 HE
  subst hR
  have ha1 : 0≤a∧a < a1∧a1≤s.size:=by omega
  clear hok her m1 m2 m3 m4 hdl h0 h1
  have hE:=HE.out
  rw [if_neg (by simp)] at hE
  have HE2:=Lib.hid hE
  clear hE HE
  have hPT0 : 1≤(l.length : Int) + 1∧(l.length : Int) + 1≤1073741825:=by omega
  have hq2 : wrap64 (i1 - i)=i1 - i:=w64 _ (by omega) (by omega)
  have hA:=fun W => adapted_any HP.out (i1 - i) ((l.length : Int) + 1) (i == 0) (by omega) (by omega) hPT0.1 W
  rw [show Value.int IntKind.i64 (i1 - i)=Value.int IntKind.i64 (wrap64 (i1 - i)) by rw [hq2]] at hA
  have hBr:=adp_range HP.out (i1 - i) ((l.length : Int) + 1) (i == 0) (by omega) (by omega) hPT0.1
  have v1 : Value.int IntKind.i64 (wrap64 ((l.length : Int) + 1))=Value.int IntKind.i64 ((l.length : Int) + 1):=by rw [w64 _ (by omega) (by omega)]
  obtain ⟨B,hB⟩ : ∃ B,adp p (i1 - i) ((l.length : Int) + 1) (i == 0)=B:=⟨_,rfl⟩
  rw [hB] at hA hBr
  have HA:=Lib.hid hA
  have HB:=Lib.hid hB
  clear hA hB hq2
  go_enter Tryd.func51,Tryd.ntmps51
  go_upto_region 6 with (go_at_call 58;(with_reducible refine (HN.out).mono ?_);rintro e w2 ⟨a2,i2,rfl,hB2,hL2,hK2,hZ2⟩;rw [(hZ2 rfl).1,(hZ2 rfl).2] at hB2;have ho2:=own_keep HO.out (Nat.lt_succ_self g) hK2;obtain ⟨d0,d1,d2,d3,d4,d5,d6,d7,d8,d9,d10,d11,d12,d13⟩:=rdrCells hB2)
  have hst : ∀ w1 w2 : World,(Blk w1 g 72 (rdrA p s a1 (.slice A1 l.length c1) n i1 bias)∧Below g w w1∧w1.ownsRow (g + 1) 21 1 (.slice A1 l.length c1) l.length (nums .i32 l))→Below w1.heap.size w1 w2→(Blk w2 g 72 (rdrA p s a1 (.slice A1 l.length c1) n i1 bias)∧Below g w w2∧w2.ownsRow (g + 1) 21 1 (.slice A1 l.length c1) l.length (nums .i32 l)):=fun w1 w2 ⟨h1,h2,h3⟩ h => ⟨h1.after h,h2.trans (h.mono (Nat.le_of_lt h1.lt)),pw_own_below h3 h⟩
  have HS:=Lib.hid hst
  clear hst c0 c1_ c2 c3 c4 c5 c6 c7 c8 c9 c10 c11 c12 c13 d0 d1 d2 d3 d4 d5 d6 d7 d8 d9 d10 d11 d12 d13 hb HN hZ2 hK2
  clear v1
  refine start_ (n:=18) (S:=(fun w' => Blk w' g 72 (rdrA p s a1 (.slice A1 l.length c1) n i1 bias)∧Below g w w'∧w'.ownsRow (g + 1) 21 1 (.slice A1 l.length c1) l.length (nums .i32 l))) (ds:=[17]) #[false,false,false,false,false,false,false,false,false,false,false,false,false,false,false,false,false,false] (by kernel_rfl) rfl rfl ⟨hB2.drew,hL2.drew,ho2.drew⟩ (fun hHeld => ?_)
  refine pure_ (i:=0) (N:=some 27) (v:=?_) (a':=?_) #[true,false,false,false,false,false,false,false,false,false,false,false,false,false,false,false,false,false] rfl rfl (by kernel_rfl) (fun _ _ _ h => h) (Or.inl ⟨by rfl,?_⟩) ?_ ?_
  rotate_left
  ·intro w'
   go_simp
   with_reducible rfl
  rotate_left
  ·simp only [Act.put,List.setIfInBounds_toArray,List.set_cons_zero,List.set_cons_succ,i64_w,i32_w]
   rfl
  refine pure_ (i:=1) (N:=some 28) (v:=?_) (a':=?_) #[true,true,false,false,false,false,false,false,false,false,false,false,false,false,false,false,false,false] rfl rfl (by kernel_rfl) (fun _ _ _ h => h) (Or.inl ⟨by rfl,?_⟩) ?_ ?_
  rotate_left
  ·intro w'
   go_simp
   with_reducible rfl
  rotate_left
  ·simp only [Act.put,List.setIfInBounds_toArray,List.set_cons_zero,List.set_cons_succ,i64_w,i32_w]
   rfl
  refine pure_ (i:=2) (N:=some 29) (v:=?_) (a':=?_) #[true,true,true,false,false,false,false,false,false,false,false,false,false,false,false,false,false,false] rfl rfl (by kernel_rfl) (fun _ _ _ h => h) (Or.inl ⟨by rfl,?_⟩) ?_ ?_
  rotate_left
  ·intro w'
   go_simp
   with_reducible rfl
  rotate_left
  ·simp only [Act.put,List.setIfInBounds_toArray,List.set_cons_zero,List.set_cons_succ,i64_w,i32_w]
   rfl
  refine pure_ (i:=3) (N:=some 30) (v:=?_) (a':=?_) #[true,true,true,true,false,false,false,false,false,false,false,false,false,false,false,false,false,false] rfl rfl (by kernel_rfl) (fun _ _ _ h => h) (Or.inl ⟨by rfl,?_⟩) ?_ ?_
  rotate_left
  ·intro w'
   go_simp
   with_reducible rfl
  rotate_left
  ·simp only [Act.put,List.setIfInBounds_toArray,List.set_cons_zero,List.set_cons_succ,i64_w,i32_w]
   rfl
  refine pure_ (i:=5) (N:=some 32) (v:=?_) (a':=?_) #[true,true,true,true,false,true,false,false,false,false,false,false,false,false,false,false,false,false] rfl rfl (by kernel_rfl) (fun _ _ _ h => h) (Or.inl ⟨by rfl,?_⟩) ?_ ?_
  rotate_left
  ·intro w'
   go_simp
   with_reducible rfl
  rotate_left
  ·simp only [Act.put,List.setIfInBounds_toArray,List.set_cons_zero,List.set_cons_succ,i64_w,i32_w]
   rfl
  refine pure_ (i:=6) (N:=some 33) (v:=?_) (a':=?_) #[true,true,true,true,false,true,true,false,false,false,false,false,false,false,false,false,false,false] rfl rfl (by kernel_rfl) (fun _ _ _ h => h) (Or.inl ⟨by rfl,?_⟩) ?_ ?_
  rotate_left
  ·intro w'
   go_simp
   with_reducible rfl
  rotate_left
  ·simp only [Act.put,List.setIfInBounds_toArray,List.set_cons_zero,List.set_cons_succ,i64_w,i32_w]
   rfl
  refine pure_ (i:=7) (N:=some 34) (v:=?_) (a':=?_) #[true,true,true,true,false,true,true,true,false,false,false,false,false,false,false,false,false,false] rfl rfl (by kernel_rfl) (fun _ _ _ h => h) (Or.inl ⟨by rfl,?_⟩) ?_ ?_
  rotate_left
  ·intro w'
   go_simp
   with_reducible rfl
  rotate_left
  ·simp only [Act.put,List.setIfInBounds_toArray,List.set_cons_zero,List.set_cons_succ,i64_w,i32_w]
   rfl
  refine pure_ (i:=9) (N:=some 36) (v:=?_) (a':=?_) #[true,true,true,true,false,true,true,true,false,true,false,false,false,false,false,false,false,false] rfl rfl (by kernel_rfl) (fun _ _ _ h => h) (Or.inl ⟨by rfl,?_⟩) ?_ ?_
  rotate_left
  ·intro w'
   go_simp
   with_reducible rfl
  rotate_left
  ·simp only [Act.put,List.setIfInBounds_toArray,List.set_cons_zero,List.set_cons_succ,i64_w,i32_w]
   rfl
  refine pure_ (i:=11) (N:=some 38) (v:=?_) (a':=?_) #[true,true,true,true,false,true,true,true,false,true,false,true,false,false,false,false,false,false] rfl rfl (by kernel_rfl) (fun _ _ _ h => h) (Or.inl ⟨by rfl,?_⟩) ?_ ?_
  rotate_left
  ·intro w'
   go_simp
   with_reducible rfl
  rotate_left
  ·simp only [Act.put,List.setIfInBounds_toArray,List.set_cons_zero,List.set_cons_succ,i64_w,i32_w]
   rfl
  refine pure_ (i:=12) (N:=some 39) (v:=?_) (a':=?_) #[true,true,true,true,false,true,true,true,false,true,false,true,true,false,false,false,false,false] rfl rfl (by kernel_rfl) (fun _ _ _ h => h) (Or.inl ⟨by rfl,?_⟩) ?_ ?_
  rotate_left
  ·intro w'
   go_simp
   with_reducible rfl
  rotate_left
  ·simp only [Act.put,List.setIfInBounds_toArray,List.set_cons_zero,List.set_cons_succ,i64_w,i32_w]
   rfl
  refine pure_ (i:=13) (N:=some 40) (v:=?_) (a':=?_) #[true,true,true,true,false,true,true,true,false,true,false,true,true,true,false,false,false,false] rfl rfl (by kernel_rfl) (fun _ _ _ h => h) (Or.inl ⟨by rfl,?_⟩) ?_ ?_
  rotate_left
  ·intro w'
   go_simp
   with_reducible rfl
  rotate_left
  ·simp only [Act.put,List.setIfInBounds_toArray,List.set_cons_zero,List.set_cons_succ,i64_w,i32_w]
   rfl
  refine take_ (i:=4) (N:=some 31) (v:=?_) (a':=?_) #[true,true,true,true,true,true,true,true,false,true,false,true,true,true,false,false,false,false] rfl rfl (by kernel_rfl) (fun _ _ _ h => h) (Or.inl ⟨by rfl,?_⟩) hHeld ?_ ?_
  rotate_left
  ·rintro w' ⟨s0,s1,s2⟩
   obtain ⟨c0,c1_,c2,c3,c4,c5,c6,c7,c8,c9,c10,c11,c12,c13⟩:=rdrCells s0
   go_simp
   with_reducible rfl
  rotate_left
  ·simp only [Act.put,List.setIfInBounds_toArray,List.set_cons_zero,List.set_cons_succ,i64_w,i32_w]
   rfl
  refine take_ (i:=8) (N:=some 35) (v:=?_) (a':=?_) #[true,true,true,true,true,true,true,true,true,true,false,true,true,true,false,false,false,false] rfl rfl (by kernel_rfl) (fun _ _ _ h => h) (Or.inl ⟨by rfl,?_⟩) hHeld ?_ ?_
  rotate_left
  ·rintro w' ⟨s0,s1,s2⟩
   obtain ⟨c0,c1_,c2,c3,c4,c5,c6,c7,c8,c9,c10,c11,c12,c13⟩:=rdrCells s0
   go_simp
   with_reducible rfl
  rotate_left
  ·simp only [Act.put,List.setIfInBounds_toArray,List.set_cons_zero,List.set_cons_succ,i64_w,i32_w]
   rfl
  refine pure_ (i:=10) (N:=some 37) (v:=?_) (a':=?_) #[true,true,true,true,true,true,true,true,true,true,true,true,true,true,false,false,false,false] rfl rfl (by kernel_rfl) (fun _ _ _ h => h) (Or.inl ⟨by rfl,?_⟩) ?_ ?_
  rotate_left
  ·intro w'
   go_simp
   with_reducible rfl
  rotate_left
  ·simp only [Act.put,List.setIfInBounds_toArray,List.set_cons_zero,List.set_cons_succ,i64_w,i32_w]
   rfl
  refine one_ (i:=14) (N:=some 41) #[true,true,true,true,true,true,true,true,true,true,true,true,true,true,true,false,false,false] rfl rfl (by kernel_rfl) (by decide) (fun K hK => ?_)
  refine goes_ Tryd.func37 (by kernel_rfl) rfl #[.agg (bootA p),.int .i64 (wrap64 (i1 - i)),.int .i64 ((l.length : Int) + 1),.bool (i == 0)] (by rfl) rfl rfl (by first|rfl|(simp only [List.map_toArray,List.map_cons,List.map_nil];done)|(simp only [List.map_toArray,List.map_cons,List.map_nil];rfl)) ?_
  refine (HA.out _).mono ?_
  rintro _ w3 ⟨rfl,hbc⟩
  refine ⟨_,rfl,?_⟩
  refine hK.out _ _ (HS.out _ _ hHeld hbc) (fun hHeld => ?_)
  clear hK K
  refine norm_ (a':=?_) ?_ ?_
  rotate_left
  ·show Act.put _ (some 41) _=_
   simp only [Act.put,List.setIfInBounds_toArray,List.set_cons_zero,List.set_cons_succ,i64_w,i32_w]
   rfl
  refine pure_ (i:=15) (N:=some 42) (v:=?_) (a':=?_) #[true,true,true,true,true,true,true,true,true,true,true,true,true,true,true,true,false,false] rfl rfl (by kernel_rfl) (fun _ _ _ h => h) (Or.inl ⟨by rfl,?_⟩) ?_ ?_
  rotate_left
  ·intro w'
   go_simp
   with_reducible rfl
  rotate_left
  ·simp only [Act.put,List.setIfInBounds_toArray,List.set_cons_zero,List.set_cons_succ,i64_w,i32_w]
   rfl
  refine pure_ (i:=16) (N:=some 43) (v:=?_) (a':=?_) #[true,true,true,true,true,true,true,true,true,true,true,true,true,true,true,true,true,false] rfl rfl (by kernel_rfl) (fun _ _ _ h => h) (Or.inl ⟨by rfl,?_⟩) ?_ ?_
  rotate_left
  ·intro w'
   go_simp
   with_reducible rfl
  rotate_left
  ·simp only [Act.put,List.setIfInBounds_toArray,List.set_cons_zero,List.set_cons_succ,i64_w,i32_w]
   rfl
  refine last_ (i:=17) (N:=none) #[true,true,true,true,true,true,true,true,true,true,true,true,true,true,true,true,true,true] rfl rfl (by kernel_rfl) (by decide) (fun K hK => ?_)
  refine skip_ (w1:=w3.setCell ⟨g,13,none⟩ (.int .i64 B)) (by rfl) rfl (by obtain ⟨c0,c1_,c2,c3,c4,c5,c6,c7,c8,c9,c10,c11,c12,c13⟩:=rdrCells hHeld.1;have f13:=hHeld.1.frozen 13;go_simp) ?_
  skip
  refine hK.out _ _ ?_
  clear hK K
  refine done_ (by kernel_rfl) ?_
  have hB3 : Blk (w3.setCell ⟨g,13,none⟩ (.int .i64 B)) g 72 (rdrA p s a1 (.slice A1 l.length c1) n i1 B):=hHeld.1.set_ 13 _
  have hL3 : Below g w (w3.setCell ⟨g,13,none⟩ (.int .i64 B)):=hHeld.2.1.setCell (p:=⟨g,13,none⟩) (Nat.le_refl g) _
  have ho3:=own_cell hHeld.2.2 13 (.int .i64 B)
  generalize w3.setCell ⟨g,13,none⟩ (.int .i64 B)=W3 at *
  have hq0 : 0≤i1 / ((l.length : Int) + 1):=Int.ediv_nonneg (by omega) (by omega)
  have hq1 : i1 / ((l.length : Int) + 1)≤i1:=Int.ediv_le_self _ (by omega)
  have hr0 : 0≤i1 % ((l.length : Int) + 1):=Int.emod_nonneg _ (by omega)
  have hr1 : i1 % ((l.length : Int) + 1) < (l.length : Int) + 1:=Int.emod_lt_of_pos _ (by omega)
  have v3 : Value.int IntKind.i64 (wrap64 (Int.tdiv i1 ((l.length : Int) + 1)))=Value.int IntKind.i64 (i1 / ((l.length : Int) + 1)):=by rw [tdiv_pos _ _ (by omega),w64 _ (by omega) (by omega)]
  have v4 : Value.int IntKind.i64 (wrap64 (n + i1 / ((l.length : Int) + 1)))=Value.int IntKind.i64 (n + i1 / ((l.length : Int) + 1)):=by rw [w64 _ (by omega) (by omega)]
  obtain ⟨k,hk⟩ : ∃ k : Nat,i1 % ((l.length : Int) + 1)=(k : Int):=⟨(i1 % ((l.length : Int) + 1)).toNat,by omega⟩
  rw [hk] at hr0 hr1
  have v5 : Value.int IntKind.i64 (wrap64 (Int.tmod i1 ((l.length : Int) + 1)))=Value.int IntKind.i64 (k : Int):=by rw [Int.tmod_eq_emod_of_nonneg (by omega),hk,w64 _ (by omega) (by omega)]
  have v6 : Value.int IntKind.i64 (Int.tmod i1 ((l.length : Int) + 1))=Value.int IntKind.i64 (k : Int):=by rw [Int.tmod_eq_emod_of_nonneg (by omega),hk]
  have hz : ¬ ((l.length : Int) + 1=0):=by omega
  have HK:=Lib.hid hk
  clear hHeld hk
  go_upto_region 7 with (fail)
  refine start_ (n:=14) (S:=(fun w' => Blk w' g 72 (rdrA p s a1 (.slice A1 l.length c1) n i1 B)∧Below g w w'∧w'.ownsRow (g + 1) 21 1 (.slice A1 l.length c1) l.length (nums .i32 l))) (ds:=[13]) #[false,false,false,false,false,false,false,false,false,false,false,false,false,false] (by kernel_rfl) rfl rfl ⟨hB3.drew,hL3.drew,ho3.drew⟩ (fun hHeld => ?_)
  refine pure_ (i:=0) (N:=some 44) (v:=?_) (a':=?_) #[true,false,false,false,false,false,false,false,false,false,false,false,false,false] rfl rfl (by kernel_rfl) (fun _ _ _ h => h) (Or.inl ⟨by rfl,?_⟩) ?_ ?_
  rotate_left
  ·intro w'
   go_simp
   with_reducible rfl
  rotate_left
  ·simp only [Act.put,List.setIfInBounds_toArray,List.set_cons_zero,List.set_cons_succ,i64_w,i32_w]
   rfl
  refine pure_ (i:=1) (N:=some 45) (v:=?_) (a':=?_) #[true,true,false,false,false,false,false,false,false,false,false,false,false,false] rfl rfl (by kernel_rfl) (fun _ _ _ h => h) (Or.inl ⟨by rfl,?_⟩) ?_ ?_
  rotate_left
  ·intro w'
   go_simp
   with_reducible rfl
  rotate_left
  ·simp only [Act.put,List.setIfInBounds_toArray,List.set_cons_zero,List.set_cons_succ,i64_w,i32_w]
   rfl
  refine pure_ (i:=2) (N:=some 46) (v:=?_) (a':=?_) #[true,true,true,false,false,false,false,false,false,false,false,false,false,false] rfl rfl (by kernel_rfl) (fun _ _ _ h => h) (Or.inl ⟨by rfl,?_⟩) ?_ ?_
  rotate_left
  ·intro w'
   go_simp
   with_reducible rfl
  rotate_left
  ·simp only [Act.put,List.setIfInBounds_toArray,List.set_cons_zero,List.set_cons_succ,i64_w,i32_w]
   rfl
  refine pure_ (i:=4) (N:=some 48) (v:=?_) (a':=?_) #[true,true,true,false,true,false,false,false,false,false,false,false,false,false] rfl rfl (by kernel_rfl) (fun _ _ _ h => h) (Or.inl ⟨by rfl,?_⟩) ?_ ?_
  rotate_left
  ·intro w'
   go_simp
   with_reducible rfl
  rotate_left
  ·simp only [Act.put,List.setIfInBounds_toArray,List.set_cons_zero,List.set_cons_succ,i64_w,i32_w]
   rfl
  refine pure_ (i:=5) (N:=some 49) (v:=?_) (a':=?_) #[true,true,true,false,true,true,false,false,false,false,false,false,false,false] rfl rfl (by kernel_rfl) (fun _ _ _ h => h) (Or.inl ⟨by rfl,?_⟩) ?_ ?_
  rotate_left
  ·intro w'
   go_simp
   with_reducible rfl
  rotate_left
  ·simp only [Act.put,List.setIfInBounds_toArray,List.set_cons_zero,List.set_cons_succ,i64_w,i32_w]
   rfl
  refine pure_ (i:=6) (N:=some 50) (v:=?_) (a':=?_) #[true,true,true,false,true,true,true,false,false,false,false,false,false,false] rfl rfl (by kernel_rfl) (fun _ _ _ h => h) (Or.inl ⟨by rfl,?_⟩) ?_ ?_
  rotate_left
  ·intro w'
   go_simp
   with_reducible rfl
  rotate_left
  ·simp only [Act.put,List.setIfInBounds_toArray,List.set_cons_zero,List.set_cons_succ,i64_w,i32_w]
   rfl
  refine pure_ (i:=8) (N:=some 52) (v:=?_) (a':=?_) #[true,true,true,false,true,true,true,false,true,false,false,false,false,false] rfl rfl (by kernel_rfl) (fun _ _ _ h => h) (Or.inl ⟨by rfl,?_⟩) ?_ ?_
  rotate_left
  ·intro w'
   go_simp
   with_reducible rfl
  rotate_left
  ·simp only [Act.put,List.setIfInBounds_toArray,List.set_cons_zero,List.set_cons_succ,i64_w,i32_w]
   rfl
  refine take_ (i:=3) (N:=some 47) (v:=?_) (a':=?_) #[true,true,true,true,true,true,true,false,true,false,false,false,false,false] rfl rfl (by kernel_rfl) (fun _ _ _ h => h) (Or.inl ⟨by rfl,?_⟩) hHeld ?_ ?_
  rotate_left
  ·rintro w' ⟨s0,s1,s2⟩
   obtain ⟨c0,c1_,c2,c3,c4,c5,c6,c7,c8,c9,c10,c11,c12,c13⟩:=rdrCells s0
   go_simp
   with_reducible rfl
  rotate_left
  ·simp only [Act.put,List.setIfInBounds_toArray,List.set_cons_zero,List.set_cons_succ,i64_w,i32_w]
   rfl
  refine take_ (i:=7) (N:=some 51) (v:=?_) (a':=?_) #[true,true,true,true,true,true,true,true,true,false,false,false,false,false] rfl rfl (by kernel_rfl) (fun _ _ _ h => h) (Or.inl ⟨by rfl,?_⟩) hHeld ?_ ?_
  rotate_left
  ·rintro w' ⟨s0,s1,s2⟩
   obtain ⟨c0,c1_,c2,c3,c4,c5,c6,c7,c8,c9,c10,c11,c12,c13⟩:=rdrCells s0
   go_simp
   with_reducible rfl
  rotate_left
  ·simp only [Act.put,List.setIfInBounds_toArray,List.set_cons_zero,List.set_cons_succ,i64_w,i32_w]
   rfl
  refine pure_ (i:=9) (N:=some 53) (v:=?_) (a':=?_) #[true,true,true,true,true,true,true,true,true,true,false,false,false,false] rfl rfl (by kernel_rfl) (fun _ _ _ h => h) (Or.inl ⟨by rfl,?_⟩) ?_ ?_
  rotate_left
  ·intro w'
   go_simp
   with_reducible rfl
  rotate_left
  ·simp only [Act.put,List.setIfInBounds_toArray,List.set_cons_zero,List.set_cons_succ,i64_w,i32_w]
   rfl
  refine pure_ (i:=10) (N:=some 54) (v:=?_) (a':=?_) #[true,true,true,true,true,true,true,true,true,true,true,false,false,false] rfl rfl (by kernel_rfl) (fun _ _ _ h => h) (Or.inl ⟨by rfl,?_⟩) ?_ ?_
  rotate_left
  ·intro w'
   go_simp
   with_reducible rfl
  rotate_left
  ·simp only [Act.put,List.setIfInBounds_toArray,List.set_cons_zero,List.set_cons_succ,i64_w,i32_w]
   rfl
  refine pure_ (i:=11) (N:=some 55) (v:=?_) (a':=?_) #[true,true,true,true,true,true,true,true,true,true,true,true,false,false] rfl rfl (by kernel_rfl) (fun _ _ _ h => h) (Or.inl ⟨by rfl,?_⟩) ?_ ?_
  rotate_left
  ·intro w'
   go_simp
   with_reducible rfl
  rotate_left
  ·simp only [Act.put,List.setIfInBounds_toArray,List.set_cons_zero,List.set_cons_succ,i64_w,i32_w]
   rfl
  refine pure_ (i:=12) (N:=some 56) (v:=?_) (a':=?_) #[true,true,true,true,true,true,true,true,true,true,true,true,true,false] rfl rfl (by kernel_rfl) (fun _ _ _ h => h) (Or.inl ⟨by rfl,?_⟩) ?_ ?_
  rotate_left
  ·intro w'
   go_simp
   with_reducible rfl
  rotate_left
  ·simp only [Act.put,List.setIfInBounds_toArray,List.set_cons_zero,List.set_cons_succ,i64_w,i32_w]
   rfl
  refine last_ (i:=13) (N:=none) #[true,true,true,true,true,true,true,true,true,true,true,true,true,true] rfl rfl (by kernel_rfl) (by decide) (fun K hK => ?_)
  refine skip_ (w1:=W3.drew.setCell ⟨g,11,none⟩ (.int .i64 (n + i1 / ((l.length : Int) + 1)))) (by rfl) rfl (by obtain ⟨c0,c1_,c2,c3,c4,c5,c6,c7,c8,c9,c10,c11,c12,c13⟩:=rdrCells hHeld.1;have f11:=hHeld.1.frozen 11;go_simp) ?_
  skip
  refine hK.out _ _ ?_
  clear hK K
  refine done_ (by kernel_rfl) ?_
  have hB4 : Blk (W3.drew.setCell ⟨g,11,none⟩ (.int .i64 (n + i1 / ((l.length : Int) + 1)))) g 72 (rdrA p s a1 (.slice A1 l.length c1) (n + i1 / ((l.length : Int) + 1)) i1 B):=hHeld.1.set_ 11 _
  have hL4 : Below g w (W3.drew.setCell ⟨g,11,none⟩ (.int .i64 (n + i1 / ((l.length : Int) + 1)))):=hHeld.2.1.setCell (p:=⟨g,11,none⟩) (Nat.le_refl g) _
  have ho4:=own_cell hHeld.2.2 11 (.int .i64 (n + i1 / ((l.length : Int) + 1)))
  generalize W3.drew.setCell ⟨g,11,none⟩ (.int .i64 (n + i1 / ((l.length : Int) + 1)))=W4 at *
  clear hHeld hB3 hL3 ho3 v3 v4
  obtain ⟨d0,d1,d2,d3,d4,d5,d6,d7,d8,d9,d10,d11,d12,d13⟩:=rdrCells hB4
  have f12:=hB4.frozen 12
  go_upto_region 9 with (fail)
  have hB5 : Blk (W4.setCell ⟨g,12,none⟩ (.int .i64 (k : Int))) g 72 (rdrA p s a1 (.slice A1 l.length c1) (n + i1 / ((l.length : Int) + 1)) k B):=hB4.set_ 12 _
  have hL5 : Below g w (W4.setCell ⟨g,12,none⟩ (.int .i64 (k : Int))):=hL4.setCell (p:=⟨g,12,none⟩) (Nat.le_refl g) _
  have ho5:=own_cell ho4 12 (.int .i64 (k : Int))
  generalize W4.setCell ⟨g,12,none⟩ (.int .i64 (k : Int))=W5 at *
  clear hB4 hL4 ho4 v5 v6 d0 d1 d2 d3 d4 d5 d6 d7 d8 d9 d10 d11 d12 d13 f12
  have hE2:=HE2.out
  have hm1 : wrap64 (a1 - 1)=a1 - 1:=w64 _ (by omega) (by omega)
  have hn1' : 0≤n + i1 / ((l.length : Int) + 1)∧n + i1 / ((l.length : Int) + 1)≤2148597758:=by omega
  generalize hN1e : n + i1 / ((l.length : Int) + 1)=N1 at *
  have HN1:=Lib.hid hN1e
  clear hN1e
  clear HE2 hq0 hq1 hz
  have HB5:=Lib.hid hB5
  obtain ⟨d0,d1,d2,d3,d4,d5,d6,d7,d8,d9,d10,d11,d12,d13⟩:=rdrCells hB5
  by_cases hbig : 1114111 < N1
  ·rw [if_pos hbig] at hE2
   have HE3:=Lib.hid hE2
   clear hE2
   go_wp2
   go_ret2
   refine ⟨by rw [← HE3.out];rfl,hL5,fun h => ?_⟩
   rw [← HE3.out] at h
   cases h
  rw [if_neg hbig] at hE2
  have hw32 : wrap32 N1=N1:=by unfold wrap32;omega
  have hSc:=fun W => scalar_Scalar.calls 1 N1 _ W (Scalar_is 1 (Nat.le_refl _) N1)
  have v8 : Value.int IntKind.i32 (wrap32 N1)=Value.int IntKind.i32 N1:=by rw [hw32]
  cases hsc : scl N1 with
  | false =>
   rw [hsc] at hSc
   rw [if_pos hsc] at hE2
   have HE3:=Lib.hid hE2
   have HSc:=Lib.hid hSc
   clear hE2 hw32 hsc hSc
   have HL5:=Lib.hid hL5
   go_upto_region 12 with (go_at_call 52;(with_reducible refine (HSc.out _).mono ?_);rintro e w6 ⟨rfl,hd6⟩;obtain ⟨d0',d1',d2',d3',d4',d5',d6',d7',d8',d9',d10',d11',d12',d13'⟩:=rdrCells (HB5.out.after hd6.below))
   go_wp2
   go_ret2
   refine ⟨by rw [← HE3.out];rfl,HL5.out.trans (hd6.below.mono (Nat.le_of_lt HB5.out.lt)),fun h => ?_⟩
   rw [← HE3.out] at h
   cases h
  | true =>
   rw [hsc] at hSc
   rw [if_neg (by rw [hsc];decide)] at hE2
   have HE3:=Lib.hid hE2
   have HSc:=Lib.hid hSc
   have HL5:=Lib.hid hL5
   have HO5:=Lib.hid ho5
   clear hE2 hm1 hw32 hsc hSc
   go_upto_region 13 with (go_at_call 52;(with_reducible refine (HSc.out _).mono ?_);rintro e w6 ⟨rfl,hd6⟩)
   have hB6:=HB5.out.after hd6.below
   have hL6 : Below g w w6:=HL5.out.trans (hd6.below.mono (Nat.le_of_lt HB5.out.lt))
   have ho6:=pw_own_below HO5.out hd6.below
   clear d0 d1 d2 d3 d4 d5 d6 d7 d8 d9 d10 d11 d12 d13 hB5 hL5 ho5
   have hins:=insert_any w6.drew (g + 1) (.slice A1 l.length c1) l k N1 (by omega) ho6.drew hB6.lt (by omega)
   obtain ⟨L7,hL7⟩ : ∃ L7,insL l k N1=L7:=⟨_,rfl⟩
   have hl7 : L7.length=l.length + 1:=by rw [← hL7];exact insL_len l k N1
   rw [hL7] at hins
   have HL7:=Lib.hid hL7
   have Hl7:=Lib.hid hl7
   have HI:=Lib.hid hins
   clear hL7 hl7
   have hgb : some g ≠ (Value.slice A1 l.length c1).ownBlock:=fun h => by have:=own_base ho6 g h.symm;omega
   have hbl : ∀ q,(Value.slice A1 l.length c1).ownBlock=some q→g≤q:=fun q h => by have:=own_base ho6 q h;omega
   clear hins
   refine start_ (n:=19) (S:=(fun w' => Blk w' g 72 (rdrA p s a1 (.slice A1 l.length c1) N1 k B)∧Below g w w')) (ds:=[18]) #[false,false,false,false,false,false,false,false,false,false,false,false,false,false,false,false,false,false,false] (by kernel_rfl) rfl rfl ⟨hB6.drew,hL6.drew⟩ (fun hHeld => ?_)
   refine pure_ (i:=0) (N:=some 89) (v:=?_) (a':=?_) #[true,false,false,false,false,false,false,false,false,false,false,false,false,false,false,false,false,false,false] rfl rfl (by kernel_rfl) (fun _ _ _ h => h) (Or.inl ⟨by rfl,?_⟩) ?_ ?_
   rotate_left
   ·intro w'
    go_simp
    with_reducible rfl
   rotate_left
   ·simp only [Act.put,List.setIfInBounds_toArray,List.set_cons_zero,List.set_cons_succ,i64_w,i32_w]
    rfl
   refine pure_ (i:=1) (N:=some 90) (v:=?_) (a':=?_) #[true,true,false,false,false,false,false,false,false,false,false,false,false,false,false,false,false,false,false] rfl rfl (by kernel_rfl) (fun _ _ _ h => h) (Or.inl ⟨by rfl,?_⟩) ?_ ?_
   rotate_left
   ·intro w'
    go_simp
    with_reducible rfl
   rotate_left
   ·simp only [Act.put,List.setIfInBounds_toArray,List.set_cons_zero,List.set_cons_succ,i64_w,i32_w]
    rfl
   refine pure_ (i:=2) (N:=some 91) (v:=?_) (a':=?_) #[true,true,true,false,false,false,false,false,false,false,false,false,false,false,false,false,false,false,false] rfl rfl (by kernel_rfl) (fun _ _ _ h => h) (Or.inl ⟨by rfl,?_⟩) ?_ ?_
   rotate_left
   ·intro w'
    go_simp
    with_reducible rfl
   rotate_left
   ·simp only [Act.put,List.setIfInBounds_toArray,List.set_cons_zero,List.set_cons_succ,i64_w,i32_w]
    rfl
   refine pure_ (i:=3) (N:=some 92) (v:=?_) (a':=?_) #[true,true,true,true,false,false,false,false,false,false,false,false,false,false,false,false,false,false,false] rfl rfl (by kernel_rfl) (fun _ _ _ h => h) (Or.inl ⟨by rfl,?_⟩) ?_ ?_
   rotate_left
   ·intro w'
    go_simp
    with_reducible rfl
   rotate_left
   ·simp only [Act.put,List.setIfInBounds_toArray,List.set_cons_zero,List.set_cons_succ,i64_w,i32_w]
    rfl
   refine pure_ (i:=5) (N:=some 94) (v:=?_) (a':=?_) #[true,true,true,true,false,true,false,false,false,false,false,false,false,false,false,false,false,false,false] rfl rfl (by kernel_rfl) (fun _ _ _ h => h) (Or.inl ⟨by rfl,?_⟩) ?_ ?_
   rotate_left
   ·intro w'
    go_simp
    with_reducible rfl
   rotate_left
   ·simp only [Act.put,List.setIfInBounds_toArray,List.set_cons_zero,List.set_cons_succ,i64_w,i32_w]
    rfl
   refine pure_ (i:=6) (N:=some 95) (v:=?_) (a':=?_) #[true,true,true,true,false,true,true,false,false,false,false,false,false,false,false,false,false,false,false] rfl rfl (by kernel_rfl) (fun _ _ _ h => h) (Or.inl ⟨by rfl,?_⟩) ?_ ?_
   rotate_left
   ·intro w'
    go_simp
    with_reducible rfl
   rotate_left
   ·simp only [Act.put,List.setIfInBounds_toArray,List.set_cons_zero,List.set_cons_succ,i64_w,i32_w]
    rfl
   refine pure_ (i:=7) (N:=some 96) (v:=?_) (a':=?_) #[true,true,true,true,false,true,true,true,false,false,false,false,false,false,false,false,false,false,false] rfl rfl (by kernel_rfl) (fun _ _ _ h => h) (Or.inl ⟨by rfl,?_⟩) ?_ ?_
   rotate_left
   ·intro w'
    go_simp
    with_reducible rfl
   rotate_left
   ·simp only [Act.put,List.setIfInBounds_toArray,List.set_cons_zero,List.set_cons_succ,i64_w,i32_w]
    rfl
   refine pure_ (i:=9) (N:=some 98) (v:=?_) (a':=?_) #[true,true,true,true,false,true,true,true,false,true,false,false,false,false,false,false,false,false,false] rfl rfl (by kernel_rfl) (fun _ _ _ h => h) (Or.inl ⟨by rfl,?_⟩) ?_ ?_
   rotate_left
   ·intro w'
    go_simp
    with_reducible rfl
   rotate_left
   ·simp only [Act.put,List.setIfInBounds_toArray,List.set_cons_zero,List.set_cons_succ,i64_w,i32_w]
    rfl
   refine pure_ (i:=10) (N:=some 99) (v:=?_) (a':=?_) #[true,true,true,true,false,true,true,true,false,true,true,false,false,false,false,false,false,false,false] rfl rfl (by kernel_rfl) (fun _ _ _ h => h) (Or.inl ⟨by rfl,?_⟩) ?_ ?_
   rotate_left
   ·intro w'
    go_simp
    with_reducible rfl
   rotate_left
   ·simp only [Act.put,List.setIfInBounds_toArray,List.set_cons_zero,List.set_cons_succ,i64_w,i32_w]
    rfl
   refine pure_ (i:=11) (N:=some 100) (v:=?_) (a':=?_) #[true,true,true,true,false,true,true,true,false,true,true,true,false,false,false,false,false,false,false] rfl rfl (by kernel_rfl) (fun _ _ _ h => h) (Or.inl ⟨by rfl,?_⟩) ?_ ?_
   rotate_left
   ·intro w'
    go_simp
    with_reducible rfl
   rotate_left
   ·simp only [Act.put,List.setIfInBounds_toArray,List.set_cons_zero,List.set_cons_succ,i64_w,i32_w]
    rfl
   refine take_ (i:=4) (N:=some 93) (v:=?_) (a':=?_) #[true,true,true,true,true,true,true,true,false,true,true,true,false,false,false,false,false,false,false] rfl rfl (by kernel_rfl) (fun _ _ _ h => h) (Or.inl ⟨by rfl,?_⟩) hHeld ?_ ?_
   rotate_left
   ·rintro w' ⟨s0,s1⟩
    obtain ⟨c0,c1_,c2,c3,c4,c5,c6,c7,c8,c9,c10,c11,c12,c13⟩:=rdrCells s0
    go_simp
    with_reducible rfl
   rotate_left
   ·simp only [Act.put,List.setIfInBounds_toArray,List.set_cons_zero,List.set_cons_succ,i64_w,i32_w]
    rfl
   refine take_ (i:=8) (N:=some 97) (v:=?_) (a':=?_) #[true,true,true,true,true,true,true,true,true,true,true,true,false,false,false,false,false,false,false] rfl rfl (by kernel_rfl) (fun _ _ _ h => h) (Or.inl ⟨by rfl,?_⟩) hHeld ?_ ?_
   rotate_left
   ·rintro w' ⟨s0,s1⟩
    obtain ⟨c0,c1_,c2,c3,c4,c5,c6,c7,c8,c9,c10,c11,c12,c13⟩:=rdrCells s0
    go_simp
    with_reducible rfl
   rotate_left
   ·simp only [Act.put,List.setIfInBounds_toArray,List.set_cons_zero,List.set_cons_succ,i64_w,i32_w]
    rfl
   refine take_ (i:=12) (N:=some 101) (v:=?_) (a':=?_) #[true,true,true,true,true,true,true,true,true,true,true,true,true,false,false,false,false,false,false] rfl rfl (by kernel_rfl) (fun _ _ _ h => h) (Or.inl ⟨by rfl,?_⟩) hHeld ?_ ?_
   rotate_left
   ·rintro w' ⟨s0,s1⟩
    obtain ⟨c0,c1_,c2,c3,c4,c5,c6,c7,c8,c9,c10,c11,c12,c13⟩:=rdrCells s0
    go_simp
    with_reducible rfl
   rotate_left
   ·simp only [Act.put,List.setIfInBounds_toArray,List.set_cons_zero,List.set_cons_succ,i64_w,i32_w]
    rfl
   refine pure_ (i:=13) (N:=some 102) (v:=?_) (a':=?_) #[true,true,true,true,true,true,true,true,true,true,true,true,true,true,false,false,false,false,false] rfl rfl (by kernel_rfl) (fun _ _ _ h => h) (Or.inl ⟨by rfl,?_⟩) ?_ ?_
   rotate_left
   ·intro w'
    go_simp
    with_reducible rfl
   rotate_left
   ·simp only [Act.put,List.setIfInBounds_toArray,List.set_cons_zero,List.set_cons_succ,i64_w,i32_w]
    rfl
   refine one_ (i:=14) (N:=some 103) #[true,true,true,true,true,true,true,true,true,true,true,true,true,true,true,false,false,false,false] rfl rfl (by kernel_rfl) (by decide) (fun K hK => ?_)
   refine value_ (w1:=?_) (v:=?_) (by rfl) rfl ?_ ?_
   rotate_left 2
   ·go_simp
    constructor
    ·rfl
    ·rfl
   refine hK.out _ _ (⟨hHeld.1.alloc _,hHeld.2.trans ((below_one _ _).mono (Nat.le_of_lt hHeld.1.lt))⟩) (fun hHeld => ?_)
   clear hK K
   refine norm_ (a':=?_) ?_ ?_
   rotate_left
   ·show Act.put _ (some 103) _=_
    simp only [Act.put,List.setIfInBounds_toArray,List.set_cons_zero,List.set_cons_succ,i64_w,i32_w]
    rfl
   refine one_ (i:=15) (N:=some 104) #[true,true,true,true,true,true,true,true,true,true,true,true,true,true,true,true,false,false,false] rfl rfl (by kernel_rfl) (by decide) (fun K hK => ?_)
   refine goes_ Tryd.func59 (by kernel_rfl) rfl #[.slice A1 l.length c1,.int .i64 (k : Int),.slice (some ⟨w6.drew.heap.size,0,none⟩) 1 1] (by rfl) rfl rfl (by first|rfl|(simp only [List.map_toArray,List.map_cons,List.map_nil];done)|(simp only [List.map_toArray,List.map_cons,List.map_nil];rfl)) ?_
   refine (HI.out).mono ?_
   rintro _ w7 ⟨v7,rfl,ho7,hg7⟩
   refine ⟨_,rfl,?_⟩
   obtain ⟨A7,q7,rfl⟩:=own_slice ho7
   refine hK.out _ _ (⟨hB6.drew.grown hg7 hgb,hL6.drew.grown hg7 (Nat.le_of_lt hB6.lt) hbl⟩) (fun hHeld => ?_)
   clear hK K
   refine norm_ (a':=?_) ?_ ?_
   rotate_left
   ·show Act.put _ (some 104) _=_
    simp only [Act.put,List.setIfInBounds_toArray,List.set_cons_zero,List.set_cons_succ,i64_w,i32_w]
    rfl
   refine pure_ (i:=16) (N:=some 105) (v:=?_) (a':=?_) #[true,true,true,true,true,true,true,true,true,true,true,true,true,true,true,true,true,false,false] rfl rfl (by kernel_rfl) (fun _ _ _ h => h) (Or.inl ⟨by rfl,?_⟩) ?_ ?_
   rotate_left
   ·intro w'
    go_simp
    with_reducible rfl
   rotate_left
   ·simp only [Act.put,List.setIfInBounds_toArray,List.set_cons_zero,List.set_cons_succ,i64_w,i32_w]
    rfl
   refine pure_ (i:=17) (N:=some 106) (v:=?_) (a':=?_) #[true,true,true,true,true,true,true,true,true,true,true,true,true,true,true,true,true,true,false] rfl rfl (by kernel_rfl) (fun _ _ _ h => h) (Or.inl ⟨by rfl,?_⟩) ?_ ?_
   rotate_left
   ·intro w'
    go_simp
    with_reducible rfl
   rotate_left
   ·simp only [Act.put,List.setIfInBounds_toArray,List.set_cons_zero,List.set_cons_succ,i64_w,i32_w]
    rfl
   refine last_ (i:=18) (N:=none) #[true,true,true,true,true,true,true,true,true,true,true,true,true,true,true,true,true,true,true] rfl rfl (by kernel_rfl) (by decide) (fun K hK => ?_)
   refine skip_ (w1:=w7.setCell ⟨g,10,none⟩ (.slice A7 L7.length q7)) (by rfl) rfl (by obtain ⟨c0,c1_,c2,c3,c4,c5,c6,c7,c8,c9,c10,c11,c12,c13⟩:=rdrCells hHeld.1;have f10:=hHeld.1.frozen 10;go_simp) ?_
   skip
   refine hK.out _ _ ?_
   clear hK K
   refine done_ (by kernel_rfl) ?_
   have hB8 : Blk (w7.setCell ⟨g,10,none⟩ (.slice A7 L7.length q7)) g 72 (rdrA p s a1 (.slice A7 L7.length q7) N1 k B):=hHeld.1.set_ 10 _
   have hL8 : Below g w (w7.setCell ⟨g,10,none⟩ (.slice A7 L7.length q7)):=hHeld.2.setCell (p:=⟨g,10,none⟩) (Nat.le_refl g) _
   have ho8:=own_cell ho7 10 (.slice A7 L7.length q7)
   generalize w7.setCell ⟨g,10,none⟩ (.slice A7 L7.length q7)=W8 at *
   clear hHeld hB6 hL6 ho6 HI hgb hbl
   generalize hki : (k : Int)=ki at *
   have Hki:=Lib.hid hki
   have hkr : 0≤ki∧ki≤1073741824:=by omega
   clear hki
   obtain ⟨d0,d1,d2,d3,d4,d5,d6,d7,d8,d9,d10,d11,d12,d13⟩:=rdrCells hB8
   have f12:=hB8.frozen 12
   have hk1 : wrap64 (ki + 1)=ki + 1:=w64 _ (by omega) (by omega)
   have HB8:=Lib.hid hB8
   go_upto_region 15 with (fail)
   have hB9 : Blk (W8.setCell ⟨g,12,none⟩ (.int .i64 (ki + 1))) g 72 (rdrA p s a1 (.slice A7 L7.length q7) N1 (ki + 1) B):=HB8.out.set_ 12 _
   have hL9 : Below g w (W8.setCell ⟨g,12,none⟩ (.int .i64 (ki + 1))):=hL8.setCell (p:=⟨g,12,none⟩) (Nat.le_refl g) _
   have ho9:=own_cell ho8 12 (.int .i64 (ki + 1))
   generalize W8.setCell ⟨g,12,none⟩ (.int .i64 (ki + 1))=W9 at *
   clear hB8 d0 d1 d2 d3 d4 d5 d6 d7 d8 d9 d10 d11 d12 d13 f12 hk1
   go_wp2
   go_ret2
   refine ⟨by rw [← HE3.out];rfl,hL9,fun _ => ⟨.slice A7 L7.length q7,?_,?_⟩⟩
   ·show Blk W9 g 72 (rdrA p s a1 (.slice A7 L7.length q7) (n + i1 / ((l.length : Int) + 1)) (i1 % ((l.length : Int) + 1) + 1) (adp p (i1 - i) ((l.length : Int) + 1) (i == 0)))
    rw [HK.out,HB.out,HN1.out]
    exact hB9
   ·show W9.ownsRow (g + 1) 21 1 (.slice A7 L7.length q7) (l.length + 1) (nums .i32 (insL l (i1 % ((l.length : Int) + 1)).toNat (n + i1 / ((l.length : Int) + 1))))
    rw [HK.out,HN1.out,show ki.toNat=k by have:=Hki.out;omega,HL7.out]
    have h7:=Hl7.out
    rw [← h7]
    exact ho9
 ·have Her:=Lib.hid her
  clear hok her
  go_enter Tryd.func51,Tryd.ntmps51
  go_wp2_with (go_at_call 58;(with_reducible refine (HN.out).mono ?_);rintro e w2 ⟨a2,i2,rfl,hB2,hL2,hK2,hZ2⟩)
  go_ret2
  refine ⟨?_,hL2,fun h => ?_⟩
  ·rw [← HE.out,if_pos hR]
   rfl
  ·rw [← HE.out,if_pos hR] at h
   exact absurd h hR
end Go.Proofs.YtmjlkifmbhaiiaaDoor
