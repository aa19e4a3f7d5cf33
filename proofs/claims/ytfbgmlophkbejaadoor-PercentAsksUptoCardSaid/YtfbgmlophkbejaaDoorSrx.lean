/- Sorting: two elements of a row of fields change places; two ranges do. Sorting: a row's two neighbouring ranges change places. Sorting: put in order one by one, in place. Sorting: two ordered ranges merged in place, where the first one is a single element. Sorting: two ordered ranges merged in place, where the second one is a single element. Sorting: two ordered ranges merged in place. Sorting: two ordered ranges merged in place, by cutting both; all cases. Sorting: slices.SortStableFunc over fields. -/
import Derived.Test.YtfbgmlophkbejaaDoorFnx
import Derived.BigRegion
import Derived.Test.YtfbgmlophkbejaaDoorQPfax3
import Derived.Test.YtfbgmlophkbejaaDoorQPfax0
import Derived.BigQuiet
set_option linter.unusedVariables false
set_option linter.unusedSimpArgs false
namespace Go.Proofs.YtfbgmlophkbejaaDoor
open Go.RowKit Go.Proofs.YtfbgmlophkbejaaDoorW.PrintWords Go.Proofs.YtfbgmlophkbejaaDoorW.PrintLast Go.Proofs.YtfbgmlophkbejaaDoorQ.Pfa
namespace FC
def cs2 (y : S46) : List Value:=[.string y.f0,.string y.f1]
theorem RowS.cell {W : World} {B q n cap : Nat} {X : List S46} (h : RowS W B (.slice (some ⟨q,0,none⟩) n cap) X) (i : Nat) (hi : i < n) :
    W.cell? ⟨q,i * 2,none⟩=some (.string (Zq X (i : Int)).f0)∧W.cell? ⟨q,i * 2 + 1,none⟩=some (.string (Zq X (i : Int)).f1)∧W.frozen? ⟨q,i * 2,none⟩=false∧W.frozen? ⟨q,i * 2 + 1,none⟩=false:=by
  obtain ⟨h1,h2,h3⟩:=Kd.R_reads' h
  obtain ⟨ad,e,p0,p1⟩:=at_T46 h3 (i : Int) (by omega) (by omega)
  obtain rfl:=Option.some.inj e
  simp only [Int.toNat_natCast,Addr.add_lit,Nat.zero_add] at p0 p1
  obtain ⟨h0,inner,⟨hlen,hcase⟩,hr⟩:=h
  rcases hcase with ⟨e,_⟩|⟨g,cap',cur,e,hbg,hh,hnc,hcm,hcs,htake⟩
  · cases e
  injection e with e1 e2 e3
  injection e1 with e1
  injection e1 with e1
  subst e1
  exact ⟨p0,p1,blk_frozen hh _,blk_frozen hh _⟩
theorem RowS.put {W : World} {B q n cap : Nat} {X : List S46} (h : RowS W B (.slice (some ⟨q,0,none⟩) n cap) X) (i : Nat) (hi : i < n) (y : S46) :
    RowS (W.setCells q (i * 2) (cs2 y)) B (.slice (some ⟨q,0,none⟩) n cap) (X.set i y)∧W.grownBy (W.setCells q (i * 2) (cs2 y)) (some q):=by
  obtain ⟨d0,d1,_,_⟩:=h.cell i hi
  have:=Kd.R_seg (d:=k46) (okp:=fun _ => False) (x':=y) (j:=0) (seg:=cs2 y) (c:=[.string (Zq X (i : Int)).f0,.string (Zq X (i : Int)).f1]) h (i:=(i : Int)) (by omega) (by omega) rfl (fun j u hj => by
    match j,hj with
    | 0,hj => exact (Option.some.inj hj) ▸ d0
    | 1,hj => exact (Option.some.inj hj) ▸ d1) (by show 0 + 2≤2;omega) (k46_mkM _ _ _ y) (fun _ h => h.elim)
  exact this
theorem RowS.half {W : World} {B q n cap : Nat} {X : List S46} (h : RowS W B (.slice (some ⟨q,0,none⟩) n cap) X) (i : Nat) (hi : i < n) (v : Value) :
    (W.setCell ⟨q,i * 2,none⟩ v).cell? ⟨q,i * 2 + 1,none⟩=some (.string (Zq X (i : Int)).f1)∧(W.setCell ⟨q,i * 2,none⟩ v).frozen? ⟨q,i * 2 + 1,none⟩=false:=by
  obtain ⟨d0,d1,_,_⟩:=h.cell i hi
  obtain ⟨h0,inner,⟨hlen,hcase⟩,hr⟩:=h
  rcases hcase with ⟨e,_⟩|⟨g,cap',cur,e,hbg,hh,hnc,hcm,hcs,htake⟩
  · cases e
  injection e with e1 e2 e3
  injection e1 with e1
  injection e1 with e1
  subst e1
  refine ⟨?_,blk_frozen (blk_set hh (i * 2) v) _⟩
  rw [World.cell?_setCell_other _ _ _ _ (fun e => by injection e with _ e2 _;omega)]
  exact d1
theorem grown_drew {w w' : World} {row : Option Nat} (h : w.grownBy w' row) : w.grownBy w'.drew row:=⟨h.os,h.tape,h.output,h.size,h.block⟩
def swp (X : List S46) (i j : Nat) : List S46:=(X.set i (Zq X (j : Int))).set j (Zq X (i : Int))
theorem RowS.drew {W : World} {B : Nat} {v : Value} {X : List S46} (h : RowS W B v X) : RowS W.drew B v X:=Kd.Zt h
def swpK (X : List S46) (a b : Nat) : Nat→List S46
  | 0 => X
  | k + 1 => swp (swpK X a b k) (a + k) (b + k)
theorem swp_len (X : List S46) (i j : Nat) : (swp X i j).length=X.length:=by unfold swp;rw [List.length_set,List.length_set]
set_option maxRecDepth 100000 in
set_option maxHeartbeats 8000000 in
theorem swapR_any (X : List S46) (a b n : Nat) (F : Value) (q c B : Nat) (w : World) (hR : RowS w B (.slice (some ⟨q,0,none⟩) X.length c) X) (ha : a + n≤b) (hb : b + n≤X.length) (hl : X.length≤1073741824) :
    Calls Tryd.prog 128 #[.slice (some ⟨q,0,none⟩) X.length c,.int .i64 (a : Int),.int .i64 (b : Int),.int .i64 (n : Int),F] w fun e w' => e=.returned (.tuple #[])∧RowS w' B (.slice (some ⟨q,0,none⟩) X.length c) (swpK X a b n)∧w.grownBy w' (some q):=by
  have HR:=Lib.hid hR
  clear hR
  go_enter Tryd.func128,Tryd.ntmps128
  go_wp2
  go_loopw [10] (fun i wr => ∃ k : Nat,i=.int .i64 (k : Int)∧k≤n∧Hid (RowS wr B (.slice (some ⟨q,0,none⟩) X.length c) (swpK X a b k))∧Hid (w.grownBy wr (some q))) (fun i _ => n - (intOf i).toNat)
  case atStart => exact ⟨0,rfl,by omega,HR,Lib.hid (World.grownBy.refl w _)⟩
  case round =>
    clear HR
    obtain ⟨k,rfl,hk,hR,hG⟩:=hrel
    by_cases hlt : k < n
    · have hd:=hR.out
      obtain ⟨d0,d1,f0,f1⟩:=hd.cell (a + k) (by omega)
      obtain ⟨e0,e1,g0,g1⟩:=hd.cell (b + k) (by omega)
      have n1 : ¬ (a + k) * 2=(b + k) * 2:=by omega
      have n2 : ¬ (a + k) * 2 + 1=(b + k) * 2:=by omega
      have n3 : ¬ (a + k) * 2=(b + k) * 2 + 1:=by omega
      have n4 : ¬ (a + k) * 2 + 1=(b + k) * 2 + 1:=by omega
      have n5 : ¬ (b + k) * 2=(a + k) * 2 + 1:=by omega
      have n6 : ¬ a=b:=by omega
      have hda : IntKind.i64.wrap ((a : Int) + k)=((a + k : Nat) : Int):=by rw [i64_w];unfold wrap64;omega
      have hdb : IntKind.i64.wrap ((b : Int) + k)=((b + k : Nat) : Int):=by rw [i64_w];unfold wrap64;omega
      generalize hx : Zq (swpK X a b k) ((a + k : Nat) : Int)=x at *
      generalize hy : Zq (swpK X a b k) ((b + k : Nat) : Int)=y at *
      have hsw : Hid ((((swpK X a b k).set (a + k) y).set (b + k) x)=swpK X a b (k + 1)):=Lib.hid (by show _=swp _ _ _;unfold swp;rw [hx,hy])
      clear hx hy
      obtain ⟨hp1,hg1⟩:=hd.put (a + k) (by omega) y
      obtain ⟨hp2,hg2⟩:=hp1.put (b + k) (by omega) x
      have HD:=Lib.hid hd
      have HP2:=Lib.hid hp2
      have HG1:=Lib.hid hg1
      have HG2:=Lib.hid hg2
      clear hd hp1 hp2 hg1 hg2
      go_wp2_with fail
      go_big_region
      all_goals go_wp2
      exact ⟨⟨k + 1,by simp,by omega,Lib.hid (hsw.out ▸ RowS.drew HP2.out),Lib.hid (grown_drew (hG.out.trans (HG1.out.trans HG2.out)))⟩,by simp [intOf];omega⟩
    · obtain rfl : k=n:=by omega
      have hR2:=hR.out
      have hG2:=hG.out
      clear hR hG
      go_wp2
      go_end0
      exact ⟨rfl,hR2,hG2⟩
end FC
end Go.Proofs.YtfbgmlophkbejaaDoor
set_option linter.unusedVariables false
set_option linter.unusedSimpArgs false
namespace Go.Proofs.YtfbgmlophkbejaaDoor
open Go.RowKit Go.Proofs.YtfbgmlophkbejaaDoorW.PrintWords Go.Proofs.YtfbgmlophkbejaaDoorW.PrintLast Go.Proofs.YtfbgmlophkbejaaDoorQ.Pfa
namespace FC
theorem swpK_len (X : List S46) (a b : Nat) : ∀ n,(swpK X a b n).length=X.length:=by
  intro n
  induction n with
  | zero => rfl
  | succ k ih => show (swp _ _ _).length=_;rw [swp_len,ih]
theorem rd_get (X : List S46) (i : Nat) (h : i < X.length) : X[i]?=some (Zq X (i : Int)):=by rw [rd_at X i h,List.getElem?_eq_getElem h]
theorem swp_get (X : List S46) (i j : Nat) (hi : i < X.length) (hj : j < X.length) (hij : i ≠ j) (p : Nat) : (swp X i j)[p]?=if p=i then X[j]? else if p=j then X[i]? else X[p]?:=by
  unfold swp
  rw [List.getElem?_set,List.getElem?_set,List.length_set]
  by_cases h1 : p=j
  · subst h1
    rw [if_pos rfl,if_pos hj,if_neg (fun e => hij e.symm),if_pos rfl,rd_get X i hi]
  · rw [if_neg (fun e => h1 e.symm),if_neg h1]
    by_cases h2 : p=i
    · subst h2
      rw [if_pos rfl,if_pos rfl,if_pos hi,rd_get X j hj]
    · rw [if_neg (fun e => h2 e.symm),if_neg h2]
theorem swpK_get (X : List S46) (a b : Nat) : ∀ n,a + n≤b→b + n≤X.length→∀ p,(swpK X a b n)[p]?=if a≤p∧p < a + n then X[b + (p - a)]? else if b≤p∧p < b + n then X[a + (p - b)]? else X[p]?:=by
  intro n
  induction n with
  | zero =>
    intro _ _ p
    rw [if_neg (by omega),if_neg (by omega)]
    rfl
  | succ k ih =>
    intro ha hb p
    have ih:=ih (by omega) (by omega)
    have hl:=swpK_len X a b k
    show (swp _ _ _)[p]?=_
    rw [swp_get _ _ _ (by omega) (by omega) (by omega)]
    by_cases h1 : p=a + k
    · subst h1
      rw [if_pos rfl,ih,if_neg (by omega),if_neg (by omega),if_pos (by omega)]
      congr 1
      omega
    · rw [if_neg h1]
      by_cases h2 : p=b + k
      · subst h2
        rw [if_pos rfl,ih,if_neg (by omega),if_neg (by omega),if_neg (by omega),if_pos (by omega)]
        congr 1
        omega
      · rw [if_neg h2,ih]
        by_cases h3 : a≤p∧p < a + k
        · rw [if_pos h3,if_pos (show a≤p∧p < a + (k + 1) by omega)]
        · rw [if_neg h3,if_neg (show ¬ (a≤p∧p < a + (k + 1)) by omega)]
          by_cases h4 : b≤p∧p < b + k
          · rw [if_pos h4,if_pos (show b≤p∧p < b + (k + 1) by omega)]
          · rw [if_neg h4,if_neg (show ¬ (b≤p∧p < b + (k + 1)) by omega)]
theorem swpK_lists (P U M V S : List S46) (n : Nat) (hU : U.length=n) (hV : V.length=n) : swpK (P++U++M++V++S) P.length (P.length + n + M.length) n=P++V++M++U++S:=by
  refine List.ext_getElem? fun p => ?_
  rw [swpK_get _ _ _ _ (by omega) (by simp only [List.length_append];omega)]
  simp only [List.append_assoc]
  by_cases h1 : p < P.length
  · rw [if_neg (by omega),if_neg (by omega),List.getElem?_append_left h1,List.getElem?_append_left h1]
  · rw [List.getElem?_append_right (l₁:=P) (l₂:=V++(M++(U++S))) (by omega)]
    by_cases h2 : p < P.length + n
    · rw [if_pos (by omega),List.getElem?_append_right (by omega),List.getElem?_append_right (by omega),List.getElem?_append_right (by omega),List.getElem?_append_left (by omega),List.getElem?_append_left (by omega)]
      congr 1
      omega
    · rw [if_neg (by omega),List.getElem?_append_right (l₁:=V) (by omega)]
      by_cases h3 : p < P.length + n + M.length
      · rw [if_neg (by omega),List.getElem?_append_right (by omega),List.getElem?_append_right (by omega),List.getElem?_append_left (by omega),List.getElem?_append_left (by omega)]
        congr 1
        omega
      · rw [List.getElem?_append_right (l₁:=M) (l₂:=U++S) (by omega)]
        by_cases h4 : p < P.length + n + M.length + n
        · rw [if_pos (by omega),List.getElem?_append_right (by omega),List.getElem?_append_left (by omega),List.getElem?_append_left (by omega)]
          congr 1
          omega
        · rw [if_neg (by omega),List.getElem?_append_right (by omega),List.getElem?_append_right (by omega),List.getElem?_append_right (by omega),List.getElem?_append_right (by omega),List.getElem?_append_right (by omega)]
          congr 1
          omega
def RotAt (Y X : List S46) (m i j : Nat) : Prop:=∃ P U V S : List S46,X=P++U++V++S∧P++V++U++S=Y∧U.length=i∧V.length=j∧P.length + i=m∧1≤i∧1≤j
theorem RotAt.len {Y X : List S46} {m i j : Nat} (h : RotAt Y X m i j) : X.length=Y.length∧i≤m∧m + j≤X.length:=by
  obtain ⟨P,U,V,S,rfl,rfl,h3,h4,h5,h6,h7⟩:=h
  simp only [List.length_append]
  omega
theorem RotAt.more {Y X : List S46} {m i j : Nat} (h : RotAt Y X m i j) (hij : j < i) : RotAt Y (swpK X (m - i) m j) m (i - j) j:=by
  obtain ⟨P,U,V,S,rfl,rfl,h3,h4,h5,h6,h7⟩:=h
  have hU : U=U.take j++U.drop j:=(List.take_append_drop j U).symm
  have l1 : (U.take j).length=j:=by rw [List.length_take];omega
  have l2 : (U.drop j).length=i - j:=by rw [List.length_drop];omega
  refine ⟨P++V,U.drop j,U.take j,S,?_,?_,l2,l1,by rw [List.length_append];omega,by omega,h7⟩
  · have:=swpK_lists P (U.take j) (U.drop j) V S j l1 h4
    rw [show P.length + j + (U.drop j).length=m by omega,List.append_assoc P (U.take j),List.take_append_drop] at this
    rw [show m - i=P.length by omega,this]
  · conv => rhs;rw [hU]
    simp only [List.append_assoc]
theorem RotAt.less {Y X : List S46} {m i j : Nat} (h : RotAt Y X m i j) (hij : i < j) : RotAt Y (swpK X (m - i) (m + j - i) i) m i (j - i):=by
  obtain ⟨P,U,V,S,rfl,rfl,h3,h4,h5,h6,h7⟩:=h
  have l1 : (V.take (j - i)).length=j - i:=by rw [List.length_take];omega
  have l2 : (V.drop (j - i)).length=i:=by rw [List.length_drop];omega
  have hV : V=V.take (j - i)++V.drop (j - i):=(List.take_append_drop _ V).symm
  refine ⟨P,V.drop (j - i),V.take (j - i),U++S,?_,?_,l2,l1,h5,h6,by omega⟩
  · have:=swpK_lists P U (V.take (j - i)) (V.drop (j - i)) S i h3 l2
    rw [show P.length + i + (V.take (j - i)).length=m + j - i by omega,List.append_assoc (P++U),List.take_append_drop] at this
    rw [show m - i=P.length by omega,this]
    simp only [List.append_assoc]
  · conv => rhs;rw [hV]
    simp only [List.append_assoc]
theorem RotAt.done {Y X : List S46} {m i : Nat} (h : RotAt Y X m i i) : swpK X (m - i) m i=Y:=by
  obtain ⟨P,U,V,S,rfl,rfl,h3,h4,h5,h6,h7⟩:=h
  have:=swpK_lists P U [] V S i h3 h4
  rw [List.length_nil,Nat.add_zero,h5,List.append_nil,List.append_nil] at this
  rw [show m - i=P.length by omega,this]
set_option maxRecDepth 100000 in
set_option maxHeartbeats 8000000 in
theorem rot_any (X Y : List S46) (a m b : Nat) (F : Value) (q c B : Nat) (w : World) (hR : RowS w B (.slice (some ⟨q,0,none⟩) X.length c) X) (ha : a < m) (hb : m < b) (hX : RotAt Y X m (m - a) (b - m)) (hl : X.length≤1073741824) :
    Calls Tryd.prog 119 #[.slice (some ⟨q,0,none⟩) X.length c,.int .i64 (a : Int),.int .i64 (m : Int),.int .i64 (b : Int),F] w fun e w' => e=.returned (.tuple #[])∧RowS w' B (.slice (some ⟨q,0,none⟩) X.length c) Y∧w.grownBy w' (some q):=by
  have hlen:=hX.len
  obtain ⟨L,hL⟩ : ∃ L,X.length=L:=⟨_,rfl⟩
  rw [hL] at hR hl hlen ⊢
  replace hlen:=hlen.2
  have HR:=Lib.hid hR
  have HX:=Lib.hid hX
  have hma : IntKind.i64.wrap ((m : Int) - a)=((m - a : Nat) : Int):=by rw [i64_w];unfold wrap64;omega
  have hbm : IntKind.i64.wrap ((b : Int) - m)=((b - m : Nat) : Int):=by rw [i64_w];unfold wrap64;omega
  clear hR hX
  have HL:=Lib.hid hL
  clear hL
  go_enter Tryd.func119,Tryd.ntmps119
  go_wp2
  go_loopw [10,11] (fun u v wr => ∃ (i j : Nat) (Z : List S46),u=.int .i64 (i : Int)∧v=.int .i64 (j : Int)∧1≤i∧1≤j∧i≤m∧m + j≤L∧Hid (RotAt Y Z m i j)∧Hid (RowS wr B (.slice (some ⟨q,0,none⟩) L c) Z)∧Hid (w.grownBy wr (some q))) (fun u v _ => (intOf u).toNat + (intOf v).toNat)
  case atStart => exact ⟨m - a,b - m,X,by first|rfl|(congr 1;omega),by first|rfl|(congr 1;omega),by omega,by omega,by omega,by omega,HX,HR,Lib.hid (World.grownBy.refl w _)⟩
  case round =>
    clear HX HR
    obtain ⟨i,j,Z,rfl,rfl,hi,hj,him,hmj,hZ,hR,hG⟩:=hrel
    have hzl:=hZ.out.len.2
    have hZL : Z.length=L:=(Kd.R_reads' hR.out).1.symm
    by_cases hij : i=j
    · subst hij
      have hs:=swapR_any Z (m - i) m i F q c B wr (by rw [hZL];exact hR.out) (by omega) (by omega) (by omega)
      rw [hZ.out.done,hZL] at hs
      have Hs:=Lib.hid hs
      have hmi : IntKind.i64.wrap ((m : Int) - i)=((m - i : Nat) : Int):=by rw [i64_w];unfold wrap64;omega
      clear hs hzl hZL hZ
      go_wp2_with (go_at_call 128;go_loud ((with_reducible refine (Hs.out).mono ?_);rintro e w2 ⟨rfl,hR2,hG2⟩))
      go_end0
      exact ⟨rfl,hR2,hG.out.trans hG2⟩
    · by_cases hlt : j < i
      · have hs:=swapR_any Z (m - i) m j F q c B wr (by rw [hZL];exact hR.out) (by omega) (by omega) (by omega)
        have hn:=Lib.hid (hZ.out.more hlt)
        rw [hZL] at hs
        have Hs:=Lib.hid hs
        have hmi : IntKind.i64.wrap ((m : Int) - i)=((m - i : Nat) : Int):=by rw [i64_w];unfold wrap64;omega
        have hij2 : IntKind.i64.wrap ((i : Int) - j)=((i - j : Nat) : Int):=by rw [i64_w];unfold wrap64;omega
        have hd1 : ((i : Int) == (j : Int))=false:=beq_eq_false_iff_ne.2 (by omega)
        clear hs hzl hZL hZ
        go_wp2_with (go_at_call 128;go_loud ((with_reducible refine (Hs.out).mono ?_);rintro e w2 ⟨rfl,hR2,hG2⟩))
        exact ⟨⟨i - j,j,_,by first|rfl|(congr 1;omega),rfl,by omega,by omega,by omega,by omega,hn,Lib.hid hR2,Lib.hid (hG.out.trans hG2)⟩,by simp [intOf];omega⟩
      · have hs:=swapR_any Z (m - i) (m + j - i) i F q c B wr (by rw [hZL];exact hR.out) (by omega) (by omega) (by omega)
        have hn:=Lib.hid (hZ.out.less (by omega))
        have he : ((m + j - i : Nat) : Int)=(m : Int) + j - i:=by omega
        rw [hZL,he] at hs
        clear he
        have Hs:=Lib.hid hs
        have hmi : IntKind.i64.wrap ((m : Int) - i)=((m - i : Nat) : Int):=by rw [i64_w];unfold wrap64;omega
        have hij2 : IntKind.i64.wrap ((j : Int) - i)=((j - i : Nat) : Int):=by rw [i64_w];unfold wrap64;omega
        have hmj2 : IntKind.i64.wrap ((m : Int) + j)=((m + j : Nat) : Int):=by rw [i64_w];unfold wrap64;omega
        have hmj3 : IntKind.i64.wrap (((m + j : Nat) : Int) - i)=((m + j - i : Nat) : Int):=by rw [i64_w];unfold wrap64;omega
        have hd1 : ((i : Int) == (j : Int))=false:=beq_eq_false_iff_ne.2 (by omega)
        clear hs hzl hZL hZ
        go_wp2_with (go_at_call 128;go_loud ((with_reducible refine (Hs.out).mono ?_);rintro e w2 ⟨rfl,hR2,hG2⟩))
        exact ⟨⟨i,j - i,_,rfl,by first|rfl|(congr 1;omega),by omega,by omega,by omega,by omega,hn,Lib.hid hR2,Lib.hid (hG.out.trans hG2)⟩,by simp [intOf];omega⟩
end FC
end Go.Proofs.YtfbgmlophkbejaaDoor
set_option linter.unusedVariables false
set_option linter.unusedSimpArgs false
namespace Go.Proofs.YtfbgmlophkbejaaDoor
open Go.RowKit Go.Proofs.YtfbgmlophkbejaaDoorW.PrintWords Go.Proofs.YtfbgmlophkbejaaDoorW.PrintLast Go.Proofs.YtfbgmlophkbejaaDoorQ.Pfa
namespace FC
open Sr
theorem goesV_ {P : Program} {ops : Array Oper} {Q : Exit → Act → World → Prop} {oi : Oper} {N : Option Tmp} {a : Act} {w : World} {K : Act → World → Prop} {f : FuncId} {fn : Func} {x : Operand} {as_ : Array Operand} {ts : Array TypeId} (hf : P.funcs[f]? = some fn) (hname : (fn.name == "runtime.NumGoroutine") = false) (hb : fn.body.isSome = true) (args : Array Value)
    (hw : Region.wanted oi (yielded ops a.tmps)=true) (hN : oi.dst=N) (hop : oi.op=.call { callee:=.value x,args:=as_,argTypes:=ts }) (hx : a.eval x=.func (.func f) #[] #[]) (hargs : as_.map a.eval=args)
    (h : Calls P f args w fun e w' => ∃ v,e=.returned v∧K (a.put N v) w') : if Region.wanted oi (yielded ops a.tmps)=true then Oper.wp P oi a w K Q else K (a.put N undef) w:=by
  refine call_ f args hw hN ?_ h
  have he:=enters_ hf hname hb args w
  unfold execOp
  simp [hop,resolve,Deferred.ofValue,invoke,hx,hargs,he]
theorem exec_gtr {P : Program} {o : Oper} {a : Act} {w : World} (t t2 : TypeId) (x y : Operand) (X Y : Int) (hop : o.op=.binOp .gtr t x y t2) (hx : a.eval x=.int .i64 X) (hy : a.eval y=.int .i64 Y) (h : decide (X > Y)=true) : (execOp a.eval o).run P w=.ok (.value (.bool true)) w:=by
  have h2 : X > Y:=of_decide_eq_true h
  unfold execOp
  simp only [hop,hx,hy]
  simp [go_sem,h2]
theorem below_grow {w0 W W' : World} {q : Nat} (h : Below w0.heap.size w0 W) (hg : W.grownBy W' (some q)) (hq : w0.heap.size≤q) : Below w0.heap.size w0 W' :=
  h.trans ⟨hg.os,hg.tape,hg.output,hg.size,fun i hi => hg.block i (Nat.lt_of_lt_of_le hi h.size) (fun e => by injection e with e;omega)⟩
def CmpOk (P : S46→Prop) (lt : S46→S46→Bool) (w0 : World) : Prop:=∀ (W : World) (x y : S46),P x→P y→Below w0.heap.size w0 W→Calls Tryd.prog 56 #[valF x,valF y] W fun e w' => (∃ r : Int,e=.returned (.int .i64 r)∧(decide (r < 0)=lt x y))∧Below W.heap.size W w'
theorem swp_adj (P R : List S46) (p x : S46) : swp (P++p :: x :: R) (P.length + 1) P.length=P++x :: p :: R:=by
  refine List.ext_getElem? fun i => ?_
  rw [swp_get _ _ _ (by simp) (by simp) (by omega)]
  by_cases h1 : i=P.length + 1
  · subst h1
    rw [if_pos rfl,List.getElem?_append_right (by omega),List.getElem?_append_right (by omega)]
    simp
  · rw [if_neg h1]
    by_cases h2 : i=P.length
    · subst h2
      rw [if_pos rfl,List.getElem?_append_right (by omega),List.getElem?_append_right (by omega)]
      simp
    · rw [if_neg h2]
      by_cases h3 : i < P.length
      · rw [List.getElem?_append_left h3,List.getElem?_append_left h3]
      · rw [List.getElem?_append_right (by omega),List.getElem?_append_right (by omega)]
        obtain ⟨k,hk⟩ : ∃ k,i - P.length=k + 2:=⟨i - P.length - 2,by omega⟩
        rw [hk]
        rfl
theorem rd_at' (X P R : List S46) (x : S46) (h : X=P++x :: R) (i : Nat) (hi : i=P.length) : Zq X (i : Int)=x:=by
  subst hi h
  rw [rd_at _ _ (by simp),List.getElem_append_right (by omega)]
  simp
def InsAt (lt : S46→S46→Bool) (A M S : List S46) (i p : Nat) (X : List S46) : Prop :=
  ∃ (P Q : List S46) (x : S46) (R : List S46),M.drop i=x :: R∧P++Q=srt lt (M.take i)∧P.length=p∧(∀ q ∈ Q,lt x q=true)∧X=A++P++x :: Q++R++S
def InsOut (lt : S46→S46→Bool) (A M S : List S46) (i : Nat) (X : List S46) : Prop:=X=A++srt lt (M.take i)++M.drop i++S
variable {lt : S46→S46→Bool}
theorem InsOut.go {A M S X : List S46} {i : Nat} (h : InsOut lt A M S i X) (hi : i < M.length) : InsAt lt A M S i i X:=by
  refine ⟨srt lt (M.take i),[],M[i],M.drop (i + 1),List.drop_eq_getElem_cons hi,List.append_nil _,by rw [srt_len,List.length_take];omega,(fun q hq => (List.not_mem_nil hq).elim),?_⟩
  rw [h,List.drop_eq_getElem_cons hi]
  simp
theorem InsAt.len {A M S X : List S46} {i p : Nat} (h : InsAt lt A M S i p X) : X.length=A.length + M.length + S.length∧p≤i∧i < M.length:=by
  obtain ⟨P,Q,x,R,h1,h2,h3,h4,rfl⟩:=h
  have e1:=congrArg List.length h1
  have e2:=congrArg List.length h2
  rw [srt_len] at e2
  simp only [List.length_append,List.length_drop,List.length_take,List.length_cons] at e1 e2 ⊢
  omega
theorem take_more {M R : List S46} {i : Nat} {x : S46} (h : M.drop i=x :: R) : M.take (i + 1)=M.take i++[x]∧M.drop (i + 1)=R:=by
  have hi : i < M.length:=by
    rcases Nat.lt_or_ge i M.length with h'|h'
    · exact h'
    · rw [List.drop_eq_nil_of_le h'] at h;cases h
  rw [List.drop_eq_getElem_cons hi] at h
  injection h with h1 h2
  exact ⟨by rw [List.take_succ_eq_append_getElem hi,h1],h2⟩
theorem InsAt.front {A M S X : List S46} {i : Nat} (h : InsAt lt A M S i 0 X) : InsOut lt A M S (i + 1) X:=by
  obtain ⟨P,Q,x,R,h1,h2,h3,h4,rfl⟩:=h
  obtain rfl : P=[]:=List.eq_nil_of_length_eq_zero h3
  obtain ⟨e1,e2⟩:=take_more h1
  unfold InsOut
  rw [e1,srt_snoc,e2,← h2]
  have:=ins_split (lt:=lt) x [] Q (fun p hp => by cases hp) (fun q r hq => h4 q (by rw [hq];simp))
  rw [this]
  simp
theorem InsAt.two {A M S X : List S46} {i p : Nat} (h : InsAt lt A M S i (p + 1) X) : ∃ (P1 R1 : List S46) (y x : S46),X=P1++y :: x :: R1∧P1.length=A.length + p∧(x ∈ M∧y ∈ M) ∧
    (WO lt→lt x y=false→InsOut lt A M S (i + 1) X)∧(lt x y=true→InsAt lt A M S i p (P1++x :: y :: R1)):=by
  obtain ⟨P,Q,x,R,h1,h2,h3,h4,rfl⟩:=h
  obtain ⟨P0,y,rfl⟩ : ∃ P0 y,P=P0++[y]:=by
    rcases List.eq_nil_or_concat P with rfl|⟨P0,y,rfl⟩
    · simp at h3
    · exact ⟨P0,y,by rw [List.concat_eq_append]⟩
  refine ⟨A++P0,Q++R++S,y,x,by simp,by simp at h3 ⊢;omega,⟨List.mem_of_mem_drop (i:=i) (by rw [h1];simp),List.mem_of_mem_take ((srt_mem (lt:=lt) (M.take i) y).1 (by rw [← h2];simp))⟩,fun w hc => ?_,fun hc => ?_⟩
  · obtain ⟨e1,e2⟩:=take_more h1
    unfold InsOut
    have ho : Ord lt (P0++[y]++Q):=by rw [h2];exact srt_ord w _
    have hP:=ord_last w x P0 y (List.pairwise_append.1 ho).1 hc
    rw [e1,srt_snoc,e2,← h2,ins_split x (P0++[y]) Q hP (fun q r hq => h4 q (by rw [hq];simp))]
    simp
  · refine ⟨P0,y :: Q,x,R,h1,by rw [← h2];simp,by simp at h3;omega,fun q hq => ?_,by simp⟩
    rcases List.mem_cons.1 hq with rfl|hq
    · exact hc
    · exact h4 q hq
set_option maxRecDepth 100000 in
set_option maxHeartbeats 8000000 in
theorem insS_any {P : S46→Prop} (w : WO lt) (A M S : List S46) (a m L : Nat) (ha : A.length=a) (hm : M.length=m) (hL : a + m + S.length=L) (q c B : Nat) (w0 W0 : World) (hR : RowS W0 B (.slice (some ⟨q,0,none⟩) L c) (A++M++S)) (hB : Below w0.heap.size w0 W0) (hq : w0.heap.size≤q) (hc : CmpOk P lt w0) (hP : ∀ z ∈ M,P z) (hl : L≤1073741824) :
    Calls Tryd.prog 100 #[.slice (some ⟨q,0,none⟩) L c,.int .i64 (a : Int),.int .i64 ((a + m : Nat) : Int),.func (.func 56) #[] #[]] W0 fun e w' => e=.returned (.tuple #[])∧RowS w' B (.slice (some ⟨q,0,none⟩) L c) (A++srt lt M++S)∧Below w0.heap.size w0 w':=by
  have hst : InsOut lt A M S 1 (A++M++S):=by
    unfold InsOut
    cases M with
    | nil => simp [srt]
    | cons x r => show _=A++[x]++r++S;simp
  have Hst:=Lib.hid hst
  have HR:=Lib.hid hR
  have HB:=Lib.hid hB
  have HC:=Lib.hid hc
  have HP:=Lib.hid hP
  have HL:=Lib.hid hL
  have HA:=Lib.hid ha
  have HM:=Lib.hid hm
  have ham : a + m≤L:=by omega
  clear hst hR hB hc ha hm hL hP
  go_enter Tryd.func100,Tryd.ntmps100
  go_wp2
  go_loopw [8] (fun i wr => ∃ (k : Nat) (X : List S46),i=.int .i64 ((a + k : Nat) : Int)∧1≤k∧k≤m + 1∧Hid (InsOut lt A M S k X)∧Hid (RowS wr B (.slice (some ⟨q,0,none⟩) L c) X)∧Hid (Below w0.heap.size w0 wr)) (fun i _ => a + m + 1 - (intOf i).toNat)
  case atStart => exact ⟨1,_,by simp,by omega,by omega,Hst,HR,HB⟩
  case round =>
    clear Hst HR HB
    obtain ⟨k,X,rfl,hk1,hk2,hX,hR,hB⟩:=hrel
    by_cases hlt : k < m
    · have hc1 : ((a + k : Nat) : Int) < (a : Int) + m:=by omega
      have hd1 : decide (((a + k : Nat) : Int) < (a : Int) + m)=true:=decide_eq_true hc1
      have hst2 : Hid (InsAt lt A M S k k X):=Lib.hid (hX.out.go (by rw [HM.out];omega))
      have hwk : wrap64 (((a + k : Nat) : Int) + 1)=((a + k + 1 : Nat) : Int):=by unfold wrap64;omega
      go_wp2
      go_loopw [9] (fun u wq => ∃ (p j : Nat) (Z : List S46),u=.int .i64 (j : Int)∧Hid (j=a + p)∧p≤k∧Hid (InsAt lt A M S k p Z)∧Hid (RowS wq B (.slice (some ⟨q,0,none⟩) L c) Z)∧Hid (Below w0.heap.size w0 wq)) (fun u _ => (intOf u).toNat)
      case atStart => exact ⟨k,a + k,X,rfl,Lib.hid rfl,by omega,hst2,hR,hB⟩
      case round =>
        clear hst2 hX hR hB
        obtain ⟨p,j,Z,rfl,hj,hp,hZ,hR,hB⟩:=hrel
        cases p with
        | zero =>
          have hf:=Lib.hid hZ.out.front
          have hja : j=a:=by have:=hj.out;omega
          subst hja
          clear hZ
          go_wp2_with fail
          go_quiet (fail)
          go_wp2
          exact ⟨⟨k + 1,Z,by simp;omega,by omega,by omega,hf,Lib.hid (Kd.Zl hR.out _),Lib.hid (below_drewN hB.out _)⟩,by simp [intOf];omega⟩
        | succ p =>
          obtain ⟨P1,R1,y,x,rfl,hl1,hxm,hno,hyes⟩:=hZ.out.two
          have px:=HP.out x hxm.1
          have py:=HP.out y hxm.2
          have hRo:=hR.out
          have hjo:=hj.out
          obtain ⟨j1,hj1⟩ : ∃ j1,j1=a + p:=⟨_,rfl⟩
          rw [HA.out] at hl1
          have c1 : ∀ W,RowS W B (.slice (some ⟨q,0,none⟩) L c) (P1++y :: x :: R1)→W.cell? ⟨q,j * 2,none⟩=some (.string x.f0)∧W.cell? ⟨q,j * 2 + 1,none⟩=some (.string x.f1)∧W.frozen? ⟨q,j * 2,none⟩=false∧W.frozen? ⟨q,j * 2 + 1,none⟩=false:=fun W hW => by
            have:=hW.cell j (by omega)
            rw [rd_at' _ (P1++[y]) R1 x (by simp) _ (by simp;omega)] at this
            exact this
          have c2 : ∀ W,RowS W B (.slice (some ⟨q,0,none⟩) L c) (P1++y :: x :: R1)→W.cell? ⟨q,j1 * 2,none⟩=some (.string y.f0)∧W.cell? ⟨q,j1 * 2 + 1,none⟩=some (.string y.f1)∧W.frozen? ⟨q,j1 * 2,none⟩=false∧W.frozen? ⟨q,j1 * 2 + 1,none⟩=false:=fun W hW => by
            have:=hW.cell j1 (by omega)
            rw [rd_at' _ P1 (x :: R1) y rfl _ (by omega)] at this
            exact this
          have hd2 : decide ((j : Int) > (a : Int))=true:=decide_eq_true (by omega)
          have hjw : wrap64 ((j : Int) - 1)=(j1 : Int):=by unfold wrap64;omega
          have hjw2 : IntKind.i64.wrap ((j : Int) - 1)=(j1 : Int):=(i64_w _).trans hjw
          have hjL : j < L:=by omega
          have hj1L : j1 < L:=by omega
          have n0 : ¬ j=j1:=by omega
          have n1 : ¬ j * 2=j1 * 2:=by omega
          have n2 : ¬ j * 2 + 1=j1 * 2:=by omega
          have n3 : ¬ j * 2=j1 * 2 + 1:=by omega
          have n4 : ¬ j * 2 + 1=j1 * 2 + 1:=by omega
          have n5 : ¬ j1 * 2=j * 2 + 1:=by omega
          have HNo:=Lib.hid hno
          have HYes:=Lib.hid hyes
          have HRo:=Lib.hid hRo
          have Hl1:=Lib.hid hl1
          have Hj1:=Lib.hid hj1
          have C1:=Lib.hid c1
          have C2:=Lib.hid c2
          clear hno hyes hRo hZ hR hl1 hjo hj1 c1 c2
          go_wp2_with fail
          refine start_ (n:=17) (S:=(fun w' => RowS w' B (.slice (some ⟨q,0,none⟩) L c) (P1++y :: x :: R1)∧Below w0.heap.size w0 w')) (ds:=[]) #[false,false,false,false,false,false,false,false,false,false,false,false,false,false,false,false,false] (by kernel_rfl) rfl rfl ⟨Kd.Zt HRo.out,Zc hB.out⟩ (fun hHeld => ?_)
          refine pure_ (i:=0) (N:=some 18) (v:=?_) (a':=?_) #[true,false,false,false,false,false,false,false,false,false,false,false,false,false,false,false,false] rfl rfl (by kernel_rfl) (fun _ _ _ h => h) (Or.inl ⟨by rfl,?_⟩) ?_ ?_
          rotate_left
          · intro w'
            go_simp
            with_reducible rfl
          rotate_left
          · simp only [Act.put,List.setIfInBounds_toArray,List.set_cons_zero,List.set_cons_succ,i64_w,i32_w]
            rfl
          refine pure_ (i:=1) (N:=some 19) (v:=?_) (a':=?_) #[true,true,false,false,false,false,false,false,false,false,false,false,false,false,false,false,false] rfl rfl (by kernel_rfl) (fun _ _ _ h => h) (Or.inl ⟨by rfl,?_⟩) ?_ ?_
          rotate_left
          · intro w'
            go_simp
            with_reducible rfl
          rotate_left
          · simp only [Act.put,List.setIfInBounds_toArray,List.set_cons_zero,List.set_cons_succ,i64_w,i32_w]
            rfl
          refine take_ (i:=2) (N:=some 20) (v:=?_) (a':=?_) #[true,true,true,false,false,false,false,false,false,false,false,false,false,false,false,false,false] rfl rfl (by kernel_rfl) (fun _ _ _ h => h) (Or.inl ⟨by rfl,?_⟩) hHeld ?_ ?_
          rotate_left
          · rintro w' ⟨s1,s2⟩
            refine (exec_gtr 3 3 (.tmp 18) (.tmp 19) (j : Int) (a : Int) rfl rfl rfl hd2).trans ?_
            with_reducible rfl
          rotate_left
          · simp only [Act.put,List.setIfInBounds_toArray,List.set_cons_zero,List.set_cons_succ,i64_w,i32_w]
            rfl
          refine pure_ (i:=3) (N:=some 21) (v:=?_) (a':=?_) #[true,true,true,true,false,false,false,false,false,false,false,false,false,false,false,false,false] rfl rfl (by kernel_rfl) (fun _ _ _ h => h) (Or.inl ⟨by rfl,?_⟩) ?_ ?_
          rotate_left
          · intro w'
            go_simp
            with_reducible rfl
          rotate_left
          · simp only [Act.put,List.setIfInBounds_toArray,List.set_cons_zero,List.set_cons_succ,i64_w,i32_w]
            rfl
          refine pure_ (i:=4) (N:=some 22) (v:=?_) (a':=?_) #[true,true,true,true,true,false,false,false,false,false,false,false,false,false,false,false,false] rfl rfl (by kernel_rfl) (fun _ _ _ h => h) (Or.inl ⟨by rfl,?_⟩) ?_ ?_
          rotate_left
          · intro w'
            go_simp
            with_reducible rfl
          rotate_left
          · simp only [Act.put,List.setIfInBounds_toArray,List.set_cons_zero,List.set_cons_succ,i64_w,i32_w]
            rfl
          refine pure_ (i:=5) (N:=some 23) (v:=?_) (a':=?_) #[true,true,true,true,true,true,false,false,false,false,false,false,false,false,false,false,false] rfl rfl (by kernel_rfl) (fun _ _ _ h => h) (Or.inl ⟨by rfl,?_⟩) ?_ ?_
          rotate_left
          · intro w'
            go_simp
            with_reducible rfl
          rotate_left
          · simp only [Act.put,List.setIfInBounds_toArray,List.set_cons_zero,List.set_cons_succ,i64_w,i32_w]
            rfl
          refine pure_ (i:=6) (N:=some 24) (v:=?_) (a':=?_) #[true,true,true,true,true,true,true,false,false,false,false,false,false,false,false,false,false] rfl rfl (by kernel_rfl) (fun _ _ _ h => h) (Or.inl ⟨by rfl,?_⟩) ?_ ?_
          rotate_left
          · intro w'
            go_simp
            with_reducible rfl
          rotate_left
          · simp only [Act.put,List.setIfInBounds_toArray,List.set_cons_zero,List.set_cons_succ,i64_w,i32_w]
            rfl
          refine pure_ (i:=7) (N:=some 25) (v:=?_) (a':=?_) #[true,true,true,true,true,true,true,true,false,false,false,false,false,false,false,false,false] rfl rfl (by kernel_rfl) (fun _ _ _ h => h) (Or.inl ⟨by rfl,?_⟩) ?_ ?_
          rotate_left
          · intro w'
            go_simp
            with_reducible rfl
          rotate_left
          · simp only [Act.put,List.setIfInBounds_toArray,List.set_cons_zero,List.set_cons_succ,i64_w,i32_w]
            rfl
          refine pure_ (i:=9) (N:=some 27) (v:=?_) (a':=?_) #[true,true,true,true,true,true,true,true,false,true,false,false,false,false,false,false,false] rfl rfl (by kernel_rfl) (fun _ _ _ h => h) (Or.inl ⟨by rfl,?_⟩) ?_ ?_
          rotate_left
          · intro w'
            go_simp
            with_reducible rfl
          rotate_left
          · simp only [Act.put,List.setIfInBounds_toArray,List.set_cons_zero,List.set_cons_succ,i64_w,i32_w]
            rfl
          refine pure_ (i:=10) (N:=some 28) (v:=?_) (a':=?_) #[true,true,true,true,true,true,true,true,false,true,true,false,false,false,false,false,false] rfl rfl (by kernel_rfl) (fun _ _ _ h => h) (Or.inl ⟨by rfl,?_⟩) ?_ ?_
          rotate_left
          · intro w'
            go_simp
            with_reducible rfl
          rotate_left
          · simp only [Act.put,List.setIfInBounds_toArray,List.set_cons_zero,List.set_cons_succ,i64_w,i32_w]
            rfl
          refine pure_ (i:=11) (N:=some 29) (v:=?_) (a':=?_) #[true,true,true,true,true,true,true,true,false,true,true,true,false,false,false,false,false] rfl rfl (by kernel_rfl) (fun _ _ _ h => h) (Or.inl ⟨by rfl,?_⟩) ?_ ?_
          rotate_left
          · intro w'
            go_simp
            with_reducible rfl
          rotate_left
          · simp only [Act.put,List.setIfInBounds_toArray,List.set_cons_zero,List.set_cons_succ,i64_w,i32_w]
            rfl
          refine pure_ (i:=12) (N:=some 30) (v:=?_) (a':=?_) #[true,true,true,true,true,true,true,true,false,true,true,true,true,false,false,false,false] rfl rfl (by kernel_rfl) (fun _ _ _ h => h) (Or.inl ⟨by rfl,?_⟩) ?_ ?_
          rotate_left
          · intro w'
            go_simp
            with_reducible rfl
          rotate_left
          · simp only [Act.put,List.setIfInBounds_toArray,List.set_cons_zero,List.set_cons_succ,i64_w,i32_w]
            rfl
          refine take_ (i:=8) (N:=some 26) (v:=?_) (a':=?_) #[true,true,true,true,true,true,true,true,true,true,true,true,true,false,false,false,false] rfl rfl (by kernel_rfl) (fun _ _ _ h => h) (Or.inl ⟨by rfl,?_⟩) hHeld ?_ ?_
          rotate_left
          · rintro w' ⟨s1,s2⟩
            obtain ⟨d0,d1,-,-⟩:=C1.out _ s1
            obtain ⟨e0,e1,-,-⟩:=C2.out _ s1
            go_simp
            with_reducible rfl
          rotate_left
          · simp only [Act.put,List.setIfInBounds_toArray,List.set_cons_zero,List.set_cons_succ,i64_w,i32_w]
            rfl
          refine take_ (i:=13) (N:=some 31) (v:=?_) (a':=?_) #[true,true,true,true,true,true,true,true,true,true,true,true,true,true,false,false,false] rfl rfl (by kernel_rfl) (fun _ _ _ h => h) (Or.inl ⟨by rfl,?_⟩) hHeld ?_ ?_
          rotate_left
          · rintro w' ⟨s1,s2⟩
            obtain ⟨d0,d1,-,-⟩:=C1.out _ s1
            obtain ⟨e0,e1,-,-⟩:=C2.out _ s1
            go_simp
            with_reducible rfl
          rotate_left
          · simp only [Act.put,List.setIfInBounds_toArray,List.set_cons_zero,List.set_cons_succ,i64_w,i32_w]
            rfl
          refine one_ (i:=14) (N:=some 32) #[true,true,true,true,true,true,true,true,true,true,true,true,true,true,true,false,false] rfl rfl (by kernel_rfl) (by decide) (fun K hK => ?_)
          refine goesV_ Tryd.func56 (by kernel_rfl) rfl #[.agg #[.string x.f0,.string x.f1],.agg #[.string y.f0,.string y.f1]] (by rfl) rfl rfl rfl (by first|rfl|(simp only [List.map_toArray,List.map_cons,List.map_nil];done)|(simp only [List.map_toArray,List.map_cons,List.map_nil];rfl)) ?_
          refine (HC.out _ x y px py hHeld.2).mono ?_
          rintro _ w3 ⟨⟨r,rfl,hr⟩,hb3⟩
          refine ⟨_,rfl,?_⟩
          refine hK.out _ _ (⟨RowS.below hHeld.1 hb3,Zf hHeld.2 hb3⟩) (fun hHeld => ?_)
          clear hK K
          refine norm_ (a':=?_) ?_ ?_
          rotate_left
          · show Act.put _ (some 32) _=_
            simp only [Act.put,List.setIfInBounds_toArray,List.set_cons_zero,List.set_cons_succ,i64_w,i32_w]
            rfl
          refine pure_ (i:=15) (N:=some 33) (v:=?_) (a':=?_) #[true,true,true,true,true,true,true,true,true,true,true,true,true,true,true,true,false] rfl rfl (by kernel_rfl) (fun _ _ _ h => h) (Or.inl ⟨by rfl,?_⟩) ?_ ?_
          rotate_left
          · intro w'
            go_simp
            with_reducible rfl
          rotate_left
          · simp only [Act.put,List.setIfInBounds_toArray,List.set_cons_zero,List.set_cons_succ,i64_w,i32_w]
            rfl
          refine pure_ (i:=16) (N:=some 34) (v:=?_) (a':=?_) #[true,true,true,true,true,true,true,true,true,true,true,true,true,true,true,true,true] rfl rfl (by kernel_rfl) (fun _ _ _ h => h) (Or.inl ⟨by rfl,?_⟩) ?_ ?_
          rotate_left
          · intro w'
            go_simp
            with_reducible rfl
          rotate_left
          · simp only [Act.put,List.setIfInBounds_toArray,List.set_cons_zero,List.set_cons_succ,i64_w,i32_w]
            rfl
          refine done_ (by kernel_rfl) ?_
          have hRo:=hHeld.1
          have hBo:=hHeld.2
          obtain ⟨d0,d1,f0,f1⟩:=C1.out _ hRo
          obtain ⟨e0,e1,g0,g1⟩:=C2.out _ hRo
          cases hc : lt x y with
          | false =>
            have hr2 : decide (r < 0)=false:=hr.trans hc
            have hno2:=Lib.hid (HNo.out w hc)
            clear hr hc
            go_wp2
            exact ⟨⟨k + 1,_,by first|rfl|(congr 1;done)|(congr 1;omega),by omega,by omega,hno2,Lib.hid hRo,Lib.hid hBo⟩,by simp [intOf];omega⟩
          | true =>
            have hr2 : decide (r < 0)=true:=hr.trans hc
            have hye2:=Lib.hid (HYes.out hc)
            clear hr hc
            obtain ⟨hp1,hg1⟩:=RowS.put hRo j hjL y
            obtain ⟨hp2,hg2⟩:=hp1.put j1 hj1L x
            have hsw : ((P1++y :: x :: R1).set j y).set j1 x=P1++x :: y :: R1:=by
              have h1:=swp_adj P1 R1 y x
              have hl1:=Hl1.out
              have hj1:=Hj1.out
              have hjo:=hj.out
              unfold swp at h1
              rw [rd_at' _ (P1++[y]) R1 x (by simp) (P1.length + 1) (by simp),rd_at' _ P1 (x :: R1) y rfl P1.length rfl] at h1
              rw [show j=P1.length + 1 by omega,show j1=P1.length by omega]
              exact h1
            rw [hsw] at hp2
            have HP2:=Lib.hid (RowS.drew hp2)
            have HB2:=Lib.hid (Zc (below_grow (below_grow hBo hg1 hq) hg2 hq))
            clear hp1 hp2 hg1 hg2 hsw
            go_wp2_with fail
            go_big_region
            all_goals go_wp2
            exact ⟨⟨p,j1,_,rfl,Hj1,by omega,hye2,HP2,HB2⟩,by simp [intOf];have:=hj.out;have:=Hj1.out;omega⟩
    · have hX2:=hX.out
      have hR2:=hR.out
      have hB2:=hB.out
      have e1 : M.take k=M:=List.take_of_length_le (by rw [HM.out];omega)
      have e2 : M.drop k=[]:=List.drop_eq_nil_of_le (by rw [HM.out];omega)
      unfold InsOut at hX2
      rw [e1,e2,List.append_nil] at hX2
      rw [hX2] at hR2
      have HR2:=Lib.hid hR2
      have HB2:=Lib.hid hB2
      have hd1 : decide (((a + k : Nat) : Int) < ((a + m : Nat) : Int))=false:=decide_eq_false (by omega)
      clear hX hR hB hX2 hR2 hB2 e1 e2
      go_wp2
      go_end0
      exact ⟨rfl,HR2.out,HB2.out⟩
end FC
end Go.Proofs.YtfbgmlophkbejaaDoor
set_option linter.unusedVariables false
set_option linter.unusedSimpArgs false
namespace Go.Proofs.YtfbgmlophkbejaaDoor
open Go.RowKit Go.Proofs.YtfbgmlophkbejaaDoorW.PrintWords Go.Proofs.YtfbgmlophkbejaaDoorW.PrintLast Go.Proofs.YtfbgmlophkbejaaDoorQ.Pfa
namespace FC
open Sr
section
variable {α : Type} {lt : α→α→Bool}
theorem irr (w : WO lt) (z : α) : lt z z=false:=by
  cases hc : lt z z with
  | false => rfl
  | true => have:=w.asym _ _ hc;rw [hc] at this;cases this
theorem ord_get (w : WO lt) (R : List α) (h : Ord lt R) (i j : Nat) (hij : i ≤ j) (hj : j < R.length) : lt (R[j]) (R[i]'(by omega)) = false := by
  rcases Nat.lt_or_ge i j with h1|h1
  · exact List.pairwise_iff_getElem.1 h i j (by omega) hj h1
  · obtain rfl : i=j:=by omega
    exact irr w _
theorem mem_take_get {l : List α} {n : Nat} {x : α} (h : x ∈ l.take n) : ∃ i,∃ hi : i < l.length,i < n∧l[i]=x:=by
  obtain ⟨i,hi,e⟩:=List.mem_iff_getElem.1 h
  rw [List.length_take] at hi
  rw [List.getElem_take] at e
  exact ⟨i,by omega,by omega,e⟩
theorem mem_drop_get {l : List α} {n : Nat} {x : α} (h : x ∈ l.drop n) : ∃ i,∃ hi : i < l.length,n≤i∧l[i]=x:=by
  obtain ⟨i,hi,e⟩:=List.mem_iff_getElem.1 h
  rw [List.length_drop] at hi
  rw [List.getElem_drop] at e
  exact ⟨n + i,by omega,by omega,e⟩
theorem low_true (w : WO lt) (R : List α) (h : Ord lt R) (x : α) (p : Nat) (hp : p < R.length) (hx : lt R[p] x=true) : ∀ r ∈ R.take (p + 1),lt r x=true:=fun r hr => by
  obtain ⟨i,hi,hin,rfl⟩:=mem_take_get hr
  exact (w.neg _ R[i] _ hx).resolve_left (by rw [ord_get w R h i p (by omega) hp];simp)
theorem low_false (w : WO lt) (R : List α) (h : Ord lt R) (x : α) (p : Nat) (hp : p < R.length) (hx : lt R[p] x=false) : ∀ r ∈ R.drop p,lt r x=false:=fun r hr => by
  obtain ⟨i,hi,hin,rfl⟩:=mem_drop_get hr
  refine Bool.eq_false_iff.2 fun hc => ?_
  rcases w.neg _ R[p] _ hc with h1|h1
  · rw [ord_get w R h p i hin hi] at h1;cases h1
  · rw [hx] at h1;cases h1
theorem high_false (w : WO lt) (R : List α) (h : Ord lt R) (y : α) (p : Nat) (hp : p < R.length) (hy : lt y R[p]=false) : ∀ r ∈ R.take (p + 1),lt y r=false:=fun r hr => by
  obtain ⟨i,hi,hin,rfl⟩:=mem_take_get hr
  refine Bool.eq_false_iff.2 fun hc => ?_
  rcases w.neg _ R[p] _ hc with h1|h1
  · rw [hy] at h1;cases h1
  · rw [ord_get w R h i p (by omega) hp] at h1;cases h1
theorem high_true (w : WO lt) (R : List α) (h : Ord lt R) (y : α) (p : Nat) (hp : p < R.length) (hy : lt y R[p]=true) : ∀ r ∈ R.drop p,lt y r=true:=fun r hr => by
  obtain ⟨i,hi,hin,rfl⟩:=mem_drop_get hr
  exact (w.neg _ R[i] _ hy).resolve_right (by rw [ord_get w R h p i hin hi];simp)
theorem mrg_one (x : α) (R1 R2 : List α) (h1 : ∀ r ∈ R1,lt r x=true) (h2 : ∀ r ∈ R2,lt r x=false) : mrg lt [x] (R1++R2)=R1++x :: R2:=by
  have:=mrg_split (lt:=lt) _ [] R1 [x] R2 rfl (fun r hr l hl => by rw [List.mem_singleton.1 hl];exact h1 r hr) (fun l hl => by cases hl)
  rw [List.nil_append,mrg_nil] at this
  rw [this]
  cases R2 with
  | nil => rw [mrg_nil']
  | cons r R2 => rw [mrg_cons,if_neg (by rw [h2 r (by simp)];simp),mrg_nil]
theorem mrg_last (y : α) (L1 L2 : List α) (h1 : ∀ l ∈ L1,lt y l=false) (h2 : ∀ l ∈ L2,lt y l=true) : mrg lt (L1++L2) [y]=L1++y :: L2:=by
  have:=mrg_split (lt:=lt) _ L1 [] L2 [y] rfl (fun r hr => by cases hr) (fun l hl r hr => by rw [List.mem_singleton.1 hr];exact h1 l hl)
  rw [List.nil_append,mrg_nil'] at this
  rw [this]
  cases L2 with
  | nil => rw [mrg_nil]
  | cons l L2 => rw [mrg_cons,if_pos (h2 l (by simp)),mrg_nil']
end
theorem mid_split (P R S : List S46) (p : Nat) (h : p < R.length) : P++R++S=(P++R.take p)++R[p] :: (R.drop (p + 1)++S):=by
  have e : R=R.take p++R[p] :: R.drop (p + 1):=by rw [← List.drop_eq_getElem_cons h,List.take_append_drop]
  conv => lhs;rw [e]
  simp only [List.append_assoc,List.cons_append]
theorem swp_adj2 (P R : List S46) (x y : S46) : swp (P++x :: y :: R) P.length (P.length + 1)=P++y :: x :: R:=by
  have h:=swp_adj P R x y
  unfold swp at h ⊢
  rw [List.set_comm _ _ (by omega)]
  exact h
variable {lt : S46→S46→Bool}
set_option maxRecDepth 100000 in
set_option maxHeartbeats 8000000 in
theorem sym1_any {P : S46→Prop} (w : WO lt) (A R S : List S46) (x : S46) (a m b L : Nat) (ha : A.length=a) (hm : m=a + 1) (hb : b=m + R.length) (hL : L=b + S.length) (hO : Ord lt R) (q c B : Nat) (w0 W0 : World) (hR : RowS W0 B (.slice (some ⟨q,0,none⟩) L c) (A++x :: R++S)) (hB : Below w0.heap.size w0 W0) (hq : w0.heap.size≤q) (hc : CmpOk P lt w0) (px : P x) (hP : ∀ z ∈ R,P z) (hl : L≤1073741824) :
    Calls Tryd.prog 101 #[.slice (some ⟨q,0,none⟩) L c,.int .i64 (a : Int),.int .i64 (m : Int),.int .i64 (b : Int),.func (.func 56) #[] #[]] W0 fun e w' => e=.returned (.tuple #[])∧RowS w' B (.slice (some ⟨q,0,none⟩) L c) (A++mrg lt [x] R++S)∧Below w0.heap.size w0 w':=by
  have HR:=Lib.hid hR
  have HB:=Lib.hid hB
  have HC:=Lib.hid hc
  have HP:=Lib.hid hP
  have HL:=Lib.hid hL
  have HA:=Lib.hid ha
  have HM:=Lib.hid hm
  have HBb:=Lib.hid hb
  have hd1 : ((m : Int) - a == 1)=true:=beq_iff_eq.2 (by omega)
  have hmb : m≤b:=by omega
  have hbL : b≤L:=by omega
  have haL : a < L:=by omega
  clear hR hB hc ha hm hL hb hP
  go_enter Tryd.func101,Tryd.ntmps101
  go_wp2
  go_loopw [10,11] (fun u v wr => ∃ (i j : Nat),u=.int .i64 (i : Int)∧v=.int .i64 (j : Int)∧m≤i∧i≤j∧j≤b∧Hid ((∀ r ∈ R.take (i - m),lt r x=true)∧(∀ r ∈ R.drop (j - m),lt r x=false))∧Hid (RowS wr B (.slice (some ⟨q,0,none⟩) L c) (A++x :: R++S))∧Hid (Below w0.heap.size w0 wr)) (fun u v _ => (intOf v).toNat - (intOf u).toNat)
  case atStart => exact ⟨m,b,rfl,rfl,by omega,by omega,by omega,Lib.hid ⟨fun r hr => by rw [Nat.sub_self] at hr;simp at hr,fun r hr => by rw [List.drop_eq_nil_of_le (by have:=HBb.out;omega)] at hr;cases hr⟩,HR,HB⟩
  case round =>
    clear HR HB
    obtain ⟨i,j,rfl,rfl,hmi,hij,hjb,hS,hR,hB⟩:=hrel
    by_cases hlt : i < j
    · obtain ⟨h,hh⟩ : ∃ h : Nat,h=(i + j) / 2:=⟨_,rfl⟩
      have hh2 : ((i : Int) + j) / 2=(h : Int):=by omega
      have hih : i≤h:=by omega
      have hhj : h < j:=by omega
      have hhL : h < L:=by omega
      have hhR : h - m < R.length:=by have:=HBb.out;omega
      obtain ⟨y,hy⟩ : ∃ y,y=R[h - m]:=⟨_,rfl⟩
      have c1 : ∀ W,RowS W B (.slice (some ⟨q,0,none⟩) L c) (A++x :: R++S)→W.cell? ⟨q,h * 2,none⟩=some (.string y.f0)∧W.cell? ⟨q,h * 2 + 1,none⟩=some (.string y.f1)∧W.frozen? ⟨q,h * 2,none⟩=false∧W.frozen? ⟨q,h * 2 + 1,none⟩=false:=fun W hW => by
        have:=hW.cell h (by omega)
        rw [rd_at' _ ((A++[x])++R.take (h - m)) (R.drop (h - m + 1)++S) y (by rw [hy,← mid_split (A++[x]) R S (h - m) hhR];simp) _ (by have:=HA.out;have:=HM.out;simp only [List.length_append,List.length_singleton,List.length_take];omega)] at this
        exact this
      have c2 : ∀ W,RowS W B (.slice (some ⟨q,0,none⟩) L c) (A++x :: R++S)→W.cell? ⟨q,a * 2,none⟩=some (.string x.f0)∧W.cell? ⟨q,a * 2 + 1,none⟩=some (.string x.f1)∧W.frozen? ⟨q,a * 2,none⟩=false∧W.frozen? ⟨q,a * 2 + 1,none⟩=false:=fun W hW => by
        have:=hW.cell a (by omega)
        rw [rd_at' _ A (R++S) x (by simp) _ HA.out.symm] at this
        exact this
      have py : P y:=HP.out y (by rw [hy];exact List.getElem_mem _)
      have HY:=Lib.hid hy
      have Hh:=Lib.hid hh
      have C1:=Lib.hid c1
      have C2:=Lib.hid c2
      clear hy hh c1 c2
      go_wp2_with fail
      refine start_ (n:=11) (S:=(fun w' => RowS w' B (.slice (some ⟨q,0,none⟩) L c) (A++x :: R++S)∧Below w0.heap.size w0 w')) (ds:=[]) #[false,false,false,false,false,false,false,false,false,false,false] (by kernel_rfl) rfl rfl ⟨Kd.Zt hR.out,Zc hB.out⟩ (fun hHeld => ?_)
      refine pure_ (i:=0) (N:=some 40) (v:=?_) (a':=?_) #[true,false,false,false,false,false,false,false,false,false,false] rfl rfl (by kernel_rfl) (fun _ _ _ h => h) (Or.inl ⟨by rfl,?_⟩) ?_ ?_
      rotate_left
      · intro w'
        go_simp
        with_reducible rfl
      rotate_left
      · simp only [Act.put,List.setIfInBounds_toArray,List.set_cons_zero,List.set_cons_succ,i64_w,i32_w]
        rfl
      refine pure_ (i:=1) (N:=some 41) (v:=?_) (a':=?_) #[true,true,false,false,false,false,false,false,false,false,false] rfl rfl (by kernel_rfl) (fun _ _ _ h => h) (Or.inl ⟨by rfl,?_⟩) ?_ ?_
      rotate_left
      · intro w'
        go_simp
        with_reducible rfl
      rotate_left
      · simp only [Act.put,List.setIfInBounds_toArray,List.set_cons_zero,List.set_cons_succ,i64_w,i32_w]
        rfl
      refine pure_ (i:=2) (N:=some 42) (v:=?_) (a':=?_) #[true,true,true,false,false,false,false,false,false,false,false] rfl rfl (by kernel_rfl) (fun _ _ _ h => h) (Or.inl ⟨by rfl,?_⟩) ?_ ?_
      rotate_left
      · intro w'
        go_simp
        with_reducible rfl
      rotate_left
      · simp only [Act.put,List.setIfInBounds_toArray,List.set_cons_zero,List.set_cons_succ,i64_w,i32_w]
        rfl
      refine pure_ (i:=3) (N:=some 43) (v:=?_) (a':=?_) #[true,true,true,true,false,false,false,false,false,false,false] rfl rfl (by kernel_rfl) (fun _ _ _ h => h) (Or.inl ⟨by rfl,?_⟩) ?_ ?_
      rotate_left
      · intro w'
        go_simp
        with_reducible rfl
      rotate_left
      · simp only [Act.put,List.setIfInBounds_toArray,List.set_cons_zero,List.set_cons_succ,i64_w,i32_w]
        rfl
      refine pure_ (i:=5) (N:=some 45) (v:=?_) (a':=?_) #[true,true,true,true,false,true,false,false,false,false,false] rfl rfl (by kernel_rfl) (fun _ _ _ h => h) (Or.inl ⟨by rfl,?_⟩) ?_ ?_
      rotate_left
      · intro w'
        go_simp
        with_reducible rfl
      rotate_left
      · simp only [Act.put,List.setIfInBounds_toArray,List.set_cons_zero,List.set_cons_succ,i64_w,i32_w]
        rfl
      refine pure_ (i:=6) (N:=some 46) (v:=?_) (a':=?_) #[true,true,true,true,false,true,true,false,false,false,false] rfl rfl (by kernel_rfl) (fun _ _ _ h => h) (Or.inl ⟨by rfl,?_⟩) ?_ ?_
      rotate_left
      · intro w'
        go_simp
        with_reducible rfl
      rotate_left
      · simp only [Act.put,List.setIfInBounds_toArray,List.set_cons_zero,List.set_cons_succ,i64_w,i32_w]
        rfl
      refine pure_ (i:=7) (N:=some 47) (v:=?_) (a':=?_) #[true,true,true,true,false,true,true,true,false,false,false] rfl rfl (by kernel_rfl) (fun _ _ _ h => h) (Or.inl ⟨by rfl,?_⟩) ?_ ?_
      rotate_left
      · intro w'
        go_simp
        with_reducible rfl
      rotate_left
      · simp only [Act.put,List.setIfInBounds_toArray,List.set_cons_zero,List.set_cons_succ,i64_w,i32_w]
        rfl
      refine take_ (i:=4) (N:=some 44) (v:=?_) (a':=?_) #[true,true,true,true,true,true,true,true,false,false,false] rfl rfl (by kernel_rfl) (fun _ _ _ h => h) (Or.inl ⟨by rfl,?_⟩) hHeld ?_ ?_
      rotate_left
      · rintro w' ⟨s1,s2⟩
        obtain ⟨d0,d1,-,-⟩:=C1.out _ s1
        obtain ⟨e0,e1,-,-⟩:=C2.out _ s1
        go_simp
        with_reducible rfl
      rotate_left
      · simp only [Act.put,List.setIfInBounds_toArray,List.set_cons_zero,List.set_cons_succ,i64_w,i32_w]
        rfl
      refine take_ (i:=8) (N:=some 48) (v:=?_) (a':=?_) #[true,true,true,true,true,true,true,true,true,false,false] rfl rfl (by kernel_rfl) (fun _ _ _ h => h) (Or.inl ⟨by rfl,?_⟩) hHeld ?_ ?_
      rotate_left
      · rintro w' ⟨s1,s2⟩
        obtain ⟨d0,d1,-,-⟩:=C1.out _ s1
        obtain ⟨e0,e1,-,-⟩:=C2.out _ s1
        go_simp
        with_reducible rfl
      rotate_left
      · simp only [Act.put,List.setIfInBounds_toArray,List.set_cons_zero,List.set_cons_succ,i64_w,i32_w]
        rfl
      refine one_ (i:=9) (N:=some 49) #[true,true,true,true,true,true,true,true,true,true,false] rfl rfl (by kernel_rfl) (by decide) (fun K hK => ?_)
      refine goesV_ Tryd.func56 (by kernel_rfl) rfl #[.agg #[.string y.f0,.string y.f1],.agg #[.string x.f0,.string x.f1]] (by rfl) rfl rfl rfl (by first|rfl|(simp only [List.map_toArray,List.map_cons,List.map_nil];done)|(simp only [List.map_toArray,List.map_cons,List.map_nil];rfl)) ?_
      refine (HC.out _ y x py px hHeld.2).mono ?_
      rintro _ w3 ⟨⟨r,rfl,hr⟩,hb3⟩
      refine ⟨_,rfl,?_⟩
      refine hK.out _ _ (⟨RowS.below hHeld.1 hb3,Zf hHeld.2 hb3⟩) (fun hHeld => ?_)
      clear hK K
      refine norm_ (a':=?_) ?_ ?_
      rotate_left
      · show Act.put _ (some 49) _=_
        simp only [Act.put,List.setIfInBounds_toArray,List.set_cons_zero,List.set_cons_succ,i64_w,i32_w]
        rfl
      refine pure_ (i:=10) (N:=some 50) (v:=?_) (a':=?_) #[true,true,true,true,true,true,true,true,true,true,true] rfl rfl (by kernel_rfl) (fun _ _ _ h => h) (Or.inl ⟨by rfl,?_⟩) ?_ ?_
      rotate_left
      · intro w'
        go_simp
        with_reducible rfl
      rotate_left
      · simp only [Act.put,List.setIfInBounds_toArray,List.set_cons_zero,List.set_cons_succ,i64_w,i32_w]
        rfl
      refine done_ (by kernel_rfl) ?_
      have hRo:=Lib.hid hHeld.1
      have hBo:=Lib.hid hHeld.2
      clear hHeld
      cases hcc : lt y x with
      | true =>
        have hr2 : decide (r < 0)=true:=hr.trans hcc
        have hS2 : Hid ((∀ r ∈ R.take (h + 1 - m),lt r x=true)∧(∀ r ∈ R.drop (j - m),lt r x=false)):=Lib.hid ⟨by
          rw [show h + 1 - m=h - m + 1 by omega]
          exact low_true w R hO x (h - m) hhR (by rw [← HY.out];exact hcc),hS.out.2⟩
        clear hr hcc
        go_wp2
        exact ⟨⟨h + 1,j,by first|rfl|simp,rfl,by omega,by omega,by omega,hS2,hRo,hBo⟩,by simp [intOf];omega⟩
      | false =>
        have hr2 : decide (r < 0)=false:=hr.trans hcc
        have hS2 : Hid ((∀ r ∈ R.take (i - m),lt r x=true)∧(∀ r ∈ R.drop (h - m),lt r x=false)):=Lib.hid ⟨hS.out.1,low_false w R hO x (h - m) hhR (by rw [← HY.out];exact hcc)⟩
        clear hr hcc
        go_wp2
        exact ⟨⟨i,h,rfl,rfl,by omega,by omega,by omega,hS2,hRo,hBo⟩,by simp [intOf];omega⟩
    · obtain rfl : i=j:=by omega
      have hd2 : decide ((i : Int) < (i : Int))=false:=decide_eq_false (by omega)
      obtain ⟨i1,hi1⟩ : ∃ i1 : Nat,i=i1 + 1:=⟨i - 1,by have:=HM.out;omega⟩
      have hi1w : (i : Int) - 1=(i1 : Int):=by omega
      have hai : a≤i1:=by have:=HM.out;omega
      have hib : i1 < b:=by omega
      have hst : Hid (RowS wr B (.slice (some ⟨q,0,none⟩) L c) (A++R.take (a - a)++x :: R.drop (a - a)++S)):=Lib.hid (by rw [Nat.sub_self,List.take_zero,List.drop_zero,List.append_nil];exact hR.out)
      have Hi1:=Lib.hid hi1
      clear hi1 hR
      go_wp2
      go_loopw [13] (fun u wq => ∃ k : Nat,u=.int .i64 (k : Int)∧a≤k∧k≤i1∧Hid (RowS wq B (.slice (some ⟨q,0,none⟩) L c) (A++R.take (k - a)++x :: R.drop (k - a)++S))∧Hid (Below w0.heap.size w0 wq)) (fun u _ => i1 - (intOf u).toNat)
      case atStart => exact ⟨a,rfl,by omega,by omega,hst,hB⟩
      case round =>
        clear hst hB
        obtain ⟨k,rfl,hak,hki,hR,hB⟩:=hrel
        by_cases hkl : k < i1
        · obtain ⟨k1,hk1⟩ : ∃ k1 : Nat,k1=k + 1:=⟨_,rfl⟩
          have hk1w : (k : Int) + 1=(k1 : Int):=by omega
          have hkL : k < L:=by omega
          have hk1L : k1 < L:=by omega
          have hkR : k - a < R.length:=by have:=HBb.out;have:=HM.out;have:=Hi1.out;omega
          obtain ⟨y,hy⟩ : ∃ y,y=R[k - a]:=⟨_,rfl⟩
          have hX : A++R.take (k - a)++x :: R.drop (k - a)++S=(A++R.take (k - a))++x :: y :: (R.drop (k - a + 1)++S):=by
            rw [List.drop_eq_getElem_cons hkR,← hy]
            simp only [List.append_assoc,List.cons_append,List.nil_append]
          have hlen : (A++R.take (k - a)).length=k:=by have:=HA.out;simp only [List.length_append,List.length_take];omega
          have hRo:=hR.out
          rw [hX] at hRo
          obtain ⟨d0,d1,f0,f1⟩:=hRo.cell k hkL
          obtain ⟨e0,e1,g0,g1⟩:=hRo.cell k1 hk1L
          rw [rd_at' _ (A++R.take (k - a)) (y :: (R.drop (k - a + 1)++S)) x rfl k hlen.symm] at d0 d1
          rw [rd_at' _ (A++R.take (k - a)++[x]) (R.drop (k - a + 1)++S) y (by simp) k1 (by rw [List.length_append,hlen];exact hk1)] at e0 e1
          obtain ⟨hp1,hg1⟩:=RowS.put hRo k hkL y
          obtain ⟨hp2,hg2⟩:=hp1.put k1 hk1L x
          have hsw : (((A++R.take (k - a))++x :: y :: (R.drop (k - a + 1)++S)).set k y).set k1 x=A++R.take (k + 1 - a)++x :: R.drop (k + 1 - a)++S:=by
            have h1:=swp_adj2 (A++R.take (k - a)) (R.drop (k - a + 1)++S) x y
            unfold swp at h1
            rw [rd_at' _ (A++R.take (k - a)++[x]) (R.drop (k - a + 1)++S) y (by simp) ((A++R.take (k - a)).length + 1) (by rw [List.length_append (bs:=[x]),List.length_singleton]),rd_at' _ (A++R.take (k - a)) (y :: (R.drop (k - a + 1)++S)) x rfl _ rfl,hlen,← hk1] at h1
            rw [h1,show k + 1 - a=k - a + 1 by omega,List.take_succ_eq_append_getElem hkR,← hy]
            simp only [List.append_assoc,List.cons_append,List.nil_append]
          rw [hsw] at hp2
          have HP2:=Lib.hid (RowS.drew hp2)
          have HB2:=Lib.hid (Zc (below_grow (below_grow hB.out hg1 hq) hg2 hq))
          have n0 : ¬ k=k1:=by omega
          have n1 : ¬ k * 2=k1 * 2:=by omega
          have n2 : ¬ k * 2 + 1=k1 * 2:=by omega
          have n3 : ¬ k * 2=k1 * 2 + 1:=by omega
          have n4 : ¬ k * 2 + 1=k1 * 2 + 1:=by omega
          have n5 : ¬ k1 * 2=k * 2 + 1:=by omega
          have Hk1:=Lib.hid hk1
          clear hp1 hp2 hg1 hg2 hsw hRo hX hlen hy hR hk1
          go_wp2_with fail
          go_big_region
          all_goals go_wp2
          exact ⟨⟨k + 1,by have:=Hk1.out;congr 1;omega,by omega,by omega,HP2,HB2⟩,by have:=Hk1.out;simp [intOf];omega⟩
        · obtain rfl : k=i1:=by omega
          have hfin : A++R.take (k - a)++x :: R.drop (k - a)++S=A++mrg lt [x] R++S:=by
            have e : k - a=i - m:=by have:=Hi1.out;have:=HM.out;omega
            have h1:=mrg_one x _ _ hS.out.1 hS.out.2
            rw [List.take_append_drop] at h1
            rw [h1,e]
            simp only [List.append_assoc,List.cons_append,List.nil_append]
          have hRo:=hR.out
          rw [hfin] at hRo
          have HRo:=Lib.hid hRo
          have hd3 : decide ((k : Int) < (k : Int))=false:=decide_eq_false (by omega)
          clear hRo hfin hR
          go_wp2
          refine bodyPost_ret (results_none rfl _ _ _) rfl ?_
          exact ⟨rfl,HRo.out,hB.out⟩
end FC
end Go.Proofs.YtfbgmlophkbejaaDoor
set_option linter.unusedVariables false
set_option linter.unusedSimpArgs false
namespace Go.Proofs.YtfbgmlophkbejaaDoor
open Go.RowKit Go.Proofs.YtfbgmlophkbejaaDoorW.PrintWords Go.Proofs.YtfbgmlophkbejaaDoorW.PrintLast Go.Proofs.YtfbgmlophkbejaaDoorQ.Pfa
namespace FC
open Sr
variable {lt : S46→S46→Bool}
set_option maxRecDepth 100000 in
set_option maxHeartbeats 8000000 in
theorem sym2_any {P : S46→Prop} (w : WO lt) (A R S : List S46) (y : S46) (a m b L : Nat) (ha : A.length=a) (hm : m=a + R.length) (hm2 : a + 1 < m) (hb : b=m + 1) (hL : L=b + S.length) (hO : Ord lt R) (q c B : Nat) (w0 W0 : World) (hR : RowS W0 B (.slice (some ⟨q,0,none⟩) L c) (A++R++y :: S)) (hB : Below w0.heap.size w0 W0) (hq : w0.heap.size≤q) (hc : CmpOk P lt w0) (py : P y) (hP : ∀ z ∈ R,P z) (hl : L≤1073741824) :
    Calls Tryd.prog 101 #[.slice (some ⟨q,0,none⟩) L c,.int .i64 (a : Int),.int .i64 (m : Int),.int .i64 (b : Int),.func (.func 56) #[] #[]] W0 fun e w' => e=.returned (.tuple #[])∧RowS w' B (.slice (some ⟨q,0,none⟩) L c) (A++mrg lt R [y]++S)∧Below w0.heap.size w0 w':=by
  have HR:=Lib.hid hR
  have HB:=Lib.hid hB
  have HC:=Lib.hid hc
  have HP:=Lib.hid hP
  have HL:=Lib.hid hL
  have HA:=Lib.hid ha
  have HM:=Lib.hid hm
  have HBb:=Lib.hid hb
  have hd0 : ((m : Int) - a == 1)=false:=beq_eq_false_iff_ne.2 (by omega)
  have hd1 : ((b : Int) - m == 1)=true:=beq_iff_eq.2 (by omega)
  have hmb : m≤b:=by omega
  have hbL : b≤L:=by omega
  have hmL : m < L:=by omega
  have haL : a < L:=by omega
  clear hR hB hc ha hm hL hb hP
  go_enter Tryd.func101,Tryd.ntmps101
  go_wp2
  go_loopw [14,15] (fun u v wr => ∃ (i j : Nat),u=.int .i64 (i : Int)∧v=.int .i64 (j : Int)∧a≤i∧i≤j∧j≤m∧Hid ((∀ r ∈ R.take (i - a),lt y r=false)∧(∀ r ∈ R.drop (j - a),lt y r=true))∧Hid (RowS wr B (.slice (some ⟨q,0,none⟩) L c) (A++R++y :: S))∧Hid (Below w0.heap.size w0 wr)) (fun u v _ => (intOf v).toNat - (intOf u).toNat)
  case atStart => exact ⟨a,m,rfl,rfl,by omega,by omega,by omega,Lib.hid ⟨fun r hr => by rw [Nat.sub_self] at hr;simp at hr,fun r hr => by rw [List.drop_eq_nil_of_le (by have:=HM.out;omega)] at hr;cases hr⟩,HR,HB⟩
  case round =>
    clear HR HB
    obtain ⟨i,j,rfl,rfl,hmi,hij,hjb,hS,hR,hB⟩:=hrel
    by_cases hlt : i < j
    · obtain ⟨h,hh⟩ : ∃ h : Nat,h=(i + j) / 2:=⟨_,rfl⟩
      have hh2 : ((i : Int) + j) / 2=(h : Int):=by omega
      have hih : i≤h:=by omega
      have hhj : h < j:=by omega
      have hhL : h < L:=by omega
      have hhR : h - a < R.length:=by have:=HM.out;omega
      obtain ⟨z,hz⟩ : ∃ z,z=R[h - a]:=⟨_,rfl⟩
      have c1 : ∀ W,RowS W B (.slice (some ⟨q,0,none⟩) L c) (A++R++y :: S)→W.cell? ⟨q,h * 2,none⟩=some (.string z.f0)∧W.cell? ⟨q,h * 2 + 1,none⟩=some (.string z.f1)∧W.frozen? ⟨q,h * 2,none⟩=false∧W.frozen? ⟨q,h * 2 + 1,none⟩=false:=fun W hW => by
        have:=hW.cell h (by omega)
        rw [rd_at' _ (A++R.take (h - a)) (R.drop (h - a + 1)++(y :: S)) z (by rw [hz,← mid_split A R (y :: S) (h - a) hhR]) _ (by have:=HA.out;simp only [List.length_append,List.length_take];omega)] at this
        exact this
      have c2 : ∀ W,RowS W B (.slice (some ⟨q,0,none⟩) L c) (A++R++y :: S)→W.cell? ⟨q,m * 2,none⟩=some (.string y.f0)∧W.cell? ⟨q,m * 2 + 1,none⟩=some (.string y.f1)∧W.frozen? ⟨q,m * 2,none⟩=false∧W.frozen? ⟨q,m * 2 + 1,none⟩=false:=fun W hW => by
        have:=hW.cell m (by omega)
        rw [rd_at' _ (A++R) S y rfl _ (by have:=HA.out;have:=HM.out;rw [List.length_append];omega)] at this
        exact this
      have pz : P z:=HP.out z (by rw [hz];exact List.getElem_mem _)
      have HY:=Lib.hid hz
      have Hh:=Lib.hid hh
      have C1:=Lib.hid c1
      have C2:=Lib.hid c2
      clear hz hh c1 c2
      go_wp2_with fail
      refine start_ (n:=12) (S:=(fun w' => RowS w' B (.slice (some ⟨q,0,none⟩) L c) (A++R++y :: S)∧Below w0.heap.size w0 w')) (ds:=[]) #[false,false,false,false,false,false,false,false,false,false,false,false] (by kernel_rfl) rfl rfl ⟨Kd.Zt hR.out,Zc hB.out⟩ (fun hHeld => ?_)
      refine pure_ (i:=0) (N:=some 92) (v:=?_) (a':=?_) #[true,false,false,false,false,false,false,false,false,false,false,false] rfl rfl (by kernel_rfl) (fun _ _ _ h => h) (Or.inl ⟨by rfl,?_⟩) ?_ ?_
      rotate_left
      · intro w'
        go_simp
        with_reducible rfl
      rotate_left
      · simp only [Act.put,List.setIfInBounds_toArray,List.set_cons_zero,List.set_cons_succ,i64_w,i32_w]
        rfl
      refine pure_ (i:=1) (N:=some 93) (v:=?_) (a':=?_) #[true,true,false,false,false,false,false,false,false,false,false,false] rfl rfl (by kernel_rfl) (fun _ _ _ h => h) (Or.inl ⟨by rfl,?_⟩) ?_ ?_
      rotate_left
      · intro w'
        go_simp
        with_reducible rfl
      rotate_left
      · simp only [Act.put,List.setIfInBounds_toArray,List.set_cons_zero,List.set_cons_succ,i64_w,i32_w]
        rfl
      refine pure_ (i:=2) (N:=some 94) (v:=?_) (a':=?_) #[true,true,true,false,false,false,false,false,false,false,false,false] rfl rfl (by kernel_rfl) (fun _ _ _ h => h) (Or.inl ⟨by rfl,?_⟩) ?_ ?_
      rotate_left
      · intro w'
        go_simp
        with_reducible rfl
      rotate_left
      · simp only [Act.put,List.setIfInBounds_toArray,List.set_cons_zero,List.set_cons_succ,i64_w,i32_w]
        rfl
      refine pure_ (i:=3) (N:=some 95) (v:=?_) (a':=?_) #[true,true,true,true,false,false,false,false,false,false,false,false] rfl rfl (by kernel_rfl) (fun _ _ _ h => h) (Or.inl ⟨by rfl,?_⟩) ?_ ?_
      rotate_left
      · intro w'
        go_simp
        with_reducible rfl
      rotate_left
      · simp only [Act.put,List.setIfInBounds_toArray,List.set_cons_zero,List.set_cons_succ,i64_w,i32_w]
        rfl
      refine pure_ (i:=5) (N:=some 97) (v:=?_) (a':=?_) #[true,true,true,true,false,true,false,false,false,false,false,false] rfl rfl (by kernel_rfl) (fun _ _ _ h => h) (Or.inl ⟨by rfl,?_⟩) ?_ ?_
      rotate_left
      · intro w'
        go_simp
        with_reducible rfl
      rotate_left
      · simp only [Act.put,List.setIfInBounds_toArray,List.set_cons_zero,List.set_cons_succ,i64_w,i32_w]
        rfl
      refine pure_ (i:=6) (N:=some 98) (v:=?_) (a':=?_) #[true,true,true,true,false,true,true,false,false,false,false,false] rfl rfl (by kernel_rfl) (fun _ _ _ h => h) (Or.inl ⟨by rfl,?_⟩) ?_ ?_
      rotate_left
      · intro w'
        go_simp
        with_reducible rfl
      rotate_left
      · simp only [Act.put,List.setIfInBounds_toArray,List.set_cons_zero,List.set_cons_succ,i64_w,i32_w]
        rfl
      refine pure_ (i:=7) (N:=some 99) (v:=?_) (a':=?_) #[true,true,true,true,false,true,true,true,false,false,false,false] rfl rfl (by kernel_rfl) (fun _ _ _ h => h) (Or.inl ⟨by rfl,?_⟩) ?_ ?_
      rotate_left
      · intro w'
        go_simp
        with_reducible rfl
      rotate_left
      · simp only [Act.put,List.setIfInBounds_toArray,List.set_cons_zero,List.set_cons_succ,i64_w,i32_w]
        rfl
      refine take_ (i:=4) (N:=some 96) (v:=?_) (a':=?_) #[true,true,true,true,true,true,true,true,false,false,false,false] rfl rfl (by kernel_rfl) (fun _ _ _ h => h) (Or.inl ⟨by rfl,?_⟩) hHeld ?_ ?_
      rotate_left
      · rintro w' ⟨s1,s2⟩
        obtain ⟨d0,d1,-,-⟩:=C1.out _ s1
        obtain ⟨e0,e1,-,-⟩:=C2.out _ s1
        go_simp
        with_reducible rfl
      rotate_left
      · simp only [Act.put,List.setIfInBounds_toArray,List.set_cons_zero,List.set_cons_succ,i64_w,i32_w]
        rfl
      refine take_ (i:=8) (N:=some 100) (v:=?_) (a':=?_) #[true,true,true,true,true,true,true,true,true,false,false,false] rfl rfl (by kernel_rfl) (fun _ _ _ h => h) (Or.inl ⟨by rfl,?_⟩) hHeld ?_ ?_
      rotate_left
      · rintro w' ⟨s1,s2⟩
        obtain ⟨d0,d1,-,-⟩:=C1.out _ s1
        obtain ⟨e0,e1,-,-⟩:=C2.out _ s1
        go_simp
        with_reducible rfl
      rotate_left
      · simp only [Act.put,List.setIfInBounds_toArray,List.set_cons_zero,List.set_cons_succ,i64_w,i32_w]
        rfl
      refine one_ (i:=9) (N:=some 101) #[true,true,true,true,true,true,true,true,true,true,false,false] rfl rfl (by kernel_rfl) (by decide) (fun K hK => ?_)
      refine goesV_ Tryd.func56 (by kernel_rfl) rfl #[.agg #[.string y.f0,.string y.f1],.agg #[.string z.f0,.string z.f1]] (by rfl) rfl rfl rfl (by first|rfl|(simp only [List.map_toArray,List.map_cons,List.map_nil];done)|(simp only [List.map_toArray,List.map_cons,List.map_nil];rfl)) ?_
      refine (HC.out _ y z py pz hHeld.2).mono ?_
      rintro _ w3 ⟨⟨r,rfl,hr⟩,hb3⟩
      refine ⟨_,rfl,?_⟩
      refine hK.out _ _ (⟨RowS.below hHeld.1 hb3,Zf hHeld.2 hb3⟩) (fun hHeld => ?_)
      clear hK K
      refine norm_ (a':=?_) ?_ ?_
      rotate_left
      · show Act.put _ (some 101) _=_
        simp only [Act.put,List.setIfInBounds_toArray,List.set_cons_zero,List.set_cons_succ,i64_w,i32_w]
        rfl
      refine pure_ (i:=10) (N:=some 102) (v:=?_) (a':=?_) #[true,true,true,true,true,true,true,true,true,true,true,false] rfl rfl (by kernel_rfl) (fun _ _ _ h => h) (Or.inl ⟨by rfl,?_⟩) ?_ ?_
      rotate_left
      · intro w'
        go_simp
        with_reducible rfl
      rotate_left
      · simp only [Act.put,List.setIfInBounds_toArray,List.set_cons_zero,List.set_cons_succ,i64_w,i32_w]
        rfl
      refine pure_ (i:=11) (N:=some 103) (v:=?_) (a':=?_) #[true,true,true,true,true,true,true,true,true,true,true,true] rfl rfl (by kernel_rfl) (fun _ _ _ h => h) (Or.inl ⟨by rfl,?_⟩) ?_ ?_
      rotate_left
      · intro w'
        go_simp
        with_reducible rfl
      rotate_left
      · simp only [Act.put,List.setIfInBounds_toArray,List.set_cons_zero,List.set_cons_succ,i64_w,i32_w]
        rfl
      refine done_ (by kernel_rfl) ?_
      have hRo:=Lib.hid hHeld.1
      have hBo:=Lib.hid hHeld.2
      clear hHeld
      cases hcc : lt y z with
      | false =>
        have hr2 : decide (r < 0)=false:=hr.trans hcc
        have hS2 : Hid ((∀ r ∈ R.take (h + 1 - a),lt y r=false)∧(∀ r ∈ R.drop (j - a),lt y r=true)):=Lib.hid ⟨by
          rw [show h + 1 - a=h - a + 1 by omega]
          exact high_false w R hO y (h - a) hhR (by rw [← HY.out];exact hcc),hS.out.2⟩
        clear hr hcc
        go_wp2
        exact ⟨⟨h + 1,j,by first|rfl|simp,rfl,by omega,by omega,by omega,hS2,hRo,hBo⟩,by simp [intOf];omega⟩
      | true =>
        have hr2 : decide (r < 0)=true:=hr.trans hcc
        have hS2 : Hid ((∀ r ∈ R.take (i - a),lt y r=false)∧(∀ r ∈ R.drop (h - a),lt y r=true)):=Lib.hid ⟨hS.out.1,high_true w R hO y (h - a) hhR (by rw [← HY.out];exact hcc)⟩
        clear hr hcc
        go_wp2
        exact ⟨⟨i,h,rfl,rfl,by omega,by omega,by omega,hS2,hRo,hBo⟩,by simp [intOf];omega⟩
    · obtain rfl : i=j:=by omega
      have hd2 : decide ((i : Int) < (i : Int))=false:=decide_eq_false (by omega)
      have hst : Hid (RowS wr B (.slice (some ⟨q,0,none⟩) L c) (A++R.take (m - a)++y :: R.drop (m - a)++S)):=Lib.hid (by
        rw [List.take_of_length_le (by have:=HM.out;omega),List.drop_eq_nil_of_le (by have:=HM.out;omega)]
        have:=hR.out
        simpa using this)
      clear hR
      go_wp2
      go_loopw [17] (fun u wq => ∃ k : Nat,u=.int .i64 (k : Int)∧i≤k∧k≤m∧Hid (RowS wq B (.slice (some ⟨q,0,none⟩) L c) (A++R.take (k - a)++y :: R.drop (k - a)++S))∧Hid (Below w0.heap.size w0 wq)) (fun u _ => (intOf u).toNat)
      case atStart => exact ⟨m,rfl,by omega,by omega,hst,hB⟩
      case round =>
        clear hst hB
        obtain ⟨k,rfl,hki,hkm,hR,hB⟩:=hrel
        by_cases hkl : i < k
        · obtain ⟨k1,hk1⟩ : ∃ k1 : Nat,k=k1 + 1:=⟨k - 1,by omega⟩
          have hk1w : (k : Int) - 1=(k1 : Int):=by omega
          have hkL : k < L:=by omega
          have hk1L : k1 < L:=by omega
          have hkR : k1 - a < R.length:=by have:=HM.out;omega
          obtain ⟨z,hz⟩ : ∃ z,z=R[k1 - a]:=⟨_,rfl⟩
          have hX : A++R.take (k - a)++y :: R.drop (k - a)++S=(A++R.take (k1 - a))++z :: y :: (R.drop (k - a)++S):=by
            rw [show k - a=k1 - a + 1 by omega,List.take_succ_eq_append_getElem hkR,← hz]
            simp only [List.append_assoc,List.cons_append,List.nil_append]
          have hlen : (A++R.take (k1 - a)).length=k1:=by have:=HA.out;simp only [List.length_append,List.length_take];omega
          have hRo:=hR.out
          rw [hX] at hRo
          obtain ⟨d0,d1,f0,f1⟩:=hRo.cell k hkL
          obtain ⟨e0,e1,g0,g1⟩:=hRo.cell k1 hk1L
          rw [rd_at' _ (A++R.take (k1 - a)++[z]) (R.drop (k - a)++S) y (by simp) k (by rw [List.length_append,hlen];exact hk1)] at d0 d1
          rw [rd_at' _ (A++R.take (k1 - a)) (y :: (R.drop (k - a)++S)) z rfl k1 hlen.symm] at e0 e1
          obtain ⟨hp1,hg1⟩:=RowS.put hRo k hkL z
          obtain ⟨hp2,hg2⟩:=hp1.put k1 hk1L y
          have hsw : (((A++R.take (k1 - a))++z :: y :: (R.drop (k - a)++S)).set k z).set k1 y=A++R.take (k1 - a)++y :: R.drop (k1 - a)++S:=by
            have h1:=swp_adj (A++R.take (k1 - a)) (R.drop (k - a)++S) z y
            unfold swp at h1
            rw [rd_at' _ (A++R.take (k1 - a)++[z]) (R.drop (k - a)++S) y (by simp) ((A++R.take (k1 - a)).length + 1) (by rw [List.length_append (bs:=[z]),List.length_singleton]),rd_at' _ (A++R.take (k1 - a)) (y :: (R.drop (k - a)++S)) z rfl _ rfl,hlen,← hk1] at h1
            rw [h1,List.drop_eq_getElem_cons hkR,← hz,show k1 - a + 1=k - a by omega]
            simp only [List.append_assoc,List.cons_append,List.nil_append]
          rw [hsw] at hp2
          have HP2:=Lib.hid (RowS.drew hp2)
          have HB2:=Lib.hid (Zc (below_grow (below_grow hB.out hg1 hq) hg2 hq))
          have n0 : ¬ k=k1:=by omega
          have n1 : ¬ k * 2=k1 * 2:=by omega
          have n2 : ¬ k * 2 + 1=k1 * 2:=by omega
          have n3 : ¬ k * 2=k1 * 2 + 1:=by omega
          have n4 : ¬ k * 2 + 1=k1 * 2 + 1:=by omega
          have n5 : ¬ k1 * 2=k * 2 + 1:=by omega
          have Hk1:=Lib.hid hk1
          clear hp1 hp2 hg1 hg2 hsw hRo hX hlen hz hR hk1
          go_wp2_with fail
          go_big_region
          all_goals go_wp2
          exact ⟨⟨k1,rfl,by have:=Hk1.out;omega,by have:=Hk1.out;omega,HP2,HB2⟩,by have:=Hk1.out;simp [intOf];omega⟩
        · obtain rfl : k=i:=by omega
          have hfin : A++R.take (k - a)++y :: R.drop (k - a)++S=A++mrg lt R [y]++S:=by
            have h1:=mrg_last y _ _ hS.out.1 hS.out.2
            rw [List.take_append_drop] at h1
            rw [h1]
            simp only [List.append_assoc,List.cons_append,List.nil_append]
          have hRo:=hR.out
          rw [hfin] at hRo
          have HRo:=Lib.hid hRo
          clear hRo hfin hR
          go_wp2
          refine bodyPost_ret (results_none rfl _ _ _) rfl ?_
          exact ⟨rfl,HRo.out,hB.out⟩
end FC
end Go.Proofs.YtfbgmlophkbejaaDoor
set_option linter.unusedVariables false
set_option linter.unusedSimpArgs false
namespace Go.Proofs.YtfbgmlophkbejaaDoor
open Go.RowKit Go.Proofs.YtfbgmlophkbejaaDoorW.PrintWords Go.Proofs.YtfbgmlophkbejaaDoorW.PrintLast Go.Proofs.YtfbgmlophkbejaaDoorQ.Pfa
namespace FC
open Sr
def Cur (w0 : World) (B q L c : Nat) (W : World) (Z : List S46) : Prop:=RowS W B (.slice (some ⟨q,0,none⟩) L c) Z∧Below w0.heap.size w0 W
structure Srch (lt : S46→S46→Bool) (X : List S46) (s0 r0 n s r : Nat) : Prop where
  low : s=s0 ∨ lt (Zq X ((n - s : Nat) : Int)) (Zq X ((s - 1 : Nat) : Int))=false
  high : r=r0 ∨ lt (Zq X ((n - 1 - r : Nat) : Int)) (Zq X (r : Int))=true
variable {lt : S46→S46→Bool}
theorem last_of_take {M P : List S46} {x : S46} {k : Nat} (hk : k≤M.length) (h : M.take k=P++[x]) : 1≤k∧∃ hk2 : k - 1 < M.length,M[k - 1]=x:=by
  have e1:=congrArg List.length h
  simp only [List.length_take,List.length_append,List.length_singleton] at e1
  have e2 : P.length=k - 1:=by omega
  refine ⟨by omega,by omega,?_⟩
  have : (M.take k)[k - 1]?=some x:=by rw [h,← e2,List.getElem?_append_right (Nat.le_refl _),Nat.sub_self];rfl
  rw [List.getElem?_take_of_lt (by omega),List.getElem?_eq_getElem (by omega)] at this
  exact Option.some.inj this
theorem head_of_drop {M Q : List S46} {y : S46} {k : Nat} (h : M.drop k=y :: Q) : ∃ hk2 : k < M.length,M[k]=y:=by
  have hk : k < M.length:=by
    rcases Nat.lt_or_ge k M.length with h'|h'
    · exact h'
    · rw [List.drop_eq_nil_of_le h'] at h;cases h
  rw [List.drop_eq_getElem_cons hk] at h
  injection h with h1 h2
  exact ⟨hk,h1⟩
theorem srch_cut (w : WO lt) (A M R S : List S46) (a m b mid n s0 r0 s : Nat) (ha : A.length=a) (hm : m=a + M.length) (hb : b=m + R.length) (hmid : mid=(a + b) / 2) (hn : n=mid + m) (hM : Ord lt M) (hR : Ord lt R)
    (h0 : (mid < m∧s0=n - b∧r0=mid) ∨ (m≤mid∧s0=a∧r0=m)) (hs : s0≤s) (hr : s≤r0) (hab : a < m) (hmb : m < b) (h : Srch lt (A++M++R++S) s0 r0 n s s) :
    mrg lt M R=mrg lt (M.take (s - a)) (R.take (n - s - m))++mrg lt (M.drop (s - a)) (R.drop (n - s - m)):=by
  have hX : ∀ (p : Nat) (hp : a ≤ p) (hp2 : p < m), Zq (A ++ M ++ R ++ S) (p : Int) = M[p - a]'(by omega) := fun p hp hp2 =>
    rd_at' _ (A++M.take (p - a)) (M.drop (p - a + 1)++(R++S)) _ (by rw [← mid_split A M (R++S) (p - a) (by omega)];simp only [List.append_assoc]) p (by simp only [List.length_append,List.length_take];omega)
  have hY : ∀ (p : Nat) (hp : m ≤ p) (hp2 : p < b), Zq (A ++ M ++ R ++ S) (p : Int) = R[p - m]'(by omega) := fun p hp hp2 =>
    rd_at' _ (A++M++R.take (p - m)) (R.drop (p - m + 1)++S) _ (by rw [← mid_split (A++M) R S (p - m) (by omega)]) p (by simp only [List.length_append,List.length_take];omega)
  have hsa : a≤s:=by omega
  have hsm : s≤m:=by omega
  have hen : m≤n - s:=by omega
  have heb : n - s≤b:=by omega
  have o1 : Ord lt (M.take (s - a)):=List.Pairwise.sublist (List.take_sublist _ _) hM
  have o2 : Ord lt (M.drop (s - a)):=List.Pairwise.sublist (List.drop_sublist _ _) hM
  have o3 : Ord lt (R.take (n - s - m)):=List.Pairwise.sublist (List.take_sublist _ _) hR
  have o4 : Ord lt (R.drop (n - s - m)):=List.Pairwise.sublist (List.drop_sublist _ _) hR
  have lo : ∀ l ∈ M.take (s - a),∀ r ∈ R.drop (n - s - m),lt r l=false:=by
    refine cut_low w _ _ o1 o4 fun P x Q y hP hQ => ?_
    obtain ⟨e1,e2,hx⟩:=last_of_take (by omega) hP
    obtain ⟨e3,hy⟩:=head_of_drop hQ
    rcases h.low with h3|h3
    · omega
    · rw [hX (s - 1) (by omega) (by omega),hY (n - s) (by omega) (by omega)] at h3
      rw [← hx,← hy]
      have e4 : s - a - 1=s - 1 - a:=by omega
      simp only [e4]
      exact h3
  have hi : ∀ r ∈ R.take (n - s - m),∀ l ∈ M.drop (s - a),lt r l=true:=by
    refine cut_high w _ _ o3 o2 fun P x Q y hP hQ => ?_
    obtain ⟨e1,e2,hx⟩:=last_of_take (by omega) hP
    obtain ⟨e3,hy⟩:=head_of_drop hQ
    rcases h.high with h3|h3
    · omega
    · rw [hX s (by omega) (by omega),hY (n - 1 - s) (by omega) (by omega)] at h3
      rw [← hx,← hy]
      have e4 : n - s - m - 1=n - 1 - s - m:=by omega
      simp only [e4]
      exact h3
  have:=mrg_split (lt:=lt) _ (M.take (s - a)) (R.take (n - s - m)) (M.drop (s - a)) (R.drop (n - s - m)) rfl hi lo
  rw [List.take_append_drop,List.take_append_drop] at this
  exact this
end FC
end Go.Proofs.YtfbgmlophkbejaaDoor
set_option linter.unusedVariables false
set_option linter.unusedSimpArgs false
namespace Go.Proofs.YtfbgmlophkbejaaDoor
open Go.RowKit Go.Proofs.YtfbgmlophkbejaaDoorW.PrintWords Go.Proofs.YtfbgmlophkbejaaDoorW.PrintLast Go.Proofs.YtfbgmlophkbejaaDoorQ.Pfa
namespace FC
open Sr
variable {lt : S46→S46→Bool}
def SymSpec (P : S46→Prop) (lt : S46→S46→Bool) (w0 : World) (B q L c : Nat) (N : Nat) : Prop:=∀ (A M R S : List S46) (a m b : Nat) (W : World),b - a≤N→A.length=a→m=a + M.length→b=m + R.length→L=b + S.length→a < m→m < b→Ord lt M→Ord lt R→(∀ z ∈ M,P z)→(∀ z ∈ R,P z)→Cur w0 B q L c W (A++M++R++S) →
  Calls Tryd.prog 101 #[.slice (some ⟨q,0,none⟩) L c,.int .i64 (a : Int),.int .i64 (m : Int),.int .i64 (b : Int),.func (.func 56) #[] #[]] W fun e w' => e=.returned (.tuple #[])∧Cur w0 B q L c w' (A++mrg lt M R++S)
def St0 (a m b mid n s0 r0 : Nat) : Prop:=(mid < m∧s0=n - b∧r0=mid) ∨ (m≤mid∧s0=a∧r0=m)
theorem Cur.eq {w0 W : World} {B q L c : Nat} {Z Z' : List S46} (h : Cur w0 B q L c W Z) (e : Z=Z') : Cur w0 B q L c W Z':=e ▸ h
theorem Cur.rot {w0 W : World} {B q L c : Nat} (A L1 L2 R1 R2 S : List S46) (s m e : Nat) (F : Value) (hs : A.length + L1.length=s) (hm : m=s + L2.length) (he : e=m + R1.length) (h1 : 0 < L2.length) (h2 : 0 < R1.length) (hq : w0.heap.size≤q) (hl : L≤1073741824)
    (h : Cur w0 B q L c W (A++L1++L2++R1++R2++S)) :
    Calls Tryd.prog 119 #[.slice (some ⟨q,0,none⟩) L c,.int .i64 (s : Int),.int .i64 (m : Int),.int .i64 (e : Int),F] W fun x w' => x=.returned (.tuple #[])∧Cur w0 B q L c w' (A++L1++R1++(L2++R2++S)):=by
  have hZL : (A++L1++L2++R1++R2++S).length=L:=(Kd.R_reads' h.1).1.symm
  have hr:=rot_any (A++L1++L2++R1++R2++S) (A++L1++R1++(L2++R2++S)) s m e F q c B W (by rw [hZL];exact h.1) (by omega) (by omega)
    ⟨A++L1,L2,R1,R2++S,by simp only [List.append_assoc],by simp only [List.append_assoc],by omega,by omega,by rw [List.length_append];omega,by omega,by omega⟩ (by omega)
  rw [hZL] at hr
  exact hr.mono fun x w' ⟨h1,h2,h3⟩ => ⟨h1,h2,below_grow h.2 h3 hq⟩
theorem rd_M (A M T : List S46) (a p : Nat) (ha : A.length=a) (hp : a≤p) (hp2 : p - a < M.length) : Zq (A++M++T) (p : Int) ∈ M:=by
  rw [rd_at' (A++M++T) (A++M.take (p - a)) (M.drop (p - a + 1)++T) _ (mid_split A M T (p - a) hp2) p (by simp only [List.length_append,List.length_take];omega)]
  exact List.getElem_mem _
set_option maxRecDepth 100000 in
set_option maxHeartbeats 40000000 in
theorem sym3_any {P : S46→Prop} (w : WO lt) (A M R S : List S46) (a m b L : Nat) (N : Nat) (ha : A.length=a) (hm : m=a + M.length) (hm2 : a + 1 < m) (hb : b=m + R.length) (hb2 : m + 1 < b) (hL : L=b + S.length) (hM : Ord lt M) (hR : Ord lt R) (q c B : Nat) (w0 W0 : World) (hX : Cur w0 B q L c W0 (A++M++R++S)) (hq : w0.heap.size≤q) (hc : CmpOk P lt w0) (hPM : ∀ z ∈ M,P z) (hPR : ∀ z ∈ R,P z) (hl : L≤1073741824) (hN : b - a≤N + 1) (ih : SymSpec P lt w0 B q L c N) :
    Calls Tryd.prog 101 #[.slice (some ⟨q,0,none⟩) L c,.int .i64 (a : Int),.int .i64 (m : Int),.int .i64 (b : Int),.func (.func 56) #[] #[]] W0 fun e w' => e=.returned (.tuple #[])∧Cur w0 B q L c w' (A++mrg lt M R++S):=by
  have HX:=Lib.hid hX
  have HC:=Lib.hid hc
  have HPM:=Lib.hid hPM
  have HPR:=Lib.hid hPR
  have hd0 : ((m : Int) - a == 1)=false:=beq_eq_false_iff_ne.2 (by omega)
  have hd1 : ((b : Int) - m == 1)=false:=beq_eq_false_iff_ne.2 (by omega)
  obtain ⟨mid,hmid⟩ : ∃ mid : Nat,mid=(a + b) / 2:=⟨_,rfl⟩
  obtain ⟨n,hn⟩ : ∃ n : Nat,n=mid + m:=⟨_,rfl⟩
  have hmw : ((a : Int) + b) / 2=(mid : Int):=by omega
  have hnw : (mid : Int) + m=(n : Int):=by omega
  obtain ⟨p,hp⟩ : ∃ p : Nat,n=p + 1:=⟨n - 1,by omega⟩
  have hpw : (n : Int) - 1=(p : Int):=by omega
  have hbL : b≤L:=by omega
  have hamid : a < mid:=by omega
  have hmidb : mid < b:=by omega
  have hnb : n < 2 * b:=by omega
  have cutE:=fun s s0 r0 (h0 : St0 a m b mid n s0 r0) h1 h2 h3 => srch_cut w A M R S a m b mid n s0 r0 s ha hm hb hmid hn hM hR h0 h1 h2 (by omega) (by omega) h3
  have HE:=Lib.hid cutE
  have IH:=Lib.hid ih
  have HM:=Lib.hid hm
  have HR:=Lib.hid hR
  have HOM:=Lib.hid hM
  have HBb:=Lib.hid hb
  have HL:=Lib.hid hL
  have HA:=Lib.hid ha
  have Hmid:=Lib.hid hmid
  have Hn:=Lib.hid hn
  have Hp:=Lib.hid hp
  clear cutE ih hm hR hM hb hL ha hmid hn hp hX hc hPM hPR
  rcases Nat.lt_or_ge mid m with hg|hg
  · obtain ⟨s0,hs0⟩ : ∃ s0 : Nat,s0=n - b:=⟨_,rfl⟩
    have hsw : (n : Int) - b=(s0 : Int):=by have:=Hn.out;have:=Hmid.out;omega
    have h0 : St0 a m b mid n s0 mid:=Or.inl ⟨hg,hs0,rfl⟩
    have hs00 : a≤s0∧s0≤mid:=by have:=Hn.out;have:=Hmid.out;omega
    have hrange : ∀ c' : Nat,s0≤c'→c' < mid→m≤p - c'∧p - c' < b∧c'≤p∧c' < m:=fun c' h1 h2 => by have:=Hn.out;have:=Hmid.out;have:=Hp.out;omega
    have hs0e:=Lib.hid hs0
    clear hs0
    have Hrange:=Lib.hid hrange
    have H0:=Lib.hid h0
    clear hrange h0
    go_enter Tryd.func101,Tryd.ntmps101
    go_wp2
    go_loopw [20,21] (fun u v wr => ∃ (s r : Nat),u=.int .i64 (s : Int)∧v=.int .i64 (r : Int)∧s0≤s∧s≤r∧r≤mid∧Hid (Srch lt (A++M++R++S) s0 mid n s r)∧Hid (Cur w0 B q L c wr (A++M++R++S))) (fun u v _ => (intOf v).toNat - (intOf u).toNat)
    case atStart => exact ⟨s0,mid,rfl,rfl,by omega,by omega,by omega,Lib.hid ⟨Or.inl rfl,Or.inl rfl⟩,HX⟩
    case round =>
      clear HX
      obtain ⟨s,r,rfl,rfl,hs0,hsr,hr0,hS,hX⟩:=hrel
      by_cases hlt : s < r
      · obtain ⟨h,hh⟩ : ∃ h : Nat,h=(s + r) / 2:=⟨_,rfl⟩
        have hh2 : ((s : Int) + r) / 2=(h : Int):=by omega
        have hih : s≤h:=by omega
        have hhj : h < r:=by omega
        obtain ⟨k1,k2,k3,k4⟩:=Hrange.out h (by omega) (by omega)
        obtain ⟨g,hg2⟩ : ∃ g : Nat,g=p - h:=⟨_,rfl⟩
        have hgw : wrap64 ((p : Int) - h)=(g : Int):=by unfold wrap64;have:=Hp.out;have:=Hn.out;omega
        have hgw2 : IntKind.i64.wrap ((p : Int) - h)=(g : Int):=(i64_w _).trans hgw
        have hhL : h < L:=by omega
        have hgL : g < L:=by omega
        obtain ⟨y,hy⟩ : ∃ y,y=Zq (A++M++R++S) (g : Int):=⟨_,rfl⟩
        obtain ⟨z,hz⟩ : ∃ z,z=Zq (A++M++R++S) (h : Int):=⟨_,rfl⟩
        have c1 : ∀ W,RowS W B (.slice (some ⟨q,0,none⟩) L c) (A++M++R++S)→W.cell? ⟨q,g * 2,none⟩=some (.string y.f0)∧W.cell? ⟨q,g * 2 + 1,none⟩=some (.string y.f1)∧W.frozen? ⟨q,g * 2,none⟩=false∧W.frozen? ⟨q,g * 2 + 1,none⟩=false:=fun W hW => by
          rw [hy]
          exact hW.cell g (by omega)
        have c2 : ∀ W,RowS W B (.slice (some ⟨q,0,none⟩) L c) (A++M++R++S)→W.cell? ⟨q,h * 2,none⟩=some (.string z.f0)∧W.cell? ⟨q,h * 2 + 1,none⟩=some (.string z.f1)∧W.frozen? ⟨q,h * 2,none⟩=false∧W.frozen? ⟨q,h * 2 + 1,none⟩=false:=fun W hW => by
          rw [hz]
          exact hW.cell h (by omega)
        have py : P y:=HPR.out y (by rw [hy,hg2];exact rd_M (A++M) R S m (p - h) (by have:=HA.out;have:=HM.out;rw [List.length_append];omega) k1 (by have:=HBb.out;omega))
        have pz : P z:=HPM.out z (by rw [hz,List.append_assoc];exact rd_M A M (R++S) a h HA.out (by omega) (by have:=HM.out;omega))
        have HY:=Lib.hid hy
        have HZ:=Lib.hid hz
        have Hg2:=Lib.hid hg2
        have C1:=Lib.hid c1
        have C2:=Lib.hid c2
        clear hy hz hh hg2 c1 c2 k1 k2 k3
        go_wp2_with fail
        refine start_ (n:=14) (S:=(fun w' => Cur w0 B q L c w' (A++M++R++S))) (ds:=[]) #[false,false,false,false,false,false,false,false,false,false,false,false,false,false] (by kernel_rfl) rfl rfl ⟨Kd.Zt hX.out.1,Zc hX.out.2⟩ (fun hHeld => ?_)
        refine pure_ (i:=0) (N:=some 158) (v:=?_) (a':=?_) #[true,false,false,false,false,false,false,false,false,false,false,false,false,false] rfl rfl (by kernel_rfl) (fun _ _ _ h => h) (Or.inl ⟨by rfl,?_⟩) ?_ ?_
        rotate_left
        · intro w'
          go_simp
          with_reducible rfl
        rotate_left
        · simp only [Act.put,List.setIfInBounds_toArray,List.set_cons_zero,List.set_cons_succ,i64_w,i32_w]
          rfl
        refine pure_ (i:=1) (N:=some 159) (v:=?_) (a':=?_) #[true,true,false,false,false,false,false,false,false,false,false,false,false,false] rfl rfl (by kernel_rfl) (fun _ _ _ h => h) (Or.inl ⟨by rfl,?_⟩) ?_ ?_
        rotate_left
        · intro w'
          go_simp
          with_reducible rfl
        rotate_left
        · simp only [Act.put,List.setIfInBounds_toArray,List.set_cons_zero,List.set_cons_succ,i64_w,i32_w]
          rfl
        refine pure_ (i:=2) (N:=some 160) (v:=?_) (a':=?_) #[true,true,true,false,false,false,false,false,false,false,false,false,false,false] rfl rfl (by kernel_rfl) (fun _ _ _ h => h) (Or.inl ⟨by rfl,?_⟩) ?_ ?_
        rotate_left
        · intro w'
          go_simp
          with_reducible rfl
        rotate_left
        · simp only [Act.put,List.setIfInBounds_toArray,List.set_cons_zero,List.set_cons_succ,i64_w,i32_w]
          rfl
        refine pure_ (i:=3) (N:=some 161) (v:=?_) (a':=?_) #[true,true,true,true,false,false,false,false,false,false,false,false,false,false] rfl rfl (by kernel_rfl) (fun _ _ _ h => h) (Or.inl ⟨by rfl,?_⟩) ?_ ?_
        rotate_left
        · intro w'
          go_simp
          with_reducible rfl
        rotate_left
        · simp only [Act.put,List.setIfInBounds_toArray,List.set_cons_zero,List.set_cons_succ,i64_w,i32_w]
          rfl
        refine pure_ (i:=4) (N:=some 162) (v:=?_) (a':=?_) #[true,true,true,true,true,false,false,false,false,false,false,false,false,false] rfl rfl (by kernel_rfl) (fun _ _ _ h => h) (Or.inl ⟨by rfl,?_⟩) ?_ ?_
        rotate_left
        · intro w'
          go_simp
          with_reducible rfl
        rotate_left
        · simp only [Act.put,List.setIfInBounds_toArray,List.set_cons_zero,List.set_cons_succ,i64_w,i32_w]
          rfl
        refine pure_ (i:=5) (N:=some 163) (v:=?_) (a':=?_) #[true,true,true,true,true,true,false,false,false,false,false,false,false,false] rfl rfl (by kernel_rfl) (fun _ _ _ h => h) (Or.inl ⟨by rfl,?_⟩) ?_ ?_
        rotate_left
        · intro w'
          go_simp
          with_reducible rfl
        rotate_left
        · simp only [Act.put,List.setIfInBounds_toArray,List.set_cons_zero,List.set_cons_succ,i64_w,i32_w]
          rfl
        refine pure_ (i:=7) (N:=some 165) (v:=?_) (a':=?_) #[true,true,true,true,true,true,false,true,false,false,false,false,false,false] rfl rfl (by kernel_rfl) (fun _ _ _ h => h) (Or.inl ⟨by rfl,?_⟩) ?_ ?_
        rotate_left
        · intro w'
          go_simp
          with_reducible rfl
        rotate_left
        · simp only [Act.put,List.setIfInBounds_toArray,List.set_cons_zero,List.set_cons_succ,i64_w,i32_w]
          rfl
        refine pure_ (i:=8) (N:=some 166) (v:=?_) (a':=?_) #[true,true,true,true,true,true,false,true,true,false,false,false,false,false] rfl rfl (by kernel_rfl) (fun _ _ _ h => h) (Or.inl ⟨by rfl,?_⟩) ?_ ?_
        rotate_left
        · intro w'
          go_simp
          with_reducible rfl
        rotate_left
        · simp only [Act.put,List.setIfInBounds_toArray,List.set_cons_zero,List.set_cons_succ,i64_w,i32_w]
          rfl
        refine pure_ (i:=9) (N:=some 167) (v:=?_) (a':=?_) #[true,true,true,true,true,true,false,true,true,true,false,false,false,false] rfl rfl (by kernel_rfl) (fun _ _ _ h => h) (Or.inl ⟨by rfl,?_⟩) ?_ ?_
        rotate_left
        · intro w'
          go_simp
          with_reducible rfl
        rotate_left
        · simp only [Act.put,List.setIfInBounds_toArray,List.set_cons_zero,List.set_cons_succ,i64_w,i32_w]
          rfl
        refine take_ (i:=6) (N:=some 164) (v:=?_) (a':=?_) #[true,true,true,true,true,true,true,true,true,true,false,false,false,false] rfl rfl (by kernel_rfl) (fun _ _ _ h => h) (Or.inl ⟨by rfl,?_⟩) hHeld ?_ ?_
        rotate_left
        · rintro w' ⟨s1,s2⟩
          obtain ⟨d0,d1,-,-⟩:=C1.out _ s1
          obtain ⟨e0,e1,-,-⟩:=C2.out _ s1
          go_simp
          with_reducible rfl
        rotate_left
        · simp only [Act.put,List.setIfInBounds_toArray,List.set_cons_zero,List.set_cons_succ,i64_w,i32_w]
          rfl
        refine take_ (i:=10) (N:=some 168) (v:=?_) (a':=?_) #[true,true,true,true,true,true,true,true,true,true,true,false,false,false] rfl rfl (by kernel_rfl) (fun _ _ _ h => h) (Or.inl ⟨by rfl,?_⟩) hHeld ?_ ?_
        rotate_left
        · rintro w' ⟨s1,s2⟩
          obtain ⟨d0,d1,-,-⟩:=C1.out _ s1
          obtain ⟨e0,e1,-,-⟩:=C2.out _ s1
          go_simp
          with_reducible rfl
        rotate_left
        · simp only [Act.put,List.setIfInBounds_toArray,List.set_cons_zero,List.set_cons_succ,i64_w,i32_w]
          rfl
        refine one_ (i:=11) (N:=some 169) #[true,true,true,true,true,true,true,true,true,true,true,true,false,false] rfl rfl (by kernel_rfl) (by decide) (fun K hK => ?_)
        refine goesV_ Tryd.func56 (by kernel_rfl) rfl #[.agg #[.string y.f0,.string y.f1],.agg #[.string z.f0,.string z.f1]] (by rfl) rfl rfl rfl (by first|rfl|(simp only [List.map_toArray,List.map_cons,List.map_nil];done)|(simp only [List.map_toArray,List.map_cons,List.map_nil];rfl)) ?_
        refine (HC.out _ y z py pz hHeld.2).mono ?_
        rintro _ w3 ⟨⟨ri,rfl,hr⟩,hb3⟩
        refine ⟨_,rfl,?_⟩
        refine hK.out _ _ (⟨RowS.below hHeld.1 hb3,Zf hHeld.2 hb3⟩) (fun hHeld => ?_)
        clear hK K
        refine norm_ (a':=?_) ?_ ?_
        rotate_left
        · show Act.put _ (some 169) _=_
          simp only [Act.put,List.setIfInBounds_toArray,List.set_cons_zero,List.set_cons_succ,i64_w,i32_w]
          rfl
        refine pure_ (i:=12) (N:=some 170) (v:=?_) (a':=?_) #[true,true,true,true,true,true,true,true,true,true,true,true,true,false] rfl rfl (by kernel_rfl) (fun _ _ _ h => h) (Or.inl ⟨by rfl,?_⟩) ?_ ?_
        rotate_left
        · intro w'
          go_simp
          with_reducible rfl
        rotate_left
        · simp only [Act.put,List.setIfInBounds_toArray,List.set_cons_zero,List.set_cons_succ,i64_w,i32_w]
          rfl
        refine pure_ (i:=13) (N:=some 171) (v:=?_) (a':=?_) #[true,true,true,true,true,true,true,true,true,true,true,true,true,true] rfl rfl (by kernel_rfl) (fun _ _ _ h => h) (Or.inl ⟨by rfl,?_⟩) ?_ ?_
        rotate_left
        · intro w'
          go_simp
          with_reducible rfl
        rotate_left
        · simp only [Act.put,List.setIfInBounds_toArray,List.set_cons_zero,List.set_cons_succ,i64_w,i32_w]
          rfl
        refine done_ (by kernel_rfl) ?_
        have hXo:=Lib.hid hHeld
        clear hHeld
        cases hcc : lt y z with
        | false =>
          have hr2 : decide (ri < 0)=false:=hr.trans hcc
          have hS2 : Hid (Srch lt (A++M++R++S) s0 mid n (h + 1) r):=Lib.hid ⟨Or.inr (by
            have e1 : n - (h + 1)=g:=by have:=Hp.out;have:=Hg2.out;omega
            rw [e1,Nat.add_sub_cancel,← HY.out,← HZ.out]
            exact hcc),hS.out.high⟩
          clear hr hcc
          go_wp2
          exact ⟨⟨h + 1,r,by first|rfl|simp,rfl,by omega,by omega,by omega,hS2,hXo⟩,by simp [intOf];omega⟩
        | true =>
          have hr2 : decide (ri < 0)=true:=hr.trans hcc
          have hS2 : Hid (Srch lt (A++M++R++S) s0 mid n s h):=Lib.hid ⟨hS.out.low,Or.inr (by
            have e1 : n - 1 - h=g:=by have:=Hp.out;have:=Hg2.out;omega
            rw [e1,← HY.out,← HZ.out]
            exact hcc)⟩
          clear hr hcc
          go_wp2
          exact ⟨⟨s,h,rfl,rfl,by omega,by omega,by omega,hS2,hXo⟩,by simp [intOf];omega⟩
      · obtain rfl : s=r:=by omega
        have hcut:=HE.out s s0 mid H0.out (by omega) (by omega) hS.out
        obtain ⟨e,he⟩ : ∃ e : Nat,e=n - s:=⟨_,rfl⟩
        have hew : (n : Int) - s=(e : Int):=by have:=Hn.out;omega
        have hme : m≤e:=by have:=Hn.out;omega
        have heb : e≤b:=by have h00:=H0.out;unfold St0 at h00;have:=Hn.out;have:=Hmid.out;omega
        have hsmid0 : s≤mid:=by have h00:=H0.out;unfold St0 at h00;omega
        have hsmid:=hsmid0
        have hsum : mid + m=e + s:=by have:=Hn.out;omega
        have hsa : a≤s:=by omega
        have hsm : s≤m:=by omega
        rw [← he] at hcut
        obtain ⟨L1,hL1⟩ : ∃ L1,L1=M.take (s - a):=⟨_,rfl⟩
        obtain ⟨L2,hL2⟩ : ∃ L2,L2=M.drop (s - a):=⟨_,rfl⟩
        obtain ⟨R1,hR1⟩ : ∃ R1,R1=R.take (e - m):=⟨_,rfl⟩
        obtain ⟨R2,hR2⟩ : ∃ R2,R2=R.drop (e - m):=⟨_,rfl⟩
        have l1 : L1.length=s - a:=by have:=HM.out;rw [hL1,List.length_take];omega
        have l2 : L2.length=m - s:=by have:=HM.out;rw [hL2,List.length_drop];omega
        have l3 : R1.length=e - m:=by have:=HBb.out;rw [hR1,List.length_take];omega
        have l4 : R2.length=b - e:=by have:=HBb.out;rw [hR2,List.length_drop];omega
        have o1 : Ord lt L1:=hL1 ▸ List.Pairwise.sublist (List.take_sublist _ _) HOM.out
        have o2 : Ord lt L2:=hL2 ▸ List.Pairwise.sublist (List.drop_sublist _ _) HOM.out
        have o3 : Ord lt R1:=hR1 ▸ List.Pairwise.sublist (List.take_sublist _ _) HR.out
        have o4 : Ord lt R2:=hR2 ▸ List.Pairwise.sublist (List.drop_sublist _ _) HR.out
        have hZ0 : A++M++R++S=A++L1++L2++R1++R2++S:=by
          have e1 : M=L1++L2:=by rw [hL1,hL2,List.take_append_drop]
          have e2 : R=R1++R2:=by rw [hR1,hR2,List.take_append_drop]
          rw [e1,e2]
          simp only [List.append_assoc]
        rw [← hL1,← hL2,← hR1,← hR2] at hcut
        have K0 : Hid (Cur w0 B q L c wr (A++L1++L2++R1++R2++S)):=Lib.hid (hX.out.eq hZ0)
        have k01 : ¬ (s < m∧m < e)→∀ W,Hid (Cur w0 B q L c W (A++L1++L2++R1++R2++S))→Hid (Cur w0 B q L c W (A++L1++R1++(L2++R2++S))):=fun hn W h => Lib.hid (h.out.eq (by
          by_cases h1 : s < m
          · rw [List.eq_nil_of_length_eq_zero (l:=R1) (by omega)];simp only [List.append_assoc,List.nil_append]
          · rw [List.eq_nil_of_length_eq_zero (l:=L2) (by omega)];simp only [List.append_assoc,List.nil_append]))
        have k12 : ¬ (a < s∧s < mid)→∀ W,Hid (Cur w0 B q L c W (A++L1++R1++(L2++R2++S)))→Hid (Cur w0 B q L c W (A++mrg lt L1 R1++(L2++R2++S))):=fun hn W h => Lib.hid (h.out.eq (by
          by_cases h1 : a < s
          · rw [List.eq_nil_of_length_eq_zero (l:=R1) (by omega),mrg_nil'];simp only [List.append_assoc,List.nil_append]
          · rw [List.eq_nil_of_length_eq_zero (l:=L1) (by omega),mrg_nil];simp only [List.append_assoc,List.nil_append]))
        have k23 : ¬ (mid < e∧e < b)→∀ W,Hid (Cur w0 B q L c W (A++mrg lt L1 R1++(L2++R2++S)))→Cur w0 B q L c W (A++mrg lt M R++S):=fun hn W h => h.out.eq (by
          rw [hcut]
          by_cases h1 : mid < e
          · rw [List.eq_nil_of_length_eq_zero (l:=R2) (by omega),mrg_nil'];simp only [List.append_assoc,List.nil_append]
          · rw [List.eq_nil_of_length_eq_zero (l:=L2) (by omega),mrg_nil];simp only [List.append_assoc,List.nil_append])
        have hml : (mrg lt L1 R1).length=L1.length + R1.length:=mrg_len _ _ _ rfl
        have ca:=fun (h1 : s < m) (h2 : m < e) W (h : Hid (Cur w0 B q L c W (A++L1++L2++R1++R2++S))) => Cur.rot (W:=W) A L1 L2 R1 R2 S s m e (.func (.func 56) #[] #[]) (by have:=HA.out;omega) (by omega) (by omega) (by omega) (by omega) hq hl h.out
        have cb:=fun (h1 : a < s) (h2 : s < mid) W (h : Hid (Cur w0 B q L c W (A++L1++R1++(L2++R2++S)))) => IH.out A L1 R1 (L2++R2++S) a s mid W (by omega) HA.out (by omega) (by omega) (by have:=HL.out;simp only [List.length_append];omega) h1 h2 o1 o3 (fun z hz => HPM.out z (List.mem_of_mem_take (hL1 ▸ hz))) (fun z hz => HPR.out z (List.mem_of_mem_take (hR1 ▸ hz))) h.out
        have cc:=fun (h1 : mid < e) (h2 : e < b) W (h : Hid (Cur w0 B q L c W (A++mrg lt L1 R1++(L2++R2++S)))) => IH.out (A++mrg lt L1 R1) L2 R2 S mid e b W (by omega) (by have:=HA.out;rw [List.length_append];omega) (by omega) (by omega) HL.out h1 h2 o2 o4 (fun z hz => HPM.out z (List.mem_of_mem_drop (hL2 ▸ hz))) (fun z hz => HPR.out z (List.mem_of_mem_drop (hR2 ▸ hz))) (h.out.eq (by simp only [List.append_assoc]))
        have hfin : ∀ W,Cur w0 B q L c W (A++mrg lt L1 R1++mrg lt L2 R2++S)→Cur w0 B q L c W (A++mrg lt M R++S):=fun W h => h.eq (by rw [hcut];simp only [List.append_assoc])
        have Ca:=Lib.hid ca
        have Cb:=Lib.hid cb
        have Cc:=Lib.hid cc
        have K01:=Lib.hid k01
        have K12:=Lib.hid k12
        have K23:=Lib.hid k23
        have Hfin:=Lib.hid hfin
        have He:=Lib.hid he
        clear ca cb cc k01 k12 k23 hfin hcut hZ0 he hX hS l1 l2 l3 l4 o1 o2 o3 o4 hml hL1 hL2 hR1 hR2
        rcases Nat.lt_or_ge a s with h1|h1 <;> rcases Nat.lt_or_ge s m with h2|h2 <;> rcases Nat.lt_or_ge m e with h3|h3 <;> rcases Nat.lt_or_ge e b with h4|h4 <;> rcases Nat.lt_or_ge s mid with h5|h5 <;> rcases Nat.lt_or_ge mid e with h6|h6
        all_goals first
          | (exfalso;omega)
          | (have hsum2:=Lib.hid hsum
             clear hsum
             go_wp2_with (first
              | (go_at_call 119;((with_reducible refine (Ca.out h2 h3 _ K0).mono ?_);rintro x w5 ⟨rfl,hc5⟩;have K1:=Lib.hid hc5;clear hc5))
              | (go_at_call 101;first
                | ((with_reducible refine (Cb.out h1 h5 _ K1).mono ?_);rintro x w6 ⟨rfl,hc6⟩;have K2:=Lib.hid hc6;clear hc6)
                | ((with_reducible refine (Cb.out h1 h5 _ (K01.out (by omega) _ K0)).mono ?_);rintro x w6 ⟨rfl,hc6⟩;have K2:=Lib.hid hc6;clear hc6)
                | ((with_reducible refine (Cc.out h6 h4 _ K2).mono ?_);rintro x w7 ⟨rfl,hc7⟩;have K3:=Lib.hid hc7;clear hc7)
                | ((with_reducible refine (Cc.out h6 h4 _ (K12.out (by omega) _ K1)).mono ?_);rintro x w7 ⟨rfl,hc7⟩;have K3:=Lib.hid hc7;clear hc7)
                | ((with_reducible refine (Cc.out h6 h4 _ (K12.out (by omega) _ (K01.out (by omega) _ K0))).mono ?_);rintro x w7 ⟨rfl,hc7⟩;have K3:=Lib.hid hc7;clear hc7)))
             go_end0
             refine ⟨rfl,?_⟩
             first
              | exact Hfin.out _ K3.out
              | exact K23.out (by omega) _ K2
              | exact K23.out (by omega) _ (K12.out (by omega) _ K1)
              | exact K23.out (by omega) _ (K12.out (by omega) _ (K01.out (by omega) _ K0)))
  · have h0 : St0 a m b mid n a m:=Or.inr ⟨hg,rfl,rfl⟩
    have hrange : ∀ c' : Nat,a≤c'→c' < m→m≤p - c'∧p - c' < b∧c'≤p∧c' < m:=fun c' h1 h2 => by have:=Hn.out;have:=Hmid.out;have:=Hp.out;omega
    have Hrange:=Lib.hid hrange
    have H0:=Lib.hid h0
    clear hrange h0
    go_enter Tryd.func101,Tryd.ntmps101
    go_wp2
    go_loopw [20,21] (fun u v wr => ∃ (s r : Nat),u=.int .i64 (s : Int)∧v=.int .i64 (r : Int)∧a≤s∧s≤r∧r≤m∧Hid (Srch lt (A++M++R++S) a m n s r)∧Hid (Cur w0 B q L c wr (A++M++R++S))) (fun u v _ => (intOf v).toNat - (intOf u).toNat)
    case atStart => exact ⟨a,m,rfl,rfl,by omega,by omega,by omega,Lib.hid ⟨Or.inl rfl,Or.inl rfl⟩,HX⟩
    case round =>
      clear HX
      obtain ⟨s,r,rfl,rfl,hs0,hsr,hr0,hS,hX⟩:=hrel
      by_cases hlt : s < r
      · obtain ⟨h,hh⟩ : ∃ h : Nat,h=(s + r) / 2:=⟨_,rfl⟩
        have hh2 : ((s : Int) + r) / 2=(h : Int):=by omega
        have hih : s≤h:=by omega
        have hhj : h < r:=by omega
        obtain ⟨k1,k2,k3,k4⟩:=Hrange.out h (by omega) (by omega)
        obtain ⟨g,hg2⟩ : ∃ g : Nat,g=p - h:=⟨_,rfl⟩
        have hgw : wrap64 ((p : Int) - h)=(g : Int):=by unfold wrap64;have:=Hp.out;have:=Hn.out;omega
        have hgw2 : IntKind.i64.wrap ((p : Int) - h)=(g : Int):=(i64_w _).trans hgw
        have hhL : h < L:=by omega
        have hgL : g < L:=by omega
        obtain ⟨y,hy⟩ : ∃ y,y=Zq (A++M++R++S) (g : Int):=⟨_,rfl⟩
        obtain ⟨z,hz⟩ : ∃ z,z=Zq (A++M++R++S) (h : Int):=⟨_,rfl⟩
        have c1 : ∀ W,RowS W B (.slice (some ⟨q,0,none⟩) L c) (A++M++R++S)→W.cell? ⟨q,g * 2,none⟩=some (.string y.f0)∧W.cell? ⟨q,g * 2 + 1,none⟩=some (.string y.f1)∧W.frozen? ⟨q,g * 2,none⟩=false∧W.frozen? ⟨q,g * 2 + 1,none⟩=false:=fun W hW => by
          rw [hy]
          exact hW.cell g (by omega)
        have c2 : ∀ W,RowS W B (.slice (some ⟨q,0,none⟩) L c) (A++M++R++S)→W.cell? ⟨q,h * 2,none⟩=some (.string z.f0)∧W.cell? ⟨q,h * 2 + 1,none⟩=some (.string z.f1)∧W.frozen? ⟨q,h * 2,none⟩=false∧W.frozen? ⟨q,h * 2 + 1,none⟩=false:=fun W hW => by
          rw [hz]
          exact hW.cell h (by omega)
        have py : P y:=HPR.out y (by rw [hy,hg2];exact rd_M (A++M) R S m (p - h) (by have:=HA.out;have:=HM.out;rw [List.length_append];omega) k1 (by have:=HBb.out;omega))
        have pz : P z:=HPM.out z (by rw [hz,List.append_assoc];exact rd_M A M (R++S) a h HA.out (by omega) (by have:=HM.out;omega))
        have HY:=Lib.hid hy
        have HZ:=Lib.hid hz
        have Hg2:=Lib.hid hg2
        have C1:=Lib.hid c1
        have C2:=Lib.hid c2
        clear hy hz hh hg2 c1 c2 k1 k2 k3
        go_wp2_with fail
        refine start_ (n:=14) (S:=(fun w' => Cur w0 B q L c w' (A++M++R++S))) (ds:=[]) #[false,false,false,false,false,false,false,false,false,false,false,false,false,false] (by kernel_rfl) rfl rfl ⟨Kd.Zt hX.out.1,Zc hX.out.2⟩ (fun hHeld => ?_)
        refine pure_ (i:=0) (N:=some 158) (v:=?_) (a':=?_) #[true,false,false,false,false,false,false,false,false,false,false,false,false,false] rfl rfl (by kernel_rfl) (fun _ _ _ h => h) (Or.inl ⟨by rfl,?_⟩) ?_ ?_
        rotate_left
        · intro w'
          go_simp
          with_reducible rfl
        rotate_left
        · simp only [Act.put,List.setIfInBounds_toArray,List.set_cons_zero,List.set_cons_succ,i64_w,i32_w]
          rfl
        refine pure_ (i:=1) (N:=some 159) (v:=?_) (a':=?_) #[true,true,false,false,false,false,false,false,false,false,false,false,false,false] rfl rfl (by kernel_rfl) (fun _ _ _ h => h) (Or.inl ⟨by rfl,?_⟩) ?_ ?_
        rotate_left
        · intro w'
          go_simp
          with_reducible rfl
        rotate_left
        · simp only [Act.put,List.setIfInBounds_toArray,List.set_cons_zero,List.set_cons_succ,i64_w,i32_w]
          rfl
        refine pure_ (i:=2) (N:=some 160) (v:=?_) (a':=?_) #[true,true,true,false,false,false,false,false,false,false,false,false,false,false] rfl rfl (by kernel_rfl) (fun _ _ _ h => h) (Or.inl ⟨by rfl,?_⟩) ?_ ?_
        rotate_left
        · intro w'
          go_simp
          with_reducible rfl
        rotate_left
        · simp only [Act.put,List.setIfInBounds_toArray,List.set_cons_zero,List.set_cons_succ,i64_w,i32_w]
          rfl
        refine pure_ (i:=3) (N:=some 161) (v:=?_) (a':=?_) #[true,true,true,true,false,false,false,false,false,false,false,false,false,false] rfl rfl (by kernel_rfl) (fun _ _ _ h => h) (Or.inl ⟨by rfl,?_⟩) ?_ ?_
        rotate_left
        · intro w'
          go_simp
          with_reducible rfl
        rotate_left
        · simp only [Act.put,List.setIfInBounds_toArray,List.set_cons_zero,List.set_cons_succ,i64_w,i32_w]
          rfl
        refine pure_ (i:=4) (N:=some 162) (v:=?_) (a':=?_) #[true,true,true,true,true,false,false,false,false,false,false,false,false,false] rfl rfl (by kernel_rfl) (fun _ _ _ h => h) (Or.inl ⟨by rfl,?_⟩) ?_ ?_
        rotate_left
        · intro w'
          go_simp
          with_reducible rfl
        rotate_left
        · simp only [Act.put,List.setIfInBounds_toArray,List.set_cons_zero,List.set_cons_succ,i64_w,i32_w]
          rfl
        refine pure_ (i:=5) (N:=some 163) (v:=?_) (a':=?_) #[true,true,true,true,true,true,false,false,false,false,false,false,false,false] rfl rfl (by kernel_rfl) (fun _ _ _ h => h) (Or.inl ⟨by rfl,?_⟩) ?_ ?_
        rotate_left
        · intro w'
          go_simp
          with_reducible rfl
        rotate_left
        · simp only [Act.put,List.setIfInBounds_toArray,List.set_cons_zero,List.set_cons_succ,i64_w,i32_w]
          rfl
        refine pure_ (i:=7) (N:=some 165) (v:=?_) (a':=?_) #[true,true,true,true,true,true,false,true,false,false,false,false,false,false] rfl rfl (by kernel_rfl) (fun _ _ _ h => h) (Or.inl ⟨by rfl,?_⟩) ?_ ?_
        rotate_left
        · intro w'
          go_simp
          with_reducible rfl
        rotate_left
        · simp only [Act.put,List.setIfInBounds_toArray,List.set_cons_zero,List.set_cons_succ,i64_w,i32_w]
          rfl
        refine pure_ (i:=8) (N:=some 166) (v:=?_) (a':=?_) #[true,true,true,true,true,true,false,true,true,false,false,false,false,false] rfl rfl (by kernel_rfl) (fun _ _ _ h => h) (Or.inl ⟨by rfl,?_⟩) ?_ ?_
        rotate_left
        · intro w'
          go_simp
          with_reducible rfl
        rotate_left
        · simp only [Act.put,List.setIfInBounds_toArray,List.set_cons_zero,List.set_cons_succ,i64_w,i32_w]
          rfl
        refine pure_ (i:=9) (N:=some 167) (v:=?_) (a':=?_) #[true,true,true,true,true,true,false,true,true,true,false,false,false,false] rfl rfl (by kernel_rfl) (fun _ _ _ h => h) (Or.inl ⟨by rfl,?_⟩) ?_ ?_
        rotate_left
        · intro w'
          go_simp
          with_reducible rfl
        rotate_left
        · simp only [Act.put,List.setIfInBounds_toArray,List.set_cons_zero,List.set_cons_succ,i64_w,i32_w]
          rfl
        refine take_ (i:=6) (N:=some 164) (v:=?_) (a':=?_) #[true,true,true,true,true,true,true,true,true,true,false,false,false,false] rfl rfl (by kernel_rfl) (fun _ _ _ h => h) (Or.inl ⟨by rfl,?_⟩) hHeld ?_ ?_
        rotate_left
        · rintro w' ⟨s1,s2⟩
          obtain ⟨d0,d1,-,-⟩:=C1.out _ s1
          obtain ⟨e0,e1,-,-⟩:=C2.out _ s1
          go_simp
          with_reducible rfl
        rotate_left
        · simp only [Act.put,List.setIfInBounds_toArray,List.set_cons_zero,List.set_cons_succ,i64_w,i32_w]
          rfl
        refine take_ (i:=10) (N:=some 168) (v:=?_) (a':=?_) #[true,true,true,true,true,true,true,true,true,true,true,false,false,false] rfl rfl (by kernel_rfl) (fun _ _ _ h => h) (Or.inl ⟨by rfl,?_⟩) hHeld ?_ ?_
        rotate_left
        · rintro w' ⟨s1,s2⟩
          obtain ⟨d0,d1,-,-⟩:=C1.out _ s1
          obtain ⟨e0,e1,-,-⟩:=C2.out _ s1
          go_simp
          with_reducible rfl
        rotate_left
        · simp only [Act.put,List.setIfInBounds_toArray,List.set_cons_zero,List.set_cons_succ,i64_w,i32_w]
          rfl
        refine one_ (i:=11) (N:=some 169) #[true,true,true,true,true,true,true,true,true,true,true,true,false,false] rfl rfl (by kernel_rfl) (by decide) (fun K hK => ?_)
        refine goesV_ Tryd.func56 (by kernel_rfl) rfl #[.agg #[.string y.f0,.string y.f1],.agg #[.string z.f0,.string z.f1]] (by rfl) rfl rfl rfl (by first|rfl|(simp only [List.map_toArray,List.map_cons,List.map_nil];done)|(simp only [List.map_toArray,List.map_cons,List.map_nil];rfl)) ?_
        refine (HC.out _ y z py pz hHeld.2).mono ?_
        rintro _ w3 ⟨⟨ri,rfl,hr⟩,hb3⟩
        refine ⟨_,rfl,?_⟩
        refine hK.out _ _ (⟨RowS.below hHeld.1 hb3,Zf hHeld.2 hb3⟩) (fun hHeld => ?_)
        clear hK K
        refine norm_ (a':=?_) ?_ ?_
        rotate_left
        · show Act.put _ (some 169) _=_
          simp only [Act.put,List.setIfInBounds_toArray,List.set_cons_zero,List.set_cons_succ,i64_w,i32_w]
          rfl
        refine pure_ (i:=12) (N:=some 170) (v:=?_) (a':=?_) #[true,true,true,true,true,true,true,true,true,true,true,true,true,false] rfl rfl (by kernel_rfl) (fun _ _ _ h => h) (Or.inl ⟨by rfl,?_⟩) ?_ ?_
        rotate_left
        · intro w'
          go_simp
          with_reducible rfl
        rotate_left
        · simp only [Act.put,List.setIfInBounds_toArray,List.set_cons_zero,List.set_cons_succ,i64_w,i32_w]
          rfl
        refine pure_ (i:=13) (N:=some 171) (v:=?_) (a':=?_) #[true,true,true,true,true,true,true,true,true,true,true,true,true,true] rfl rfl (by kernel_rfl) (fun _ _ _ h => h) (Or.inl ⟨by rfl,?_⟩) ?_ ?_
        rotate_left
        · intro w'
          go_simp
          with_reducible rfl
        rotate_left
        · simp only [Act.put,List.setIfInBounds_toArray,List.set_cons_zero,List.set_cons_succ,i64_w,i32_w]
          rfl
        refine done_ (by kernel_rfl) ?_
        have hXo:=Lib.hid hHeld
        clear hHeld
        cases hcc : lt y z with
        | false =>
          have hr2 : decide (ri < 0)=false:=hr.trans hcc
          have hS2 : Hid (Srch lt (A++M++R++S) a m n (h + 1) r):=Lib.hid ⟨Or.inr (by
            have e1 : n - (h + 1)=g:=by have:=Hp.out;have:=Hg2.out;omega
            rw [e1,Nat.add_sub_cancel,← HY.out,← HZ.out]
            exact hcc),hS.out.high⟩
          clear hr hcc
          go_wp2
          exact ⟨⟨h + 1,r,by first|rfl|simp,rfl,by omega,by omega,by omega,hS2,hXo⟩,by simp [intOf];omega⟩
        | true =>
          have hr2 : decide (ri < 0)=true:=hr.trans hcc
          have hS2 : Hid (Srch lt (A++M++R++S) a m n s h):=Lib.hid ⟨hS.out.low,Or.inr (by
            have e1 : n - 1 - h=g:=by have:=Hp.out;have:=Hg2.out;omega
            rw [e1,← HY.out,← HZ.out]
            exact hcc)⟩
          clear hr hcc
          go_wp2
          exact ⟨⟨s,h,rfl,rfl,by omega,by omega,by omega,hS2,hXo⟩,by simp [intOf];omega⟩
      · obtain rfl : s=r:=by omega
        have hcut:=HE.out s a m H0.out (by omega) (by omega) hS.out
        obtain ⟨e,he⟩ : ∃ e : Nat,e=n - s:=⟨_,rfl⟩
        have hew : (n : Int) - s=(e : Int):=by have:=Hn.out;omega
        have hme : m≤e:=by have:=Hn.out;omega
        have heb : e≤b:=by have h00:=H0.out;unfold St0 at h00;have:=Hn.out;have:=Hmid.out;omega
        have hsmid0 : s≤mid:=by have h00:=H0.out;unfold St0 at h00;omega
        have hsmid:=hsmid0
        have hsum : mid + m=e + s:=by have:=Hn.out;omega
        have hsa : a≤s:=by omega
        have hsm : s≤m:=by omega
        rw [← he] at hcut
        obtain ⟨L1,hL1⟩ : ∃ L1,L1=M.take (s - a):=⟨_,rfl⟩
        obtain ⟨L2,hL2⟩ : ∃ L2,L2=M.drop (s - a):=⟨_,rfl⟩
        obtain ⟨R1,hR1⟩ : ∃ R1,R1=R.take (e - m):=⟨_,rfl⟩
        obtain ⟨R2,hR2⟩ : ∃ R2,R2=R.drop (e - m):=⟨_,rfl⟩
        have l1 : L1.length=s - a:=by have:=HM.out;rw [hL1,List.length_take];omega
        have l2 : L2.length=m - s:=by have:=HM.out;rw [hL2,List.length_drop];omega
        have l3 : R1.length=e - m:=by have:=HBb.out;rw [hR1,List.length_take];omega
        have l4 : R2.length=b - e:=by have:=HBb.out;rw [hR2,List.length_drop];omega
        have o1 : Ord lt L1:=hL1 ▸ List.Pairwise.sublist (List.take_sublist _ _) HOM.out
        have o2 : Ord lt L2:=hL2 ▸ List.Pairwise.sublist (List.drop_sublist _ _) HOM.out
        have o3 : Ord lt R1:=hR1 ▸ List.Pairwise.sublist (List.take_sublist _ _) HR.out
        have o4 : Ord lt R2:=hR2 ▸ List.Pairwise.sublist (List.drop_sublist _ _) HR.out
        have hZ0 : A++M++R++S=A++L1++L2++R1++R2++S:=by
          have e1 : M=L1++L2:=by rw [hL1,hL2,List.take_append_drop]
          have e2 : R=R1++R2:=by rw [hR1,hR2,List.take_append_drop]
          rw [e1,e2]
          simp only [List.append_assoc]
        rw [← hL1,← hL2,← hR1,← hR2] at hcut
        have K0 : Hid (Cur w0 B q L c wr (A++L1++L2++R1++R2++S)):=Lib.hid (hX.out.eq hZ0)
        have k01 : ¬ (s < m∧m < e)→∀ W,Hid (Cur w0 B q L c W (A++L1++L2++R1++R2++S))→Hid (Cur w0 B q L c W (A++L1++R1++(L2++R2++S))):=fun hn W h => Lib.hid (h.out.eq (by
          by_cases h1 : s < m
          · rw [List.eq_nil_of_length_eq_zero (l:=R1) (by omega)];simp only [List.append_assoc,List.nil_append]
          · rw [List.eq_nil_of_length_eq_zero (l:=L2) (by omega)];simp only [List.append_assoc,List.nil_append]))
        have k12 : ¬ (a < s∧s < mid)→∀ W,Hid (Cur w0 B q L c W (A++L1++R1++(L2++R2++S)))→Hid (Cur w0 B q L c W (A++mrg lt L1 R1++(L2++R2++S))):=fun hn W h => Lib.hid (h.out.eq (by
          by_cases h1 : a < s
          · rw [List.eq_nil_of_length_eq_zero (l:=R1) (by omega),mrg_nil'];simp only [List.append_assoc,List.nil_append]
          · rw [List.eq_nil_of_length_eq_zero (l:=L1) (by omega),mrg_nil];simp only [List.append_assoc,List.nil_append]))
        have k23 : ¬ (mid < e∧e < b)→∀ W,Hid (Cur w0 B q L c W (A++mrg lt L1 R1++(L2++R2++S)))→Cur w0 B q L c W (A++mrg lt M R++S):=fun hn W h => h.out.eq (by
          rw [hcut]
          by_cases h1 : mid < e
          · rw [List.eq_nil_of_length_eq_zero (l:=R2) (by omega),mrg_nil'];simp only [List.append_assoc,List.nil_append]
          · rw [List.eq_nil_of_length_eq_zero (l:=L2) (by omega),mrg_nil];simp only [List.append_assoc,List.nil_append])
        have hml : (mrg lt L1 R1).length=L1.length + R1.length:=mrg_len _ _ _ rfl
        have ca:=fun (h1 : s < m) (h2 : m < e) W (h : Hid (Cur w0 B q L c W (A++L1++L2++R1++R2++S))) => Cur.rot (W:=W) A L1 L2 R1 R2 S s m e (.func (.func 56) #[] #[]) (by have:=HA.out;omega) (by omega) (by omega) (by omega) (by omega) hq hl h.out
        have cb:=fun (h1 : a < s) (h2 : s < mid) W (h : Hid (Cur w0 B q L c W (A++L1++R1++(L2++R2++S)))) => IH.out A L1 R1 (L2++R2++S) a s mid W (by omega) HA.out (by omega) (by omega) (by have:=HL.out;simp only [List.length_append];omega) h1 h2 o1 o3 (fun z hz => HPM.out z (List.mem_of_mem_take (hL1 ▸ hz))) (fun z hz => HPR.out z (List.mem_of_mem_take (hR1 ▸ hz))) h.out
        have cc:=fun (h1 : mid < e) (h2 : e < b) W (h : Hid (Cur w0 B q L c W (A++mrg lt L1 R1++(L2++R2++S)))) => IH.out (A++mrg lt L1 R1) L2 R2 S mid e b W (by omega) (by have:=HA.out;rw [List.length_append];omega) (by omega) (by omega) HL.out h1 h2 o2 o4 (fun z hz => HPM.out z (List.mem_of_mem_drop (hL2 ▸ hz))) (fun z hz => HPR.out z (List.mem_of_mem_drop (hR2 ▸ hz))) (h.out.eq (by simp only [List.append_assoc]))
        have hfin : ∀ W,Cur w0 B q L c W (A++mrg lt L1 R1++mrg lt L2 R2++S)→Cur w0 B q L c W (A++mrg lt M R++S):=fun W h => h.eq (by rw [hcut];simp only [List.append_assoc])
        have Ca:=Lib.hid ca
        have Cb:=Lib.hid cb
        have Cc:=Lib.hid cc
        have K01:=Lib.hid k01
        have K12:=Lib.hid k12
        have K23:=Lib.hid k23
        have Hfin:=Lib.hid hfin
        have He:=Lib.hid he
        clear ca cb cc k01 k12 k23 hfin hcut hZ0 he hX hS l1 l2 l3 l4 o1 o2 o3 o4 hml hL1 hL2 hR1 hR2
        rcases Nat.lt_or_ge a s with h1|h1 <;> rcases Nat.lt_or_ge s m with h2|h2 <;> rcases Nat.lt_or_ge m e with h3|h3 <;> rcases Nat.lt_or_ge e b with h4|h4 <;> rcases Nat.lt_or_ge s mid with h5|h5 <;> rcases Nat.lt_or_ge mid e with h6|h6
        all_goals first
          | (exfalso;omega)
          | (have hsum2:=Lib.hid hsum
             clear hsum
             go_wp2_with (first
              | (go_at_call 119;((with_reducible refine (Ca.out h2 h3 _ K0).mono ?_);rintro x w5 ⟨rfl,hc5⟩;have K1:=Lib.hid hc5;clear hc5))
              | (go_at_call 101;first
                | ((with_reducible refine (Cb.out h1 h5 _ K1).mono ?_);rintro x w6 ⟨rfl,hc6⟩;have K2:=Lib.hid hc6;clear hc6)
                | ((with_reducible refine (Cb.out h1 h5 _ (K01.out (by omega) _ K0)).mono ?_);rintro x w6 ⟨rfl,hc6⟩;have K2:=Lib.hid hc6;clear hc6)
                | ((with_reducible refine (Cc.out h6 h4 _ K2).mono ?_);rintro x w7 ⟨rfl,hc7⟩;have K3:=Lib.hid hc7;clear hc7)
                | ((with_reducible refine (Cc.out h6 h4 _ (K12.out (by omega) _ K1)).mono ?_);rintro x w7 ⟨rfl,hc7⟩;have K3:=Lib.hid hc7;clear hc7)
                | ((with_reducible refine (Cc.out h6 h4 _ (K12.out (by omega) _ (K01.out (by omega) _ K0))).mono ?_);rintro x w7 ⟨rfl,hc7⟩;have K3:=Lib.hid hc7;clear hc7)))
             go_end0
             refine ⟨rfl,?_⟩
             first
              | exact Hfin.out _ K3.out
              | exact K23.out (by omega) _ K2
              | exact K23.out (by omega) _ (K12.out (by omega) _ K1)
              | exact K23.out (by omega) _ (K12.out (by omega) _ (K01.out (by omega) _ K0)))
end FC
end Go.Proofs.YtfbgmlophkbejaaDoor
set_option linter.unusedVariables false
set_option linter.unusedSimpArgs false
namespace Go.Proofs.YtfbgmlophkbejaaDoor
open Go.RowKit Go.Proofs.YtfbgmlophkbejaaDoorW.PrintWords Go.Proofs.YtfbgmlophkbejaaDoorW.PrintLast Go.Proofs.YtfbgmlophkbejaaDoorQ.Pfa
namespace FC
open Sr
variable {lt : S46→S46→Bool}
theorem sym_all {P : S46→Prop} (w : WO lt) (q c B L : Nat) (w0 : World) (hq : w0.heap.size≤q) (hc : CmpOk P lt w0) (hl : L≤1073741824) : ∀ N,SymSpec P lt w0 B q L c N:=by
  intro N
  induction N with
  | zero => intro A M R S a m b W h1 h2 h3 h4 h5 h6 h7;omega
  | succ N ih =>
    intro A M R S a m b W h1 h2 h3 h4 h5 h6 h7 h8 h9 hpm hpr h10
    by_cases hm : m=a + 1
    · obtain ⟨x,rfl⟩ : ∃ x,M=[x]:=List.length_eq_one_iff.1 (by omega)
      have:=sym1_any w A R S x a m b L h2 hm h4 h5 h9 q c B w0 W (by have:=h10.1;simpa using this) h10.2 hq hc (hpm x (by simp)) hpr hl
      exact this
    · by_cases hb : b=m + 1
      · obtain ⟨y,rfl⟩ : ∃ y,R=[y]:=List.length_eq_one_iff.1 (by omega)
        have:=sym2_any w A M S y a m b L h2 h3 (by omega) hb h5 h8 q c B w0 W (by have:=h10.1;simpa using this) h10.2 hq hc (hpr y (by simp)) hpm hl
        exact this
      · exact sym3_any w A M R S a m b L N h2 h3 (by omega) h4 (by omega) h5 h8 h9 q c B w0 W h10 hq hc hpm hpr hl h1 ih
theorem ins_cur {P : S46→Prop} (w : WO lt) (A M S : List S46) (a b L : Nat) (ha : A.length=a) (hb : b=a + M.length) (hL : L=b + S.length) (q c B : Nat) (w0 W : World) (hX : Cur w0 B q L c W (A++M++S)) (hq : w0.heap.size≤q) (hc : CmpOk P lt w0) (hP : ∀ z ∈ M,P z) (hl : L≤1073741824) :
    Calls Tryd.prog 100 #[.slice (some ⟨q,0,none⟩) L c,.int .i64 (a : Int),.int .i64 (b : Int),.func (.func 56) #[] #[]] W fun e w' => e=.returned (.tuple #[])∧Cur w0 B q L c w' (A++srt lt M++S):=by
  subst hb
  exact insS_any w A M S a M.length L ha rfl (by omega) q c B w0 W hX.1 hX.2 hq hc hP hl
set_option maxRecDepth 100000 in
set_option maxHeartbeats 40000000 in
theorem stab_any {P : S46→Prop} (w : WO lt) (l : List S46) (L : Nat) (hL : l.length=L) (q c B : Nat) (w0 W0 : World) (hX : Cur w0 B q L c W0 l) (hq : w0.heap.size≤q) (hc : CmpOk P lt w0) (hP : ∀ z ∈ l,P z) (hl : L≤1048576) :
    Calls Tryd.prog 80 #[.slice (some ⟨q,0,none⟩) L c,.int .i64 (L : Int),.func (.func 56) #[] #[]] W0 fun e w' => e=.returned (.tuple #[])∧Cur w0 B q L c w' (srt lt l):=by
  have HX:=Lib.hid hX
  have hIns:=fun (A M S : List S46) (a b : Nat) (ha : A.length=a) (hb : b=a + M.length) (hL : L=b + S.length) (hPM : ∀ z ∈ M,P z) W hX => ins_cur w A M S a b L ha hb hL q c B w0 W hX hq hc hPM (by omega)
  have hSym:=sym_all (lt:=lt) w q c B L w0 hq hc (by omega) L
  have HIns:=Lib.hid hIns
  have HSym:=Lib.hid hSym
  have HL:=Lib.hid hL
  have HP:=Lib.hid hP
  have hst : Hid (In0 lt l 0 l):=Lib.hid (In0.start l)
  clear hX hIns hSym hc hL hP
  go_enter Tryd.func80,Tryd.ntmps80
  go_wp2
  go_loopw [7,8] (fun u v wr => ∃ (a b : Nat) (X : List S46),u=.int .i64 (a : Int)∧v=.int .i64 (b : Int)∧Hid (b=a + 20)∧a≤L∧Hid (In0 lt l a X)∧Hid (Cur w0 B q L c wr X)) (fun u _ _ => L + 20 - (intOf u).toNat)
  case atStart => exact ⟨0,20,l,rfl,rfl,Lib.hid rfl,by omega,hst,HX⟩
  case round =>
    clear hst HX
    obtain ⟨a,b,X,rfl,rfl,hb,ha,hS,hX⟩:=hrel
    by_cases hbL : b≤L
    · obtain ⟨A,M,S,h1,h2,h3,h4,hmm,h5⟩:=hS.out.more (by have:=HL.out;have:=hb.out;omega)
      have hi:=HIns.out A M S a b h2 (by have:=hb.out;omega) (by have:=HL.out;have:=hb.out;omega) (fun z hz => HP.out z (hmm z hz)) wr (hX.out.eq h1)
      have Hi:=Lib.hid hi
      have hn : Hid (In0 lt l b (A++srt lt M++S)):=Lib.hid (by rw [hb.out];exact h5)
      clear hi h1 h2 h3 h4 h5 hS hX
      go_wp2_with (go_at_call 100;go_loud ((with_reducible refine (Hi.out).mono ?_);rintro x w5 ⟨rfl,hc5⟩;have K5:=Lib.hid hc5;clear hc5))
      exact ⟨⟨b,b + 20,_,rfl,by first|rfl|simp,Lib.hid rfl,by omega,hn,K5⟩,by have:=hb.out;simp [intOf];omega⟩
    · obtain ⟨A,M,h1,h2,h3,hmm,h4⟩:=hS.out.done (by have:=HL.out;have:=hb.out;omega)
      have hi:=HIns.out A M [] a L h2 (by have:=HL.out;omega) (by simp) (fun z hz => HP.out z (hmm z hz)) wr (hX.out.eq h1)
      have Hi:=Lib.hid hi
      have hn : Hid (St lt 20 l (A++srt lt M++[])):=Lib.hid h4
      clear hi h1 h2 h3 h4 hS hX
      generalize A++srt lt M++[]=Y at *
      go_wp2_with (go_at_call 100;go_loud ((with_reducible refine (Hi.out).mono ?_);rintro x w5 ⟨rfl,hc5⟩;have K5:=Lib.hid hc5;clear hc5))
      go_loopw [6] (fun u wq => ∃ (s : Nat) (X : List S46),u=.int .i64 (s : Int)∧1≤s∧s≤2097152∧Hid (St lt s l X)∧Hid (Cur w0 B q L c wq X)) (fun u _ => L - (intOf u).toNat)
      case atStart => exact ⟨20,Y,rfl,by omega,by omega,hn,K5⟩
      case round =>
        clear hn K5 Hi
        obtain ⟨s,X,rfl,hs1,hs2,hS,hX⟩:=hrel
        by_cases hsL : s < L
        · have hst2 : Hid (In1 lt s l 0 X):=Lib.hid hS.out.start
          obtain ⟨s2,hs2e⟩ : ∃ s2 : Nat,s2=2 * s:=⟨_,rfl⟩
          have hs2w : (2 : Int) * s=(s2 : Int):=by omega
          have hs2w' : (s : Int) * 2=(s2 : Int):=by omega
          have hs2b : s2≤2097152:=by omega
          have Hs2:=Lib.hid hs2e
          clear hS hs2e
          go_wp2
          go_loopw [7,8] (fun u v wv => ∃ (a b : Nat) (Z : List S46),u=.int .i64 (a : Int)∧v=.int .i64 (b : Int)∧Hid (b=a + s2)∧a≤L∧Hid (In1 lt s l a Z)∧Hid (Cur w0 B q L c wv Z)) (fun u _ _ => L + s2 - (intOf u).toNat)
          case atStart => exact ⟨0,s2,X,rfl,rfl,Lib.hid (by omega),by omega,hst2,hX⟩
          case round =>
            clear hst2 hX
            obtain ⟨a,b,Z,rfl,rfl,hb,ha,hZ,hX⟩:=hrel
            obtain ⟨m,hm⟩ : ∃ m : Nat,m=a + s:=⟨_,rfl⟩
            have hmw : (a : Int) + s=(m : Int):=by omega
            have hmb : m≤4194304:=by omega
            by_cases hbL : b≤L
            · obtain ⟨A,M,R,S,h1,h2,h3,h4,h5,h6,hmm,h7⟩:=hZ.out.more w (by omega) (by have:=HL.out;have:=hb.out;have:=Hs2.out;omega)
              have e1:=hb.out
              have e2:=Hs2.out
              have hlen:=congrArg List.length h1
              have hZL : Z.length=L:=(Kd.R_reads' hX.out.1).1.symm
              simp only [List.length_append] at hlen
              have hi:=HSym.out A M R S a m b wr (by omega) h2 (by omega) (by omega) (by omega) (by omega) (by omega) h5 h6 (fun z hz => HP.out z (hmm.1 z hz)) (fun z hz => HP.out z (hmm.2 z hz)) (hX.out.eq h1)
              have Hi:=Lib.hid hi
              have hn : Hid (In1 lt s l b (A++mrg lt M R++S)):=Lib.hid (by rw [show b=a + 2 * s by omega];exact h7)
              have Hm:=Lib.hid hm
              clear hi h1 h2 h3 h4 h5 h6 h7 hZ hX e1 e2 hlen hZL hm
              go_wp2_with (go_at_call 101;go_loud ((with_reducible refine (Hi.out).mono ?_);rintro x w6 ⟨rfl,hc6⟩;have K6:=Lib.hid hc6;clear hc6))
              exact ⟨⟨b,b + s2,_,rfl,by first|rfl|simp,Lib.hid rfl,by omega,hn,K6⟩,by have:=hb.out;have:=Hs2.out;simp [intOf];omega⟩
            · by_cases hmL : m < L
              · obtain ⟨A,M,R,h1,h2,h3,h4,h5,h6,hmm,h7⟩:=hZ.out.last w (by omega) (by have:=HL.out;have:=hb.out;have:=Hs2.out;omega) (by have:=HL.out;omega)
                have e1:=HL.out
                have hi:=HSym.out A M R [] a m L wr (by omega) h2 (by omega) (by omega) (by simp) (by omega) (by omega) h5 h6 (fun z hz => HP.out z (hmm.1 z hz)) (fun z hz => HP.out z (hmm.2 z hz)) (hX.out.eq h1)
                have Hi:=Lib.hid hi
                have hn : Hid (St lt s2 l (A++mrg lt M R++[])):=Lib.hid (by rw [Hs2.out];exact h7)
                have Hm:=Lib.hid hm
                clear hi h1 h2 h3 h4 h5 h6 h7 hZ hX e1 hm
                generalize A++mrg lt M R++[]=Y2 at *
                go_wp2_with (go_at_call 101;go_loud ((with_reducible refine (Hi.out).mono ?_);rintro x w6 ⟨rfl,hc6⟩;have K6:=Lib.hid hc6;clear hc6))
                exact ⟨⟨s2,Y2,by first|rfl|simp,by have:=Hs2.out;omega,by omega,hn,K6⟩,by have:=Hs2.out;simp [intOf];omega⟩
              · have hn : Hid (St lt s2 l Z):=Lib.hid (by rw [Hs2.out];exact hZ.out.done (by omega) (by have:=HL.out;omega) (by have:=HL.out;omega))
                have Hm:=Lib.hid hm
                clear hZ hm
                go_wp2
                exact ⟨⟨s2,Z,by first|rfl|simp,by have:=Hs2.out;omega,by omega,hn,hX⟩,by have:=Hs2.out;simp [intOf];omega⟩
        · have hfin:=hS.out.done (by have:=HL.out;omega)
          have hX2:=Lib.hid (hX.out.eq hfin)
          clear hfin hX hS
          go_wp2
          go_end0
          exact ⟨rfl,hX2.out⟩
end FC
end Go.Proofs.YtfbgmlophkbejaaDoor
