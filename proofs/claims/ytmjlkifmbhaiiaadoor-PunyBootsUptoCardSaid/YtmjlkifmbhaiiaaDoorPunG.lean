/- Puny: a number read, by the program. -/
import Derived.Test.YtmjlkifmbhaiiaaDoorPunA
set_option linter.unusedVariables false
set_option linter.unusedSimpArgs false
namespace Go.Proofs.YtmjlkifmbhaiiaaDoor
open Go.RowKit Go.Proofs.YtmjlkifmbhaiiaaDoorW.PrintWords Go.Proofs.YtmjlkifmbhaiiaaDoorW.PrintLast Go.Proofs.YtmjlkifmbhaiiaaDoorQ.Pb
abbrev rdrA (p : Bt) (s : ByteArray) (a : Int) (out : Value) (n i bias : Int) : Array Value:=#[.int .i64 p.base,.int .i64 p.least,.int .i64 p.most,.int .i64 p.skew,.int .i64 p.damp,.int .i64 p.bias,.int .i64 p.first,.int .u8 p.btw,.string s,.int .i64 a,out,.int .i64 n,.int .i64 i,.int .i64 bias]
theorem rdrCells {w : World} {g : Nat} {ty : TypeId} {p : Bt} {s : ByteArray} {a n i bias : Int} {out : Value} (h : Blk w g ty (rdrA p s a out n i bias)) :
  w.cell? ⟨g,0,none⟩=some (.int .i64 p.base)∧w.cell? ⟨g,1,none⟩=some (.int .i64 p.least)∧w.cell? ⟨g,2,none⟩=some (.int .i64 p.most)∧w.cell? ⟨g,3,none⟩=some (.int .i64 p.skew) ∧
  w.cell? ⟨g,4,none⟩=some (.int .i64 p.damp)∧w.cell? ⟨g,5,none⟩=some (.int .i64 p.bias)∧w.cell? ⟨g,6,none⟩=some (.int .i64 p.first)∧w.cell? ⟨g,7,none⟩=some (.int .u8 p.btw) ∧
  w.cell? ⟨g,8,none⟩=some (.string s)∧w.cell? ⟨g,9,none⟩=some (.int .i64 a)∧w.cell? ⟨g,10,none⟩=some out∧w.cell? ⟨g,11,none⟩=some (.int .i64 n)∧w.cell? ⟨g,12,none⟩=some (.int .i64 i)∧w.cell? ⟨g,13,none⟩=some (.int .i64 bias) :=
 ⟨h.cell 0,h.cell 1,h.cell 2,h.cell 3,h.cell 4,h.cell 5,h.cell 6,h.cell 7,h.cell 8,h.cell 9,h.cell 10,h.cell 11,h.cell 12,h.cell 13⟩
def NumSuch (p : Bt) (s : ByteArray) (out : Value) (n bias : Int) (R : Int × Int × Int × List Int) (g : Nat) (w : World) (e : Ending) (w' : World) : Prop :=
 ∃ a2 i2 : Int,e=.returned (.tuple #[.int .i64 (if R.1=0 then 0 else R.2.1),.int .i64 R.1])∧Blk w' g 72 (rdrA p s a2 out n i2 bias)∧Below g w w'∧KeepBut w w' g none∧(R.1=0→a2=R.2.1∧i2=R.2.2.1)
theorem drop_bt (s : ByteArray) (a : Int) (h0 : 0≤a) (h1 : a < s.size) : (bytesOf s).drop a.toNat=bt s a :: (bytesOf s).drop (a + 1).toNat:=by
 have hl : a.toNat < (bytesOf s).length:=by rw [bytesOf_length];omega
 rw [List.drop_eq_getElem_cons hl,show (a + 1).toNat=a.toNat + 1 by omega]
 congr 1
 rw [← rd_bytesOf]
 simp [rd,List.getD_eq_getElem?_getD,List.getElem?_eq_getElem hl]
theorem drop_end (s : ByteArray) : (bytesOf s).drop (s.size : Int).toNat=[]:=List.drop_of_length_le (by rw [bytesOf_length];omega)
set_option maxRecDepth 100000 in
set_option maxHeartbeats 16000000 in
theorem number_any {p : Bt} (hp : p.Ok) (s : ByteArray) (a : Int) (out : Value) (n i bias : Int) (g : Nat) (w : World) (hs : s.size≤1073741824) (h0 : 0≤a) (h1 : a≤s.size) (hi0 : 0≤i) (hi1 : i≤2147483647) (hb0 : -1073741824≤bias) (hb1 : bias≤1099511627776)
  (hb : Blk w g 72 (rdrA p s a out n i bias)) : Calls Tryd.prog 58 #[.pointer (some ⟨g,0,none⟩)] w (NumSuch p s out n bias (num p bias ((bytesOf s).drop a.toNat) a i 1 p.base) g w):=by
 have b0:=hp.base0
 have b1:=hp.base1
 obtain ⟨R,hR⟩ : ∃ R,num p bias ((bytesOf s).drop a.toNat) a i 1 p.base=R:=⟨_,rfl⟩
 rw [hR]
 have HR:=Lib.hid hR
 have HP:=Lib.hid hp
 clear hR hp
 obtain ⟨c0,c1,c2,c3,c4,c5,c6,c7,c8,c9,c10,c11,c12,c13⟩:=rdrCells hb
 go_enter Tryd.func58,Tryd.ntmps58
 go_wp2
 go_loopw [4,5] (fun u v wr => ∃ (a i wt k : Int),u=.int .i64 wt∧v=.int .i64 k∧0≤a∧a≤s.size∧0≤i∧i≤2147483647∧1≤wt∧wt≤2147483647∧0≤k∧k≤36 * (a + 1)∧Hid (num p bias ((bytesOf s).drop a.toNat) a i wt k=R)∧Blk wr g 72 (rdrA p s a out n i bias)∧Below g w wr∧KeepBut w wr g none) (fun _ v _ => 36 * (s.size + 2) - (intOf v).toNat)
 case atStart => exact ⟨a,i,1,p.base,rfl,rfl,h0,h1,hi0,hi1,by omega,by omega,by omega,by omega,HR,hb,Below.refl _ _,KeepBut.refl _ _ _⟩
 case round =>
  clear HR hb c0 c1 c2 c3 c4 c5 c6 c7 c8 c9 c10 c11 c12 c13 h0 h1 hi0 hi1
  obtain ⟨a,i,wt,k,rfl,rfl,ha0,ha1,hi0,hi1,hw0,hw1,hk0,hk1,hR,hblk,hbel,hkp⟩:=hrel
  by_cases hlt : a < s.size
  ·have hR2:=hR.out
   rw [drop_bt s a ha0 hlt] at hR2
   unfold num at hR2
   have hbt:=bt_at s a
   have hbr:=bt_range s a
   have hdg:=dgt_range (p:=p) (bt s a)
   have hth:=thr_gap HP.out k bias
   have hD:=fun W => puny_boot_digit.calls 2 p.base p.least p.most p.skew p.damp p.bias p.first p.btw (bt s a) _ W (digit_is p 2 (Nat.le_refl _) (bt s a) hbr.1 hbr.2)
   have hT:=fun W => Yj.calls p.base p.least p.most p.skew p.damp p.bias p.first p.btw k bias _ W (threshold_is HP.out k bias (by omega) (by omega))
   generalize hd : dgt p (bt s a)=d at *
   generalize thr p k bias=t at *
   have HD:=Lib.hid hD
   have HT:=Lib.hid hT
   have hst : ∀ w1 w2 : World,(Blk w1 g 72 (rdrA p s a out n i bias)∧Below g w w1∧KeepBut w w1 g none)→Below w1.heap.size w1 w2→(Blk w2 g 72 (rdrA p s a out n i bias)∧Below g w w2∧KeepBut w w2 g none):=fun w1 w2 ⟨h1,h2,h3⟩ h => ⟨h1.after h,h2.trans (h.mono (Nat.le_of_lt h1.lt)),h3.trans (KeepBut.of_below h g none) (.inl rfl)⟩
   have HS:=Lib.hid hst
   have HR2:=Lib.hid hR2
   clear hD hT hR hR2 hst hd
   have hne : (a == (s.size : Int))=false:=beq_eq_false_iff_ne.2 (by omega)
   obtain ⟨c0,c1,c2,c3,c4,c5,c6,c7,c8,c9,c10,c11,c12,c13⟩:=rdrCells hblk
   go_upto_region 4 with (fail)
   go_quiet (fail)
   go_upto_region 7 with (fail)
   have hS1 : Blk (wr.drewN nq) g 72 (rdrA p s a out n i bias)∧Below g w (wr.drewN nq)∧KeepBut w (wr.drewN nq) g none:=⟨hblk.drewN nq,below_drewN hbel nq,keep_drewN hkp nq⟩
   clear c0 c1 c2 c3 c4 c5 c6 c7 c8 c9 c10 c11 c12 c13 hblk hbel hkp
   generalize wr.drewN nq=W1 at *
   refine start_ (n:=12) (S:=(fun w' => Blk w' g 72 (rdrA p s a out n i bias)∧Below g w w'∧KeepBut w w' g none)) (ds:=[]) #[false,false,false,false,false,false,false,false,false,false,false,false] (by kernel_rfl) rfl rfl ⟨hS1.1.drew,hS1.2.1.drew,keep_drew hS1.2.2⟩ (fun hHeld => ?_)
   refine pure_ (i:=0) (N:=some 39) (v:=?_) (a':=?_) #[true,false,false,false,false,false,false,false,false,false,false,false] rfl rfl (by kernel_rfl) (fun _ _ _ h => h) (Or.inl ⟨by rfl,?_⟩) ?_ ?_
   rotate_left
   ·intro w'
    go_simp
    with_reducible rfl
   rotate_left
   ·simp only [Act.put,List.setIfInBounds_toArray,List.set_cons_zero,List.set_cons_succ,i64_w,i32_w]
    rfl
   refine pure_ (i:=1) (N:=some 40) (v:=?_) (a':=?_) #[true,true,false,false,false,false,false,false,false,false,false,false] rfl rfl (by kernel_rfl) (fun _ _ _ h => h) (Or.inl ⟨by rfl,?_⟩) ?_ ?_
   rotate_left
   ·intro w'
    go_simp
    with_reducible rfl
   rotate_left
   ·simp only [Act.put,List.setIfInBounds_toArray,List.set_cons_zero,List.set_cons_succ,i64_w,i32_w]
    rfl
   refine pure_ (i:=2) (N:=some 41) (v:=?_) (a':=?_) #[true,true,true,false,false,false,false,false,false,false,false,false] rfl rfl (by kernel_rfl) (fun _ _ _ h => h) (Or.inl ⟨by rfl,?_⟩) ?_ ?_
   rotate_left
   ·intro w'
    go_simp
    with_reducible rfl
   rotate_left
   ·simp only [Act.put,List.setIfInBounds_toArray,List.set_cons_zero,List.set_cons_succ,i64_w,i32_w]
    rfl
   refine pure_ (i:=4) (N:=some 43) (v:=?_) (a':=?_) #[true,true,true,false,true,false,false,false,false,false,false,false] rfl rfl (by kernel_rfl) (fun _ _ _ h => h) (Or.inl ⟨by rfl,?_⟩) ?_ ?_
   rotate_left
   ·intro w'
    go_simp
    with_reducible rfl
   rotate_left
   ·simp only [Act.put,List.setIfInBounds_toArray,List.set_cons_zero,List.set_cons_succ,i64_w,i32_w]
    rfl
   refine pure_ (i:=5) (N:=some 44) (v:=?_) (a':=?_) #[true,true,true,false,true,true,false,false,false,false,false,false] rfl rfl (by kernel_rfl) (fun _ _ _ h => h) (Or.inl ⟨by rfl,?_⟩) ?_ ?_
   rotate_left
   ·intro w'
    go_simp
    with_reducible rfl
   rotate_left
   ·simp only [Act.put,List.setIfInBounds_toArray,List.set_cons_zero,List.set_cons_succ,i64_w,i32_w]
    rfl
   refine pure_ (i:=6) (N:=some 45) (v:=?_) (a':=?_) #[true,true,true,false,true,true,true,false,false,false,false,false] rfl rfl (by kernel_rfl) (fun _ _ _ h => h) (Or.inl ⟨by rfl,?_⟩) ?_ ?_
   rotate_left
   ·intro w'
    go_simp
    with_reducible rfl
   rotate_left
   ·simp only [Act.put,List.setIfInBounds_toArray,List.set_cons_zero,List.set_cons_succ,i64_w,i32_w]
    rfl
   refine pure_ (i:=8) (N:=some 47) (v:=?_) (a':=?_) #[true,true,true,false,true,true,true,false,true,false,false,false] rfl rfl (by kernel_rfl) (fun _ _ _ h => h) (Or.inl ⟨by rfl,?_⟩) ?_ ?_
   rotate_left
   ·intro w'
    go_simp
    with_reducible rfl
   rotate_left
   ·simp only [Act.put,List.setIfInBounds_toArray,List.set_cons_zero,List.set_cons_succ,i64_w,i32_w]
    rfl
   refine take_ (i:=3) (N:=some 42) (v:=?_) (a':=?_) #[true,true,true,true,true,true,true,false,true,false,false,false] rfl rfl (by kernel_rfl) (fun _ _ _ h => h) (Or.inl ⟨by rfl,?_⟩) hHeld ?_ ?_
   rotate_left
   ·rintro w' ⟨s0,s1,s2⟩
    obtain ⟨c0,c1,c2,c3,c4,c5,c6,c7,c8,c9,c10,c11,c12,c13⟩:=rdrCells s0
    go_simp
    with_reducible rfl
   rotate_left
   ·simp only [Act.put,List.setIfInBounds_toArray,List.set_cons_zero,List.set_cons_succ,i64_w,i32_w]
    rfl
   refine take_ (i:=7) (N:=some 46) (v:=?_) (a':=?_) #[true,true,true,true,true,true,true,true,true,false,false,false] rfl rfl (by kernel_rfl) (fun _ _ _ h => h) (Or.inl ⟨by rfl,?_⟩) hHeld ?_ ?_
   rotate_left
   ·rintro w' ⟨s0,s1,s2⟩
    obtain ⟨c0,c1,c2,c3,c4,c5,c6,c7,c8,c9,c10,c11,c12,c13⟩:=rdrCells s0
    go_simp
    with_reducible rfl
   rotate_left
   ·simp only [Act.put,List.setIfInBounds_toArray,List.set_cons_zero,List.set_cons_succ,i64_w,i32_w]
    rfl
   refine take_ (i:=9) (N:=some 48) (v:=?_) (a':=?_) #[true,true,true,true,true,true,true,true,true,true,false,false] rfl rfl (by kernel_rfl) (fun _ _ _ h => h) (Or.inl ⟨by rfl,?_⟩) hHeld ?_ ?_
   rotate_left
   ·rintro w' ⟨s0,s1,s2⟩
    obtain ⟨c0,c1,c2,c3,c4,c5,c6,c7,c8,c9,c10,c11,c12,c13⟩:=rdrCells s0
    go_simp
    with_reducible rfl
   rotate_left
   ·simp only [Act.put,List.setIfInBounds_toArray,List.set_cons_zero,List.set_cons_succ,i64_w,i32_w]
    rfl
   refine one_ (i:=10) (N:=some 49) #[true,true,true,true,true,true,true,true,true,true,true,false] rfl rfl (by kernel_rfl) (by decide) (fun K hK => ?_)
   refine goes_ Tryd.func39 (by kernel_rfl) rfl #[.agg (bootA p),.int .u8 (bt s a)] (by rfl) rfl rfl (by first|rfl|(simp only [List.map_toArray,List.map_cons,List.map_nil];done)|(simp only [List.map_toArray,List.map_cons,List.map_nil];rfl)) ?_
   refine (HD.out _).mono ?_
   rintro _ wq ⟨rfl,hbc⟩
   refine ⟨_,rfl,?_⟩
   refine hK.out _ _ (HS.out _ _ hHeld hbc) (fun hHeld => ?_)
   clear hK K
   refine norm_ (a':=?_) ?_ ?_
   rotate_left
   ·show Act.put _ (some 49) _=_
    simp only [Act.put,List.setIfInBounds_toArray,List.set_cons_zero,List.set_cons_succ,i64_w,i32_w]
    rfl
   refine pure_ (i:=11) (N:=some 7) (v:=?_) (a':=?_) #[true,true,true,true,true,true,true,true,true,true,true,true] rfl rfl (by kernel_rfl) (fun _ _ _ h => h) (Or.inl ⟨by rfl,?_⟩) ?_ ?_
   rotate_left
   ·intro w'
    go_simp
    with_reducible rfl
   rotate_left
   ·simp only [Act.put,List.setIfInBounds_toArray,List.set_cons_zero,List.set_cons_succ,i64_w,i32_w]
    rfl
   refine done_ (by kernel_rfl) ?_
   by_cases hd0 : d < 0
   ·have hh:=HR2.out
    rw [if_pos hd0] at hh
    have Hh:=Lib.hid hh
    have HH:=Lib.hid hHeld
    clear hh HR2 hHeld hS1
    go_wp2
    go_ret2
    rw [← Hh.out]
    exact ⟨a,i,rfl,HH.out.1,HH.out.2.1,HH.out.2.2,fun h => by cases h⟩
   ·have hh:=HR2.out
    rw [if_neg hd0] at hh
    have HR3:=Lib.hid hh
    have hM0 : 0≤d * wt:=Int.mul_nonneg (by omega) (by omega)
    have hM1 : d * wt≤35 * 2147483647:=Int.mul_le_mul (by omega) hw1 (by omega) (by omega)
    have q1 : wrap64 (d * wt)=d * wt:=w64 _ (by omega) (by omega)
    have q2 : wrap64 (i + d * wt)=i + d * wt:=w64 _ (by omega) (by omega)
    obtain ⟨c0,c1,c2,c3,c4,c5,c6,c7,c8,c9,c10,c11,c12,c13⟩:=rdrCells hHeld.1
    have f9:=hHeld.1.frozen 9
    have f12:=hHeld.1.frozen 12
    have HH:=Lib.hid hHeld
    clear hh HR2 hHeld hS1
    go_upto_region 12 with (fail)
    have hS2 : Blk ((wq.setCell ⟨g,9,none⟩ (.int .i64 (a + 1))).setCell ⟨g,12,none⟩ (.int .i64 (i + d * wt))) g 72 (rdrA p s (a + 1) out n (i + d * wt) bias)∧Below g w ((wq.setCell ⟨g,9,none⟩ (.int .i64 (a + 1))).setCell ⟨g,12,none⟩ (.int .i64 (i + d * wt)))∧KeepBut w ((wq.setCell ⟨g,9,none⟩ (.int .i64 (a + 1))).setCell ⟨g,12,none⟩ (.int .i64 (i + d * wt))) g none :=
     ⟨(HH.out.1.set_ 9 (.int .i64 (a + 1))).set_ 12 (.int .i64 (i + d * wt)),(HH.out.2.1.setCell (p:=⟨g,9,none⟩) (Nat.le_refl g) _).setCell (p:=⟨g,12,none⟩) (Nat.le_refl g) _,(HH.out.2.2.set_ 9 _).set_ 12 _⟩
    generalize (wq.setCell ⟨g,9,none⟩ (.int .i64 (a + 1))).setCell ⟨g,12,none⟩ (.int .i64 (i + d * wt))=W2 at *
    clear c0 c1 c2 c3 c4 c5 c6 c7 c8 c9 c10 c11 c12 c13 f9 f12 HH q1 q2
    generalize d * wt=M at *
    have hst2 : ∀ w1 w2 : World,(Blk w1 g 72 (rdrA p s (a + 1) out n (i + M) bias)∧Below g w w1∧KeepBut w w1 g none)→Below w1.heap.size w1 w2→(Blk w2 g 72 (rdrA p s (a + 1) out n (i + M) bias)∧Below g w w2∧KeepBut w w2 g none):=fun w1 w2 ⟨h1,h2,h3⟩ h => ⟨h1.after h,h2.trans (h.mono (Nat.le_of_lt h1.lt)),h3.trans (KeepBut.of_below h g none) (.inl rfl)⟩
    have HS2:=Lib.hid hst2
    clear hst2
    by_cases hov : 2147483647 < i + M
    ·have hh:=HR3.out
     rw [if_pos hov] at hh
     have Hh:=Lib.hid hh
     have HH:=Lib.hid hS2
     obtain ⟨c0,c1,c2,c3,c4,c5,c6,c7,c8,c9,c10,c11,c12,c13⟩:=rdrCells hS2.1
     clear hh HR3 hS2
     go_wp2
     go_ret2
     rw [← Hh.out]
     exact ⟨a + 1,i + M,rfl,HH.out.1,HH.out.2.1,HH.out.2.2,fun h => by cases h⟩
    ·have hh:=HR3.out
     rw [if_neg hov] at hh
     have HR4:=Lib.hid hh
     obtain ⟨c0,c1,c2,c3,c4,c5,c6,c7,c8,c9,c10,c11,c12,c13⟩:=rdrCells hS2.1
     clear hh HR3
     go_upto_region 14 with (fail)
     clear c0 c1 c2 c3 c4 c5 c6 c7 c8 c9 c10 c11 c12 c13
     refine start_ (n:=11) (S:=(fun w' => Blk w' g 72 (rdrA p s (a + 1) out n (i + M) bias)∧Below g w w'∧KeepBut w w' g none)) (ds:=[]) #[false,false,false,false,false,false,false,false,false,false,false] (by kernel_rfl) rfl rfl ⟨hS2.1.drew,hS2.2.1.drew,keep_drew hS2.2.2⟩ (fun hHeld => ?_)
     refine pure_ (i:=0) (N:=some 76) (v:=?_) (a':=?_) #[true,false,false,false,false,false,false,false,false,false,false] rfl rfl (by kernel_rfl) (fun _ _ _ h => h) (Or.inl ⟨by rfl,?_⟩) ?_ ?_
     rotate_left
     ·intro w'
      go_simp
      with_reducible rfl
     rotate_left
     ·simp only [Act.put,List.setIfInBounds_toArray,List.set_cons_zero,List.set_cons_succ,i64_w,i32_w]
      rfl
     refine pure_ (i:=1) (N:=some 77) (v:=?_) (a':=?_) #[true,true,false,false,false,false,false,false,false,false,false] rfl rfl (by kernel_rfl) (fun _ _ _ h => h) (Or.inl ⟨by rfl,?_⟩) ?_ ?_
     rotate_left
     ·intro w'
      go_simp
      with_reducible rfl
     rotate_left
     ·simp only [Act.put,List.setIfInBounds_toArray,List.set_cons_zero,List.set_cons_succ,i64_w,i32_w]
      rfl
     refine pure_ (i:=2) (N:=some 78) (v:=?_) (a':=?_) #[true,true,true,false,false,false,false,false,false,false,false] rfl rfl (by kernel_rfl) (fun _ _ _ h => h) (Or.inl ⟨by rfl,?_⟩) ?_ ?_
     rotate_left
     ·intro w'
      go_simp
      with_reducible rfl
     rotate_left
     ·simp only [Act.put,List.setIfInBounds_toArray,List.set_cons_zero,List.set_cons_succ,i64_w,i32_w]
      rfl
     refine pure_ (i:=4) (N:=some 80) (v:=?_) (a':=?_) #[true,true,true,false,true,false,false,false,false,false,false] rfl rfl (by kernel_rfl) (fun _ _ _ h => h) (Or.inl ⟨by rfl,?_⟩) ?_ ?_
     rotate_left
     ·intro w'
      go_simp
      with_reducible rfl
     rotate_left
     ·simp only [Act.put,List.setIfInBounds_toArray,List.set_cons_zero,List.set_cons_succ,i64_w,i32_w]
      rfl
     refine pure_ (i:=5) (N:=some 81) (v:=?_) (a':=?_) #[true,true,true,false,true,true,false,false,false,false,false] rfl rfl (by kernel_rfl) (fun _ _ _ h => h) (Or.inl ⟨by rfl,?_⟩) ?_ ?_
     rotate_left
     ·intro w'
      go_simp
      with_reducible rfl
     rotate_left
     ·simp only [Act.put,List.setIfInBounds_toArray,List.set_cons_zero,List.set_cons_succ,i64_w,i32_w]
      rfl
     refine pure_ (i:=6) (N:=some 82) (v:=?_) (a':=?_) #[true,true,true,false,true,true,true,false,false,false,false] rfl rfl (by kernel_rfl) (fun _ _ _ h => h) (Or.inl ⟨by rfl,?_⟩) ?_ ?_
     rotate_left
     ·intro w'
      go_simp
      with_reducible rfl
     rotate_left
     ·simp only [Act.put,List.setIfInBounds_toArray,List.set_cons_zero,List.set_cons_succ,i64_w,i32_w]
      rfl
     refine pure_ (i:=7) (N:=some 83) (v:=?_) (a':=?_) #[true,true,true,false,true,true,true,true,false,false,false] rfl rfl (by kernel_rfl) (fun _ _ _ h => h) (Or.inl ⟨by rfl,?_⟩) ?_ ?_
     rotate_left
     ·intro w'
      go_simp
      with_reducible rfl
     rotate_left
     ·simp only [Act.put,List.setIfInBounds_toArray,List.set_cons_zero,List.set_cons_succ,i64_w,i32_w]
      rfl
     refine take_ (i:=3) (N:=some 79) (v:=?_) (a':=?_) #[true,true,true,true,true,true,true,true,false,false,false] rfl rfl (by kernel_rfl) (fun _ _ _ h => h) (Or.inl ⟨by rfl,?_⟩) hHeld ?_ ?_
     rotate_left
     ·rintro w' ⟨s0,s1,s2⟩
      obtain ⟨c0,c1,c2,c3,c4,c5,c6,c7,c8,c9,c10,c11,c12,c13⟩:=rdrCells s0
      go_simp
      with_reducible rfl
     rotate_left
     ·simp only [Act.put,List.setIfInBounds_toArray,List.set_cons_zero,List.set_cons_succ,i64_w,i32_w]
      rfl
     refine take_ (i:=8) (N:=some 84) (v:=?_) (a':=?_) #[true,true,true,true,true,true,true,true,true,false,false] rfl rfl (by kernel_rfl) (fun _ _ _ h => h) (Or.inl ⟨by rfl,?_⟩) hHeld ?_ ?_
     rotate_left
     ·rintro w' ⟨s0,s1,s2⟩
      obtain ⟨c0,c1,c2,c3,c4,c5,c6,c7,c8,c9,c10,c11,c12,c13⟩:=rdrCells s0
      go_simp
      with_reducible rfl
     rotate_left
     ·simp only [Act.put,List.setIfInBounds_toArray,List.set_cons_zero,List.set_cons_succ,i64_w,i32_w]
      rfl
     refine one_ (i:=9) (N:=some 85) #[true,true,true,true,true,true,true,true,true,true,false] rfl rfl (by kernel_rfl) (by decide) (fun K hK => ?_)
     refine goes_ Tryd.func55 (by kernel_rfl) rfl #[.agg (bootA p),.int .i64 k,.int .i64 bias] (by rfl) rfl rfl (by first|rfl|(simp only [List.map_toArray,List.map_cons,List.map_nil];done)|(simp only [List.map_toArray,List.map_cons,List.map_nil];rfl)) ?_
     refine (HT.out _).mono ?_
     rintro _ wr2 ⟨rfl,hbc2⟩
     refine ⟨_,rfl,?_⟩
     refine hK.out _ _ (HS2.out _ _ hHeld hbc2) (fun hHeld => ?_)
     clear hK K
     refine norm_ (a':=?_) ?_ ?_
     rotate_left
     ·show Act.put _ (some 85) _=_
      simp only [Act.put,List.setIfInBounds_toArray,List.set_cons_zero,List.set_cons_succ,i64_w,i32_w]
      rfl
     refine pure_ (i:=10) (N:=some 8) (v:=?_) (a':=?_) #[true,true,true,true,true,true,true,true,true,true,true] rfl rfl (by kernel_rfl) (fun _ _ _ h => h) (Or.inl ⟨by rfl,?_⟩) ?_ ?_
     rotate_left
     ·intro w'
      go_simp
      with_reducible rfl
     rotate_left
     ·simp only [Act.put,List.setIfInBounds_toArray,List.set_cons_zero,List.set_cons_succ,i64_w,i32_w]
      rfl
     refine done_ (by kernel_rfl) ?_
     have HH:=Lib.hid hHeld
     clear hS2
     by_cases hdt : d < t
     ·have hh:=HR4.out
      rw [if_pos hdt] at hh
      have Hh:=Lib.hid hh
      clear hh HR4 hHeld
      go_wp2
      go_ret2
      rw [← Hh.out]
      exact ⟨a + 1,i + M,rfl,HH.out.1,HH.out.2.1,HH.out.2.2,fun _ => ⟨rfl,rfl⟩⟩
     ·have hh:=HR4.out
      rw [if_neg hdt] at hh
      have hw2 : 1≤wt * (p.base - t):=by
       have:=Int.mul_le_mul (a:=1) (c:=wt) (b:=1) (d:=p.base - t) hw0 (by omega) (by omega) (by omega)
       omega
      have hw3 : wt * (p.base - t)≤2147483647 * 36:=Int.mul_le_mul hw1 (by omega) (by omega) (by omega)
      have q1 : wrap64 (p.base - t)=p.base - t:=w64 _ (by omega) (by omega)
      have q2 : wrap64 (wt * (p.base - t))=wt * (p.base - t):=w64 _ (by omega) (by omega)
      have q3 : wrap64 (k + p.base)=k + p.base:=w64 _ (by omega) (by omega)
      obtain ⟨c0,c1,c2,c3,c4,c5,c6,c7,c8,c9,c10,c11,c12,c13⟩:=rdrCells hHeld.1
      by_cases hov2 : 2147483647 < wt * (p.base - t)
      ·rw [if_pos hov2] at hh
       have Hh:=Lib.hid hh
       clear hh HR4 hHeld
       go_wp2
       go_ret2
       rw [← Hh.out]
       exact ⟨a + 1,i + M,rfl,HH.out.1,HH.out.2.1,HH.out.2.2,fun h => by cases h⟩
      ·rw [if_neg hov2] at hh
       have Hh:=Lib.hid hh
       clear hh HR4 hHeld
       go_wp2
       exact ⟨⟨a + 1,i + M,wt * (p.base - t),k + p.base,rfl,rfl,by omega,by omega,by omega,by omega,hw2,by omega,by omega,by omega,Hh,HH.out.1,HH.out.2.1,HH.out.2.2⟩,by simp [intOf];omega⟩
  ·obtain rfl : a=s.size:=by omega
   have hR2:=hR.out
   rw [drop_end] at hR2
   unfold num at hR2
   have HR2:=Lib.hid hR2
   obtain ⟨c0,c1,c2,c3,c4,c5,c6,c7,c8,c9,c10,c11,c12,c13⟩:=rdrCells hblk
   go_upto_region 4 with (fail)
   go_quiet (fail)
   clear hR hR2
   go_wp2
   go_ret2
   rw [← HR2.out]
   exact ⟨s.size,i,rfl,hblk.drewN nq,below_drewN hbel nq,keep_drewN hkp nq,fun h => by cases h⟩
end Go.Proofs.YtmjlkifmbhaiiaaDoor
