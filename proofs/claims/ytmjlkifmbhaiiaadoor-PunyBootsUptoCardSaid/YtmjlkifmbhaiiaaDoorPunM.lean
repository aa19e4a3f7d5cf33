/- Puny: what a bootstring says, by the program. (Written by wip/gen/punm.py.) -/
import Derived.Test.YtmjlkifmbhaiiaaDoorPunK
import Derived.Test.YtmjlkifmbhaiiaaDoorPunL
import Derived.Test.YtmjlkifmbhaiiaaDoorShelf
import Derived.Lib.LastIndexByte
set_option linter.unusedVariables false
set_option linter.unusedSimpArgs false
namespace Go.Proofs.YtmjlkifmbhaiiaaDoor
open Go.RowKit Go.Proofs.YtmjlkifmbhaiiaaDoorW.PrintWords Go.Proofs.YtmjlkifmbhaiiaaDoorW.PrintLast Go.Proofs.YtmjlkifmbhaiiaaDoorQ.Pb
theorem dclo_any (p : Bt) (r : Int) (g : Nat) (w : World) (hb : Blk w g 59 (bootA p)) (hr : -2147483648≤r∧r≤2147483647) :
  Calls Tryd.prog 50 #[.int .i32 r,.pointer (some ⟨g,0,none⟩)] w fun e w' => e=.returned (.bool (!bas p r))∧Below w.heap.size w w':=by
 obtain ⟨c0,c1,c2,c3,c4,c5,c6,c7⟩:=bootCells hb
 have hB:=fun W => Yi.calls p.base p.least p.most p.skew p.damp p.bias p.first p.btw r _ W (basic_is p r hr)
 generalize bas p r=b at *
 have HB:=Lib.hid hB
 clear hB hb
 go_enter Tryd.func50,Tryd.ntmps50
 go_wp2_with (go_at_call 45;(with_reducible refine (HB.out _).mono ?_);rintro e w1 ⟨rfl,hb1⟩)
 go_ret
 exact ⟨rfl,hb1⟩
theorem lastP_spec (b : Int) : ∀ (l : List Int) (i a : Int),(lastP b l i a=a∧∀ j,j < l.length→rd l (j : Nat) ≠ b) ∨ (∃ j : Nat,j < l.length∧rd l (j : Nat)=b∧(∀ k : Nat,j < k→k < l.length→rd l (k : Nat) ≠ b)∧lastP b l i a=i + j)
 | [],i,a => Or.inl ⟨rfl,fun j h => by simp at h⟩
 | c :: l,i,a => by
  rw [lastP]
  have hs : ∀ j : Nat,rd (c :: l) ((j + 1 : Nat) : Int)=rd l (j : Nat):=fun j => by unfold rd;simp
  rcases lastP_spec b l (i + 1) (if c=b then i else a) with ⟨h1,h2⟩|⟨j,h1,h2,h3,h4⟩
  ·by_cases hc : c=b
   ·refine Or.inr ⟨0,by simp,by unfold rd;simpa using hc,fun k hk hl => ?_,by rw [h1,if_pos hc];simp⟩
    obtain ⟨k,rfl⟩ : ∃ m,k=m + 1:=⟨k - 1,by omega⟩
    rw [hs]
    exact h2 k (by simpa using hl)
   ·refine Or.inl ⟨by rw [h1,if_neg hc],fun j hj => ?_⟩
    cases j with
    | zero => unfold rd;simpa using hc
    | succ j => rw [hs];exact h2 j (by simpa using hj)
  ·refine Or.inr ⟨j + 1,by simpa using h1,by rw [hs];exact h2,fun k hk hl => ?_,by rw [h4];push_cast;omega⟩
   obtain ⟨k,rfl⟩ : ∃ m,k=m + 1:=⟨k - 1,by omega⟩
   rw [hs]
   exact h3 k (by omega) (by simpa using hl)
theorem get_bt (s : ByteArray) (j : Nat) (h : j < s.size) : ((s.data[j]!).toNat : Int)=rd (bytesOf s) (j : Nat):=by
 rw [rd_bytesOf]
 have:=bt_at s (j : Int)
 simp only [Int.toNat_natCast] at this
 rw [← this h]
 have hd : j < s.data.size:=h
 rw [getElem!_pos s.data j hd]
 rfl
theorem last_is (s : ByteArray) (b : Int) : (Lib.lastIndexByte s b≤0∧lastP b (bytesOf s) 0 0=0) ∨ (0 < Lib.lastIndexByte s b∧lastP b (bytesOf s) 0 0=Lib.lastIndexByte s b∧Lib.lastIndexByte s b < s.size):=by
 have hl:=bytesOf_length s
 unfold Lib.lastIndexByte
 rcases lastP_spec b (bytesOf s) 0 0 with ⟨h1,h2⟩|⟨j,h1,h2,h3,h4⟩
 ·rcases Lib.lastIdx_spec s b s.size with ⟨g1,_⟩|⟨i,g1,g2,g3,_⟩
  ·left;omega
  ·exact absurd (by rw [← get_bt s i g1];exact g3) (h2 i (by omega))
 ·rcases Lib.lastIdx_spec s b s.size with ⟨g1,g2⟩|⟨i,g1,g2,g3,g4⟩
  ·exact absurd (by rw [get_bt s j (by omega)];exact h2) (g2 j (by omega))
  ·have hij : i=j:=by
    rcases Nat.lt_trichotomy i j with h|h|h
    ·exact absurd (by rw [get_bt s j (by omega)];exact h2) (g4 j h (by omega))
    ·exact h
    ·exact absurd (by rw [← get_bt s i g1];exact g3) (h3 i h (by omega))
   subst hij
   by_cases h0 : i=0
   ·left;omega
   ·right;omega
theorem runes_ascii (s : ByteArray) (h : ∀ j,j < s.size→rd (bytesOf s) (j : Nat) < 128) : ∀ (m i : Nat) (acc : Array Value),i + m=s.size→Conv.runesFrom s m i acc=acc++(nums .i32 ((bytesOf s).drop i)).toArray
 | 0,i,acc,he => by
  have : (bytesOf s).drop i=[]:=List.drop_of_length_le (by rw [bytesOf_length];omega)
  rw [this]
  simp [Conv.runesFrom,nums]
 | m + 1,i,acc,he => by
  have hi : i < s.size:=by omega
  have hd : Utf8.decode s i=((s.get! i).toNat,1):=by
   rw [Lib.decode_at]
   unfold Lib.decodeN
   have hx:=h i hi
   rw [← get_bt s i hi] at hx
   have e : (s.get! i)=s.data[i]!:=rfl
   rw [e,if_pos (by omega)]
  unfold Conv.runesFrom
  rw [if_pos hi,hd]
  show Conv.runesFrom s m (i + 1) (acc.push (.int .i32 ((s.get! i).toNat : Int)))=_
  rw [runes_ascii s h m (i + 1) _ (by omega)]
  have hl : i < (bytesOf s).length:=by rw [bytesOf_length];exact hi
  have hdr : (bytesOf s).drop i=rd (bytesOf s) (i : Nat) :: (bytesOf s).drop (i + 1):=by
   rw [List.drop_eq_getElem_cons hl]
   congr 1
   simp [rd,List.getD_eq_getElem?_getD,List.getElem?_eq_getElem hl]
  rw [hdr,← get_bt s i hi]
  simp [nums]
  rfl
def DecSuch (R : List Int × Int × Int) (w : World) (e : Ending) (w' : World) : Prop:=∃ v,e=.returned (.tuple #[v,.int .i64 R.2.1,.int .i64 R.2.2])∧w'.ownsRow w.heap.size 21 1 v R.1.length (nums .i32 R.1)∧Below w.heap.size w w'
set_option maxRecDepth 100000 in
set_option maxHeartbeats 32000000 in
theorem decode_any {p : Bt} (hp : p.Ok) (s : ByteArray) (w : World) (hs : s.size≤268435456) (T : TabsP w) : Calls Tryd.prog 35 #[.agg (bootA p),.string s] w (DecSuch (dec p (bytesOf s)) w):=by
 obtain ⟨R,hR⟩ : ∃ R,dec p (bytesOf s)=R:=⟨_,rfl⟩
 rw [hR]
 unfold dec at hR
 have hlast:=last_is s p.btw
 have hb0:=hp.bias0
 have hb1:=hp.bias1
 have hf0:=hp.first0
 have hf1:=hp.first1
 have hLB:=fun W => Tryd.strings_LastIndexByte s p.btw (by omega) W
 have HLB:=Lib.hid hLB
 have HP:=Lib.hid hp
 have hlen:=bytesOf_length s
 rcases hlast with ⟨hL,hP0⟩|⟨hL,hP0,hLs⟩
 ·rw [hP0,if_neg (by omega)] at hR
  have HR0:=Lib.hid hR
  generalize Lib.lastIndexByte s p.btw=cut at *
  clear hR hP0 hLB hp
  go_enter Tryd.func35,Tryd.ntmps35
  go_upto_region 3 with (go_at_call 48;(with_reducible refine (HLB.out _).mono ?_);rintro e w1 ⟨rfl,rfl⟩)
  have HB : Blk ((w.alloc (.cells (bootA p) 59)).alloc (.cells (rdrA p s 0 (.slice none 0 0) p.first 0 p.bias) 72)) (w.heap.size + 1) 72 (rdrA p s 0 (.slice none 0 0) p.first 0 p.bias):=Blk.at_new (by simp)
  have HL : Below w.heap.size w ((w.alloc (.cells (bootA p) 59)).alloc (.cells (rdrA p s 0 (.slice none 0 0) p.first 0 p.bias) 72)):=Ze (below_one _ _) _
  have HO : ((w.alloc (.cells (bootA p) 59)).alloc (.cells (rdrA p s 0 (.slice none 0 0) p.first 0 p.bias) 72)).ownsRow (w.heap.size + 1 + 1) 21 1 (.slice none 0 0) 0 (nums .i32 []):=own_nil _ _ _ _
  generalize (w.alloc (.cells (bootA p) 59)).alloc (.cells (rdrA p s 0 (.slice none 0 0) p.first 0 p.bias) 72)=W1 at *
  go_wp2
  go_loopw [10,11] (fun u v wr => ∃ (a n i bias : Int) (l : List Int) (out : Value) (f : Nat),0≤a∧a≤s.size∧0≤n∧n≤1114111∧0≤i∧i≤l.length∧-1073741824≤bias∧bias≤1099511627776∧(l.length : Int)≤a∧s.size - a < f∧Hid (decG p f ((bytesOf s).drop a.toNat) a l n i bias=R)∧Blk wr (w.heap.size + 1) 72 (rdrA p s a out n i bias)∧wr.ownsRow (w.heap.size + 1 + 1) 21 1 out l.length (nums .i32 l)∧Below w.heap.size w wr) (fun _ _ wr => s.size - (intOf ((wr.cell? ⟨w.heap.size + 1,9,none⟩).getD undef)).toNat)
  case atStart => exact ⟨0,p.first,0,p.bias,[],.slice none 0 0,s.size + 1,by omega,by omega,by omega,by omega,by omega,by simp,by omega,by omega,by simp,by omega,by rw [← hlen];exact HR0,HB,HO,HL⟩
  case round =>
   clear HB HO HL
   obtain ⟨a,n,i,bias,l,out,f,ha0,ha1,hn0,hn1,hi0,hi1,hb0,hb1,hla,hf,hR,hblk,ho,hbel⟩:=hrel
   obtain ⟨c0,c1,c2,c3,c4,c5,c6,c7,c8,c9,c10,c11,c12,c13⟩:=rdrCells hblk
   obtain ⟨f,rfl⟩ : ∃ f',f=f' + 1:=⟨f - 1,by omega⟩
   by_cases hlt : a < s.size
   ·have hnx:=next_any HP.out s a out l n i bias (w.heap.size + 1) wr (by omega) ha0 ha1 hi0 (by omega) hn0 hn1 hb0 hb1 (by omega) hblk ho
    have hok:=num_ok HP.out bias ((bytesOf s).drop a.toNat) a i 1 p.base hi0 (by omega) (by omega)
    have hdl : ((bytesOf s).drop a.toNat).length=s.size - a.toNat:=by rw [List.length_drop,bytesOf_length]
    have hne : ¬ ((bytesOf s).drop a.toNat=[]):=fun h => by rw [h] at hdl;simp at hdl;omega
    have hR2:=hR.out
    rw [decG,if_neg hne] at hR2
    have hnE : nxR p bias ((bytesOf s).drop a.toNat) a l n i=nxR p bias ((bytesOf s).drop a.toNat) a l n i:=rfl
    conv at hnE => lhs;unfold nxR
    simp only at hR2 hnE
    generalize num p bias ((bytesOf s).drop a.toNat) a i 1 p.base=Q at *
    generalize nxR p bias ((bytesOf s).drop a.toNat) a l n i=E at *
    have HN:=Lib.hid hnx
    have Hbel:=Lib.hid hbel
    have HR2:=Lib.hid hR2
    have HnE:=Lib.hid hnE
    have Hok:=Lib.hid hok
    clear hnx hR hR2 hnE hok hne hblk ho
    go_upto_region 11 with (go_at_call 51;(with_reducible refine (HN.out).mono ?_);rintro e w2 ⟨rfl,hL2,hZ2⟩)
    have hbel2 : Below w.heap.size w w2:=Hbel.out.trans (hL2.mono (Nat.le_succ _))
    by_cases hE : E.2=0
    ·obtain ⟨out2,hB2,ho2⟩:=hZ2 hE
     have hQ : Q.1=0∧¬ (1114111 < n + Q.2.2.1 / (l.length + 1))∧¬ (scl (n + Q.2.2.1 / (l.length + 1))=false):=by
      have:=HnE.out
      refine ⟨Decidable.byContradiction fun h => ?_,fun h => ?_,fun h => ?_⟩
      ·rw [if_pos h] at this;rw [← this] at hE;exact h hE
      ·by_cases h0 : Q.1=0
       ·rw [if_neg (by simp [h0]),if_pos h] at this;rw [← this] at hE;cases hE
       ·rw [if_pos h0] at this;rw [← this] at hE;exact h0 hE
      ·by_cases h0 : Q.1=0
       ·by_cases h1 : 1114111 < n + Q.2.2.1 / (l.length + 1)
        ·rw [if_neg (by simp [h0]),if_pos h1] at this;rw [← this] at hE;cases hE
        ·rw [if_neg (by simp [h0]),if_neg h1,if_pos h] at this;rw [← this] at hE;cases hE
       ·rw [if_pos h0] at this;rw [← this] at hE;exact h0 hE
     obtain ⟨m,m1,m2,m3,m4,m5,m6⟩:=Hok.out hQ.1
     have hR3:=HR2.out
     rw [if_neg (by simp [hQ.1]),if_neg hQ.2.1,if_neg hQ.2.2,m4,List.drop_drop] at hR3
     have hq0 : 0≤Q.2.2.1 / ((l.length : Int) + 1):=Int.ediv_nonneg (by omega) (by omega)
     have hr0 : 0≤Q.2.2.1 % ((l.length : Int) + 1):=Int.emod_nonneg _ (by omega)
     have hr1 : Q.2.2.1 % ((l.length : Int) + 1) < (l.length : Int) + 1:=Int.emod_lt_of_pos _ (by omega)
     have har:=adp_range HP.out (Q.2.2.1 - i) ((l.length : Int) + 1) (i == 0) (by omega) (by omega) (by omega)
     have hat : a.toNat + m=Q.2.1.toNat:=by omega
     rw [hat] at hR3
     have HR3:=Lib.hid hR3
     have hcell:=hB2.cell 9
     have hins:=insL_len l (Q.2.2.1 % ((l.length : Int) + 1)).toNat (n + Q.2.2.1 / ((l.length : Int) + 1))
     have hEz : (E.2 != 0)=false:=by rw [hE];rfl
     rw [← hins] at ho2
     have Hins:=Lib.hid hins
     have hle : i≤(l.length : Int):=hi1
     have HF:=Lib.hid (show ∃ (a n i bias : Int) (l : List Int) (out : Value) (f : Nat),0≤a∧a≤s.size∧0≤n∧n≤1114111∧0≤i∧i≤l.length∧-1073741824≤bias∧bias≤1099511627776∧(l.length : Int)≤a∧s.size - a < f∧Hid (decG p f ((bytesOf s).drop a.toNat) a l n i bias=R)∧Blk w2 (w.heap.size + 1) 72 (rdrA p s a out n i bias)∧w2.ownsRow (w.heap.size + 1 + 1) 21 1 out l.length (nums .i32 l)∧Below w.heap.size w w2 from
      ⟨Q.2.1,n + Q.2.2.1 / (l.length + 1),Q.2.2.1 % (l.length + 1) + 1,adp p (Q.2.2.1 - i) (l.length + 1) (i == 0),insL l (Q.2.2.1 % (l.length + 1)).toNat (n + Q.2.2.1 / (l.length + 1)),out2,f,by omega,by omega,by omega,by omega,by omega,by rw [hins];omega,by omega,by omega,by rw [hins];omega,by omega,HR3,hB2,ho2,hbel2⟩)
     have hms : s.size - (intOf ((w2.cell? ⟨w.heap.size + 1,9,none⟩).getD undef)).toNat < s.size - (intOf ((wr.cell? ⟨w.heap.size + 1,9,none⟩).getD undef)).toNat:=by
      rw [hcell,c9]
      simp [intOf]
      omega
     have Hms:=Lib.hid hms
     clear hms hR3 HR3 HR2 HnE Hok hB2 ho2 hZ2 hcell har hr0 hr1 hq0 hQ m1 m2 m3 m4 m5 m6 hat hins Hins c0 c1 c2 c3 c4 c5 c6 c7 c8 c9 c10 c11 c12 c13
     go_wp2
     first|exact ⟨HF.out,Hms.out⟩|exact ⟨⟨_,_,_,_,_,_,_,_,_,_,_,_,_,_,_,_,_,_,_,_,_,HF.out,rfl⟩,Hms.out⟩
    ·have hEz : (E.2 != 0)=true:=bne_iff_ne.2 hE
     have hRE : R=([],E.1,E.2):=by
      have h1:=HR2.out
      have h2:=HnE.out
      by_cases h0 : Q.1=0
      ·rw [if_neg (by simp [h0])] at h1 h2
       by_cases h3 : 1114111 < n + Q.2.2.1 / (l.length + 1)
       ·rw [if_pos h3] at h1 h2;rw [← h1,← h2]
       ·rw [if_neg h3] at h1 h2
        by_cases h4 : scl (n + Q.2.2.1 / (l.length + 1))=false
        ·rw [if_pos h4] at h1 h2;rw [← h1,← h2]
        ·rw [if_neg h4] at h2;rw [← h2] at hE;exact absurd rfl hE
      ·rw [if_pos h0] at h1 h2;rw [← h1,← h2]
     have HRE:=Lib.hid hRE
     clear hRE HR2 HnE Hok hZ2 c0 c1 c2 c3 c4 c5 c6 c7 c8 c9 c10 c11 c12 c13
     go_wp2
     go_ret3
     rw [HRE.out]
     exact ⟨_,rfl,own_nil _ _ _ _,hbel2⟩
   ·obtain rfl : a=s.size:=by omega
    have hR2:=hR.out
    rw [drop_end,decG,if_pos rfl] at hR2
    have HR2:=Lib.hid hR2
    clear hR hR2
    go_wp2
    go_ret3
    rw [← HR2.out]
    exact ⟨_,rfl,own_less ho (by omega),hbel⟩
 ·rw [hP0,if_pos hL] at hR
  obtain ⟨cut,hcut⟩ : ∃ cut : Int,Lib.lastIndexByte s p.btw=cut:=⟨_,rfl⟩
  rw [hcut] at hR hL hLs HLB
  clear hP0 hLB hp hcut
  have hsb : bytesOf (s.extract 0 cut.toNat)=(bytesOf s).take cut.toNat:=by
   refine ext_rd (by rw [bytesOf_length,List.length_take,bytesOf_length];have:=size_ext s 0 cut.toNat (by omega);omega) fun i h0 h1 => ?_
   have hz:=size_ext s 0 cut.toNat (by omega)
   rw [bytesOf_length] at h1
   rw [rd_bytesOf,bt_ext s 0 cut.toNat (by omega) i h0,if_pos (by omega)]
   unfold rd
   rw [List.getD_eq_getElem?_getD,List.getElem?_take,if_pos (by omega)]
   have:=rd_bytesOf s (0 + i)
   unfold rd at this
   rw [List.getD_eq_getElem?_getD] at this
   rw [show ((0 : Nat) : Int) + i=0 + i by omega,← this]
   congr 2
   omega
  have hsz : ((s.extract 0 cut.toNat).size : Int)=cut:=by have:=size_ext s 0 cut.toNat (by omega);omega
  rw [← hsb] at hR
  obtain ⟨sub,hsub⟩ : ∃ sub,s.extract 0 cut.toNat=sub:=⟨_,rfl⟩
  rw [hsub] at hR hsb hsz
  have hbl : (bytesOf sub).length=sub.size:=bytesOf_length sub
  obtain ⟨F,hF⟩ : ∃ F,fstB (fun b => !bas p b) (bytesOf sub) 0=F:=⟨_,rfl⟩
  have hFn:=fstB_none (fun b => !bas p b) (bytesOf sub) 0 (by omega)
  have hFg:=fstB_ge (fun b => !bas p b) (bytesOf sub) 0 (by omega)
  rw [hF] at hR hFn hFg
  have HF0 : Hid (fstB (fun b => !bas p b) ((bytesOf sub).drop 0) ((0 : Nat) : Int)=F):=Lib.hid hF
  have HR0:=Lib.hid hR
  have HFn:=Lib.hid hFn
  have HFg:=Lib.hid hFg
  have kb:=fun W => print_bytes (P:=Tryd.prog) 9 35 5 Tryd.underlying9 Tryd.underlying35 Tryd.underlying5 sub W
  clear hR hF hFn hFg hsb
  go_enter Tryd.func35,Tryd.ntmps35
  go_upto_region 3 with (go_at_call 48;(with_reducible refine (HLB.out _).mono ?_);rintro e w1 ⟨rfl,rfl⟩)
  have hbt0 : Blk ((w.alloc (.cells (bootA p) 59)).alloc (.cells (rdrA p s 0 (.slice none 0 0) p.first 0 p.bias) 72)) w.heap.size 59 (bootA p):=(Blk.new _ _ _).alloc _
  have hB0 : Blk ((w.alloc (.cells (bootA p) 59)).alloc (.cells (rdrA p s 0 (.slice none 0 0) p.first 0 p.bias) 72)) (w.heap.size + 1) 72 (rdrA p s 0 (.slice none 0 0) p.first 0 p.bias):=Blk.at_new (by simp)
  have hL0 : Below w.heap.size w ((w.alloc (.cells (bootA p) 59)).alloc (.cells (rdrA p s 0 (.slice none 0 0) p.first 0 p.bias) 72)):=Ze (below_one _ _) _
  generalize (w.alloc (.cells (bootA p) 59)).alloc (.cells (rdrA p s 0 (.slice none 0 0) p.first 0 p.bias) 72)=W1 at *
  have hhw : w.heap.size + 1 + 1≤W1.heap.size:=hB0.lt
  go_wp2
  have hy0 : Byt (Lib.bytesWorld W1 5 sub) W1.heap.size (bytesOf sub):=Byt.new W1 5 sub
  have hyb : Below W1.heap.size W1 (Lib.bytesWorld W1 5 sub):=bytes_below (Below.refl _ _) (Nat.le_refl _) _ _
  have hcp : sub.size≤grownCap W1 sub.size 0 5:=grownCap_ge _ _ _ _
  clear kb
  generalize grownCap W1 sub.size 0 5=cp at *
  generalize Lib.bytesWorld W1 5 sub=W2 at *
  have hyl : W1.heap.size≤W1.heap.size:=Nat.le_refl _
  have hL0b:=hL0
  have HT2 : Hid (TabsP W2):=Lib.hid (TabsP_below (TabsP_below T hL0b) hyb)
  clear hyl hL0b
  have HY:=Lib.hid hy0
  have HYB:=Lib.hid hyb
  have HB0:=Lib.hid hB0
  have HBT:=Lib.hid hbt0
  have HL0:=Lib.hid hL0
  clear hy0 hyb hB0 hbt0 hL0 T
  go_loopw [7] (fun v wr => ∃ k : Nat,v=.int .i64 (k : Int)∧k≤sub.size∧Hid (fstB (fun b => !bas p b) ((bytesOf sub).drop k) (k : Int)=F)∧Below W2.heap.size W2 wr) (fun v _ => sub.size - (intOf v).toNat)
  case atStart => exact ⟨0,rfl,by omega,HF0,Below.refl _ _⟩
  case round =>
   clear HF0
   obtain ⟨k,rfl,hk,hw,hbel⟩:=hrel
   have hbW1 : Below W1.heap.size W1 wr:=HYB.out.trans (hbel.mono HYB.out.size)
   have hbW : Below w.heap.size w wr:=HL0.out.trans (hbW1.mono (by omega))
   by_cases hlt : k < sub.size
   ·have hbt:=HBT.out.after hbW1
    have hTr:=TabsP_below HT2.out hbel
    have hy:=HY.out.after hbel
    have hw2:=hw.out
    rw [fstB_drop (by omega)] at hw2
    have hxr : 0≤rd (bytesOf sub) (k : Nat)∧rd (bytesOf sub) (k : Nat)≤255:=by rw [rd_bytesOf];exact bt_range _ _
    have hcell : ∀ j : Nat,j < sub.size→wr.cell? ⟨W1.heap.size,j,none⟩=some (.int .u8 (((rd (bytesOf sub) (j : Nat)).toNat : Nat) : Int)):=fun j hj => by
     have h1:=hy.cell (j : Int) (by omega) (by omega)
     have hr : 0≤rd (bytesOf sub) (j : Nat):=by rw [rd_bytesOf];exact (bt_range _ _).1
     rw [Int.toNat_natCast] at h1
     rw [h1,Int.toNat_of_nonneg hr]
    have hlt8 : ∀ j : Nat,(rd (bytesOf sub) (j : Nat)).toNat < 256:=fun j => by
     have:=bt_range sub (j : Int)
     rw [rd_bytesOf]
     omega
    have hck : ¬ (cp=k):=by omega
    have hkz : (k : Int)≤(sub.size : Int):=by omega
    by_cases hx : rd (bytesOf sub) (k : Nat) < 128
    ·have hdl:=dec_low W1.heap.size k (sub.size - k) (cp - k) (rd (bytesOf sub) (k : Nat)).toNat wr (by omega) (by omega) (by omega) (hcell k hlt)
     rw [Int.toNat_of_nonneg hxr.1] at hdl
     have hcl:=dclo_any p (rd (bytesOf sub) (k : Nat)) w.heap.size wr hbt (by omega)
     generalize rd (bytesOf sub) (k : Nat)=x at *
     have Hdl:=Lib.hid hdl
     cases hbx : bas p x with
     | false =>
      rw [hbx] at hcl hw2
      simp only [Bool.not_false,if_true] at hcl hw2
      have Hcl:=Lib.hid hcl
      have hR2:=HR0.out
      rw [← hw2,if_pos (by omega)] at hR2
      have HR2:=Lib.hid hR2
      clear hdl hcl hw2 hw hR2 hcell hlt8 hbx hy hTr hbt HR0 HFn HFg
      go_wp2_with (first
       | (go_at_call 61;(with_reducible refine (Hdl.out).mono ?_);rintro e w5 ⟨rfl,hw5⟩;obtain rfl : wr=w5:=hw5.symm)
       | (go_at_call 50;(with_reducible refine (Hcl.out).mono ?_);rintro e w6 ⟨rfl,hb6⟩))
      go_ret3
      rw [← HR2.out]
      exact ⟨_,rfl,own_nil _ _ _ _,below_after hbW hb6⟩
     | true =>
      rw [hbx] at hcl hw2
      simp only [Bool.not_true,Bool.false_eq_true,if_false] at hcl hw2
      have Hcl:=Lib.hid hcl
      have HW : Hid (fstB (fun b => !bas p b) ((bytesOf sub).drop (k + 1)) ((k + 1 : Nat) : Int)=F):=Lib.hid hw2
      clear hdl hcl hw2 hw hcell hlt8 hbx hy hTr hbt
      go_wp2_with (first
       | (go_at_call 61;(with_reducible refine (Hdl.out).mono ?_);rintro e w5 ⟨rfl,hw5⟩;obtain rfl : wr=w5:=hw5.symm)
       | (go_at_call 50;(with_reducible refine (Hcl.out).mono ?_);rintro e w6 ⟨rfl,hb6⟩))
      exact ⟨⟨k + 1,rfl,by omega,HW,below_after hbel hb6⟩,by simp [intOf];omega⟩
    ·have hdh:=dec_high W1.heap.size k (sub.size - k) (cp - k) (rd (bytesOf sub) (k : Nat)).toNat (rd (bytesOf sub) ((k + 1 : Nat))).toNat (rd (bytesOf sub) ((k + 2 : Nat))).toNat (rd (bytesOf sub) ((k + 3 : Nat))).toNat wr hTr (by omega) (hlt8 _) (hlt8 _) (hlt8 _) (hlt8 _) (by omega) (by omega) (hcell k hlt) (fun h => hcell (k + 1) (by omega)) (fun h => hcell (k + 2) (by omega)) (fun h => hcell (k + 3) (by omega))
     have hbf : bas p (rd (bytesOf sub) (k : Nat))=false:=by unfold bas;exact decide_eq_false (by omega)
     rw [hbf] at hw2
     simp only [Bool.not_false,if_true] at hw2
     have hR2:=HR0.out
     rw [← hw2,if_pos (by omega)] at hR2
     have HR2:=Lib.hid hR2
     have Hdh:=Lib.hid hdh
     have Hcl:=Lib.hid (fun (r : Int) (W : World) (hr : 128≤r∧r≤2147483647) (hB : Blk W w.heap.size 59 (bootA p)) => (show Calls Tryd.prog 50 #[.int .i32 r,.pointer (some ⟨w.heap.size,0,none⟩)] W fun e w' => e=.returned (.bool true)∧Below W.heap.size W w' by
      have h1:=dclo_any p r w.heap.size W hB (by omega)
      have h2 : bas p r=false:=by unfold bas;exact decide_eq_false (by omega)
      rw [h2] at h1
      exact h1))
     have Hbt:=Lib.hid hbt
     clear hdh hw2 hw hR2 hcell hlt8 hbf hy hTr hbt HR0 HFn HFg
     go_wp2_with (first
      | (go_at_call 61;(with_reducible refine (Hdh.out).mono ?_);rintro e w5 ⟨r5,k5,rfl,hr5,hr6,hb5⟩)
      | (go_at_call 50;(with_reducible refine (Hcl.out r5 w5 ⟨hr5,hr6⟩ (Hbt.out.after hb5)).mono ?_);rintro e w6 ⟨rfl,hb6⟩))
     go_ret3
     rw [← HR2.out]
     exact ⟨_,rfl,own_nil _ _ _ _,below_after (below_after hbW hb5) hb6⟩
   ·obtain rfl : k=sub.size:=by omega
    have hFm : F=-1:=by
     have:=hw.out
     rw [List.drop_of_length_le (by rw [bytesOf_length];omega)] at this
     exact this.symm
    have hasc : ∀ j,j < sub.size→rd (bytesOf sub) (j : Nat) < 128:=fun j hj => by
     have hn:=HFn.out
     rcases Int.lt_or_le (rd (bytesOf sub) (j : Nat)) 128 with h|h
     ·exact h
     ·exfalso
      have hl : j < (bytesOf sub).length:=by omega
      have hm : rd (bytesOf sub) (j : Nat) ∈ bytesOf sub:=by
       have e : rd (bytesOf sub) (j : Nat)=(bytesOf sub)[j]:=by simp [rd,List.getD_eq_getElem?_getD,List.getElem?_eq_getElem hl]
       rw [e]
       exact List.getElem_mem hl
      have:=hn.2 ⟨_,hm,by unfold bas;rw [decide_eq_false (by omega)];rfl⟩
      omega
    have hrs : Conv.runesFrom sub sub.size 0 #[]=(nums .i32 (bytesOf sub)).toArray:=by
     have:=runes_ascii sub hasc sub.size 0 #[] (by omega)
     simpa using this
    have hrz : (nums .i32 (bytesOf sub)).toArray.size=sub.size:=by rw [List.size_toArray,nums_length,hbl]
    have kr:=run_runes_of_string (P:=Tryd.prog) wr 9 22 21 sub Tryd.underlying9 Tryd.underlying22 Tryd.underlying21 (by rw [hrs,hrz];omega)
    rw [hrs,hrz] at kr
    obtain ⟨q,hq⟩ : ∃ q,grownCap wr sub.size 0 21=q:=⟨_,rfl⟩
    have hq0 : sub.size≤q:=by rw [← hq];exact grownCap_ge _ _ _ _
    have hq1 : q≤maxLen:=by rw [← hq];exact grownCap_le_maxLen _ _ _ _ (by unfold maxLen;omega)
    rw [hq] at kr
    obtain ⟨H,hH⟩ : ∃ H,wr.heap.size=H:=⟨_,rfl⟩
    rw [hH] at kr
    obtain ⟨W4,hW4⟩ : ∃ W4,wr.drew.alloc (.cells ((nums .i32 (bytesOf sub)).toArray++Array.replicate (q - sub.size) (.int .i32 0)) 21)=W4:=⟨_,rfl⟩
    rw [hW4] at kr
    have hHw : w.heap.size + 1 + 1≤H:=by have:=hbW1.size;omega
    have hO4 : W4.ownsRow (w.heap.size + 1 + 1) 21 1 (.slice (some ⟨H,0,none⟩) sub.size q) sub.size (nums .i32 (bytesOf sub)):=by
     refine ⟨by rw [nums_length,hbl,Nat.mul_one],Or.inr ⟨H,q,(nums .i32 (bytesOf sub)).toArray++Array.replicate (q - sub.size) (.int .i32 0),rfl,hHw,?_,hq0,hq1,by rw [Array.size_append,hrz,Array.size_replicate];omega,?_⟩⟩
     ·rw [← hW4,← hH]
      exact heap_alloc_new wr.drew _
     ·rw [Array.toList_append,Nat.mul_one,List.take_append_of_le_length (by rw [List.toList_toArray,nums_length,hbl];omega),List.toList_toArray]
      exact List.take_of_length_le (by rw [nums_length,hbl];omega)
    have hB4 : Blk W4 (w.heap.size + 1) 72 (rdrA p s 0 (.slice none 0 0) p.first 0 p.bias):=by rw [← hW4];exact (HB0.out.after hbW1).drew.alloc _
    have hL4 : Below w.heap.size w W4:=by rw [← hW4];exact Ze hbW.drew _
    have hR2:=HR0.out
    rw [hFm,if_neg (by omega),hlen] at hR2
    have Hdg : Hid (decG p (s.size + 1) ((bytesOf s).drop (cut + 1).toNat) (cut + 1) (bytesOf sub) p.first 0 p.bias=R):=Lib.hid hR2
    have HO4:=Lib.hid hO4
    have HB4:=Lib.hid hB4
    have HL4:=Lib.hid hL4
    obtain ⟨c0,c1,c2,c3,c4,c5,c6,c7,c8,c9,c10,c11,c12,c13⟩:=rdrCells hB4
    have f9:=hB4.frozen 9
    have f10:=hB4.frozen 10
    have hct : wrap64 (cut + 1)=cut + 1:=w64 _ (by omega) (by omega)
    clear hR2 hO4 hB4 hL4 hW4 hH hq hrs hrz hasc hFm hw HR0 HFn HFg HY HBT HB0 HYB HT2 hbW1 hbW hbel HL0
    go_upto_region 9 with (fail)
    have HB : Blk ((W4.setCell ⟨w.heap.size + 1,10,none⟩ (.slice (some ⟨H,0,none⟩) sub.size q)).setCell ⟨w.heap.size + 1,9,none⟩ (.int .i64 (cut + 1))) (w.heap.size + 1) 72 (rdrA p s (cut + 1) (.slice (some ⟨H,0,none⟩) sub.size q) p.first 0 p.bias):=(HB4.out.set_ 10 (.slice (some ⟨H,0,none⟩) sub.size q)).set_ 9 (.int .i64 (cut + 1))
    have HO:=own_cell (own_cell HO4.out 10 (.slice (some ⟨H,0,none⟩) sub.size q)) 9 (.int .i64 (cut + 1))
    have HL:=Zg (a:=⟨w.heap.size + 1,9,none⟩) (Zg (a:=⟨w.heap.size + 1,10,none⟩) HL4.out (Nat.le_succ _) (.slice (some ⟨H,0,none⟩) sub.size q)) (Nat.le_succ _) (.int .i64 (cut + 1))
    generalize (W4.setCell ⟨w.heap.size + 1,10,none⟩ (.slice (some ⟨H,0,none⟩) sub.size q)).setCell ⟨w.heap.size + 1,9,none⟩ (.int .i64 (cut + 1))=W6 at *
    clear c0 c1 c2 c3 c4 c5 c6 c7 c8 c9 c10 c11 c12 c13 f9 f10 hct kr HO4 HB4 HL4 hsub
    have Hsz:=Lib.hid hsz
    have Hbl:=Lib.hid hbl
    clear hsz hbl
    go_wp2
    go_loopw [10,11] (fun u v wr => ∃ (a n i bias : Int) (l : List Int) (out : Value) (f : Nat),0≤a∧a≤s.size∧0≤n∧n≤1114111∧0≤i∧i≤l.length∧-1073741824≤bias∧bias≤1099511627776∧(l.length : Int)≤a∧s.size - a < f∧Hid (decG p f ((bytesOf s).drop a.toNat) a l n i bias=R)∧Blk wr (w.heap.size + 1) 72 (rdrA p s a out n i bias)∧wr.ownsRow (w.heap.size + 1 + 1) 21 1 out l.length (nums .i32 l)∧Below w.heap.size w wr) (fun _ _ wr => s.size - (intOf ((wr.cell? ⟨w.heap.size + 1,9,none⟩).getD undef)).toNat)
    case atStart =>
     have hsz:=Hsz.out
     have hbl:=Hbl.out
     exact ⟨cut + 1,p.first,0,p.bias,bytesOf sub,.slice (some ⟨H,0,none⟩) sub.size q,s.size + 1,by omega,by omega,by omega,by omega,by omega,by omega,by omega,by omega,by omega,by omega,Hdg,HB,by rw [hbl];exact HO,HL⟩
    case round =>
     clear HB HO HL
     obtain ⟨a,n,i,bias,l,out,f,ha0,ha1,hn0,hn1,hi0,hi1,hb0,hb1,hla,hf,hR,hblk,ho,hbel⟩:=hrel
     obtain ⟨c0,c1,c2,c3,c4,c5,c6,c7,c8,c9,c10,c11,c12,c13⟩:=rdrCells hblk
     obtain ⟨f,rfl⟩ : ∃ f',f=f' + 1:=⟨f - 1,by omega⟩
     by_cases hlt : a < s.size
     ·have hnx:=next_any HP.out s a out l n i bias (w.heap.size + 1) wr (by omega) ha0 ha1 hi0 (by omega) hn0 hn1 hb0 hb1 (by omega) hblk ho
      have hok:=num_ok HP.out bias ((bytesOf s).drop a.toNat) a i 1 p.base hi0 (by omega) (by omega)
      have hdl : ((bytesOf s).drop a.toNat).length=s.size - a.toNat:=by rw [List.length_drop,bytesOf_length]
      have hne : ¬ ((bytesOf s).drop a.toNat=[]):=fun h => by rw [h] at hdl;simp at hdl;omega
      have hR2:=hR.out
      rw [decG,if_neg hne] at hR2
      have hnE : nxR p bias ((bytesOf s).drop a.toNat) a l n i=nxR p bias ((bytesOf s).drop a.toNat) a l n i:=rfl
      conv at hnE => lhs;unfold nxR
      simp only at hR2 hnE
      generalize num p bias ((bytesOf s).drop a.toNat) a i 1 p.base=Q at *
      generalize nxR p bias ((bytesOf s).drop a.toNat) a l n i=E at *
      have HN:=Lib.hid hnx
      have Hbel:=Lib.hid hbel
      have HR2:=Lib.hid hR2
      have HnE:=Lib.hid hnE
      have Hok:=Lib.hid hok
      clear hnx hR hR2 hnE hok hne hblk ho
      go_upto_region 11 with (go_at_call 51;(with_reducible refine (HN.out).mono ?_);rintro e w2 ⟨rfl,hL2,hZ2⟩)
      have hbel2 : Below w.heap.size w w2:=Hbel.out.trans (hL2.mono (Nat.le_succ _))
      by_cases hE : E.2=0
      ·obtain ⟨out2,hB2,ho2⟩:=hZ2 hE
       have hQ : Q.1=0∧¬ (1114111 < n + Q.2.2.1 / (l.length + 1))∧¬ (scl (n + Q.2.2.1 / (l.length + 1))=false):=by
        have:=HnE.out
        refine ⟨Decidable.byContradiction fun h => ?_,fun h => ?_,fun h => ?_⟩
        ·rw [if_pos h] at this;rw [← this] at hE;exact h hE
        ·by_cases h0 : Q.1=0
         ·rw [if_neg (by simp [h0]),if_pos h] at this;rw [← this] at hE;cases hE
         ·rw [if_pos h0] at this;rw [← this] at hE;exact h0 hE
        ·by_cases h0 : Q.1=0
         ·by_cases h1 : 1114111 < n + Q.2.2.1 / (l.length + 1)
          ·rw [if_neg (by simp [h0]),if_pos h1] at this;rw [← this] at hE;cases hE
          ·rw [if_neg (by simp [h0]),if_neg h1,if_pos h] at this;rw [← this] at hE;cases hE
         ·rw [if_pos h0] at this;rw [← this] at hE;exact h0 hE
       obtain ⟨m,m1,m2,m3,m4,m5,m6⟩:=Hok.out hQ.1
       have hR3:=HR2.out
       rw [if_neg (by simp [hQ.1]),if_neg hQ.2.1,if_neg hQ.2.2,m4,List.drop_drop] at hR3
       have hq0 : 0≤Q.2.2.1 / ((l.length : Int) + 1):=Int.ediv_nonneg (by omega) (by omega)
       have hr0 : 0≤Q.2.2.1 % ((l.length : Int) + 1):=Int.emod_nonneg _ (by omega)
       have hr1 : Q.2.2.1 % ((l.length : Int) + 1) < (l.length : Int) + 1:=Int.emod_lt_of_pos _ (by omega)
       have har:=adp_range HP.out (Q.2.2.1 - i) ((l.length : Int) + 1) (i == 0) (by omega) (by omega) (by omega)
       have hat : a.toNat + m=Q.2.1.toNat:=by omega
       rw [hat] at hR3
       have HR3:=Lib.hid hR3
       have hcell:=hB2.cell 9
       have hins:=insL_len l (Q.2.2.1 % ((l.length : Int) + 1)).toNat (n + Q.2.2.1 / ((l.length : Int) + 1))
       have hEz : (E.2 != 0)=false:=by rw [hE];rfl
       rw [← hins] at ho2
       have Hins:=Lib.hid hins
       have hle : i≤(l.length : Int):=hi1
       have HF:=Lib.hid (show ∃ (a n i bias : Int) (l : List Int) (out : Value) (f : Nat),0≤a∧a≤s.size∧0≤n∧n≤1114111∧0≤i∧i≤l.length∧-1073741824≤bias∧bias≤1099511627776∧(l.length : Int)≤a∧s.size - a < f∧Hid (decG p f ((bytesOf s).drop a.toNat) a l n i bias=R)∧Blk w2 (w.heap.size + 1) 72 (rdrA p s a out n i bias)∧w2.ownsRow (w.heap.size + 1 + 1) 21 1 out l.length (nums .i32 l)∧Below w.heap.size w w2 from
        ⟨Q.2.1,n + Q.2.2.1 / (l.length + 1),Q.2.2.1 % (l.length + 1) + 1,adp p (Q.2.2.1 - i) (l.length + 1) (i == 0),insL l (Q.2.2.1 % (l.length + 1)).toNat (n + Q.2.2.1 / (l.length + 1)),out2,f,by omega,by omega,by omega,by omega,by omega,by rw [hins];omega,by omega,by omega,by rw [hins];omega,by omega,HR3,hB2,ho2,hbel2⟩)
       have hms : s.size - (intOf ((w2.cell? ⟨w.heap.size + 1,9,none⟩).getD undef)).toNat < s.size - (intOf ((wr.cell? ⟨w.heap.size + 1,9,none⟩).getD undef)).toNat:=by
        rw [hcell,c9]
        simp [intOf]
        omega
       have Hms:=Lib.hid hms
       clear hms hR3 HR3 HR2 HnE Hok hB2 ho2 hZ2 hcell har hr0 hr1 hq0 hQ m1 m2 m3 m4 m5 m6 hat hins Hins c0 c1 c2 c3 c4 c5 c6 c7 c8 c9 c10 c11 c12 c13
       go_wp2
       first|exact ⟨HF.out,Hms.out⟩|exact ⟨⟨_,_,_,_,_,_,_,_,_,_,_,_,_,_,_,_,_,_,_,_,_,HF.out,rfl⟩,Hms.out⟩
      ·have hEz : (E.2 != 0)=true:=bne_iff_ne.2 hE
       have hRE : R=([],E.1,E.2):=by
        have h1:=HR2.out
        have h2:=HnE.out
        by_cases h0 : Q.1=0
        ·rw [if_neg (by simp [h0])] at h1 h2
         by_cases h3 : 1114111 < n + Q.2.2.1 / (l.length + 1)
         ·rw [if_pos h3] at h1 h2;rw [← h1,← h2]
         ·rw [if_neg h3] at h1 h2
          by_cases h4 : scl (n + Q.2.2.1 / (l.length + 1))=false
          ·rw [if_pos h4] at h1 h2;rw [← h1,← h2]
          ·rw [if_neg h4] at h2;rw [← h2] at hE;exact absurd rfl hE
        ·rw [if_pos h0] at h1 h2;rw [← h1,← h2]
       have HRE:=Lib.hid hRE
       clear hRE HR2 HnE Hok hZ2 c0 c1 c2 c3 c4 c5 c6 c7 c8 c9 c10 c11 c12 c13
       go_wp2
       go_ret3
       rw [HRE.out]
       exact ⟨_,rfl,own_nil _ _ _ _,hbel2⟩
     ·obtain rfl : a=s.size:=by omega
      have hR2:=hR.out
      rw [drop_end,decG,if_pos rfl] at hR2
      have HR2:=Lib.hid hR2
      clear hR hR2
      go_wp2
      go_ret3
      rw [← HR2.out]
      exact ⟨_,rfl,own_less ho (by omega),hbel⟩
end Go.Proofs.YtmjlkifmbhaiiaaDoor
