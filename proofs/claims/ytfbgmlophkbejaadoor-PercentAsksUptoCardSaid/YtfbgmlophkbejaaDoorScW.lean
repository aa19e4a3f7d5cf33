/- Scalar: the first piece of a text, by the program. Scalar: the first piece of a text, by the program. Scalar: the first piece of a text, by the document. Scalar: the first piece of a text, by the document: what it says. Scalar: all pieces of a text, by the program and by the document. Scalar: Decode, by the program and by the document. Scalar: the statements' own comparisons; the first wrong piece; the piece at a place. -/
import Derived.Test.YtfbgmlophkbejaaDoorScP
import Derived.Test.YtfbgmlophkbejaaDoorShelf
import Derived.Laws.ResultCell
set_option linter.unusedVariables false
set_option linter.unusedSimpArgs false
namespace Go.Proofs.YtfbgmlophkbejaaDoor
open Go.RowKit Go.Proofs.YtfbgmlophkbejaaDoorW.PrintWords Go.Proofs.YtfbgmlophkbejaaDoorW.PrintLast
abbrev Tabs (w : World) : Prop:=Lib.Utf8Tabs 1 2 w
def bgM (c : Int) : Int:=if bgN c=0 then 0 else bgN c - 1
set_option maxHeartbeats 1000000 in
theorem second_any (c : Int) (w : World) (h : 128≤c∧c≤255) : Calls Tryd.prog 129 #[.int .u8 c] w fun e w' => e=.returned (.tuple #[.int .u8 (bgLo c),.int .u8 (bgHi c),.int .i64 (bgM c)])∧w'=w:=by
 obtain ⟨x,hx⟩ : ∃ x,bgLo c=x:=⟨_,rfl⟩
 obtain ⟨y,hy⟩ : ∃ y,bgHi c=y:=⟨_,rfl⟩
 obtain ⟨z,hz⟩ : ∃ z,bgM c=z:=⟨_,rfl⟩
 rw [hx,hy,hz]
 have key : ∀ a b d : Int,(bgLo c=a∧bgHi c=b∧bgM c=d)→x=a∧y=b∧z=d:=fun a b d ⟨h1,h2,h3⟩ => ⟨hx.symm.trans h1,hy.symm.trans h2,hz.symm.trans h3⟩
 have Key:=Lib.hid key
 clear key hx hy hz
 go_enter Tryd.func129,Tryd.ntmps129
 go_wp2
 all_goals go_ret3
 all_goals
  refine ⟨?_,rfl⟩
  have fin : ∀ a b d : Int,(bgLo c=a∧bgHi c=b∧bgM c=d)→Ending.returned (.tuple #[.int .u8 a,.int .u8 b,.int .i64 d])=.returned (.tuple #[.int .u8 x,.int .u8 y,.int .i64 z]):=fun a b d hh => by obtain ⟨rfl,rfl,rfl⟩:=Key.out a b d hh;rfl
  refine fin _ _ _ ?_
  try simp only [beq_iff_eq,beq_eq_false_iff_ne,ne_eq] at *
  refine ⟨?_,?_,?_⟩
  ·unfold bgLo
   repeat' split
   all_goals omega
  ·unfold bgHi
   repeat' split
   all_goals omega
  ·unfold bgM bgN
   repeat' split
   all_goals omega
end Go.Proofs.YtfbgmlophkbejaaDoor
set_option linter.unusedVariables false
set_option linter.unusedSimpArgs false
namespace Go.Proofs.YtfbgmlophkbejaaDoor
open Go.RowKit Go.Proofs.YtfbgmlophkbejaaDoorW.PrintWords Go.Proofs.YtfbgmlophkbejaaDoorW.PrintLast
abbrev pcV (a : Int) (p : Pc) : Value:=.agg #[.int .i64 a,.int .i64 p.size,.int .i32 p.rune,.bool p.bad]
structure FAt (t : ByteArray) (lo hi m n : Int) : Prop where
 one : 1≤n
 size : n≤t.size
 ok : ∀ i,1≤i→i < n→okB t i
 more : m=bgM (bt t 0) + 1 - n
 pos : 0≤m
 lohi : (n=1∧lo=bgLo (bt t 0)∧hi=bgHi (bt t 0)) ∨ (n ≠ 1∧lo=128∧hi=191)
theorem FAt.start (t : ByteArray) (ht : 0 < t.size) : FAt t (bgLo (bt t 0)) (bgHi (bt t 0)) (bgM (bt t 0)) 1 :=
 ⟨by omega,by omega,fun i _ _ => by omega,by omega,by have:=bgN_range (bt t 0);unfold bgM;split <;> omega,Or.inl ⟨rfl,rfl,rfl⟩⟩
theorem FAt.in_ {t : ByteArray} {lo hi m n : Int} (h : FAt t lo hi m n) : okB t n ↔ lo≤bt t n∧bt t n≤hi:=by
 rcases h.lohi with ⟨rfl,rfl,rfl⟩|⟨hn,rfl,rfl⟩
 ·exact ⟨fun k => by rcases k with k|k;exact k.2;exact absurd rfl k.1,fun k => Or.inl ⟨rfl,k⟩⟩
 ·exact ⟨fun k => by rcases k with k|k;exact absurd k.1 hn;exact k.2,fun k => Or.inr ⟨hn,k⟩⟩
theorem FAt.next {t : ByteArray} {lo hi m n : Int} (h : FAt t lo hi m n) (h1 : 0 < m) (h2 : n < t.size) (h3 : lo≤bt t n∧bt t n≤hi) : FAt t 128 191 (m - 1) (n + 1):=by
 have hp:=h.one
 refine ⟨by omega,by omega,fun i hi hl => ?_,by have:=h.more;omega,by omega,Or.inr ⟨by omega,rfl,rfl⟩⟩
 by_cases e : i=n
 ·rw [e];exact h.in_.2 h3
 ·exact h.ok i hi (by omega)
theorem bgM_is (c : Int) (h : bgN c ≠ 1) : (bgN c=0∧bgM c=0) ∨ (2≤bgN c∧bgM c=bgN c - 1):=by
 have:=bgN_range c
 unfold bgM
 split <;> omega
theorem FAt.small {t : ByteArray} {lo hi m n : Int} (h : FAt t lo hi m n) : m≤3∧n≤4:=by
 have h1:=h.one
 have h2:=h.more
 have h3:=h.pos
 have:=bgN_range (bt t 0)
 have : bgM (bt t 0)≤3:=by unfold bgM;split <;> omega
 omega
theorem FAt.done {t : ByteArray} {lo hi m n : Int} (h : FAt t lo hi m n) (ht : 0 < t.size) (hc : bgN (bt t 0) ≠ 1) (h1 : 0 < m→n < t.size→¬ (lo≤bt t n∧bt t n≤hi)) : runT t=n:=by
 have hp:=h.one
 have hs:=h.size
 have hm:=h.more
 have h0:=h.pos
 have hb:=bgM_is _ hc
 refine (RunIs.eq ⟨h.one,h.ok,h.size,by omega,?_⟩ ht).symm
 by_cases c1 : 0 < m
 ·by_cases c2 : n < t.size
  ·exact Or.inr (Or.inr fun k => h1 c1 c2 (h.in_.1 k))
  ·exact Or.inr (Or.inl (by omega))
 ·exact Or.inl (by omega)
theorem FAt.whole {t : ByteArray} {lo hi m n : Int} (h : FAt t lo hi m n) (hc : bgN (bt t 0) ≠ 1) (hr : runT t=n) : (m=0∧1 < n ↔ runT t=bgN (bt t 0)):=by
 have hp:=h.one
 have hm:=h.more
 have hb:=bgM_is _ hc
 omega
theorem FAt.open_ {t : ByteArray} {lo hi m n : Int} (h : FAt t lo hi m n) (hc : bgN (bt t 0) ≠ 1) (hr : runT t=n) (hn : ¬ (m=0∧1 < n)) : opnT t=decide (0 < m∧n=t.size):=by
 have hp:=h.one
 have hm:=h.more
 have h0:=h.pos
 have hb:=bgM_is _ hc
 unfold opnT
 rw [hr]
 exact decide_eq_decide.2 (by omega)
theorem ascii_run {t : ByteArray} (ht : 0 < t.size) (h : bt t 0 < 128) : fstT t=⟨1,bt t 0,false⟩∧opnT t=false:=by
 have hb : bgN (bt t 0)=1:=by unfold bgN;rw [if_pos h]
 have hr : runT t=1:=by unfold runT;rw [if_pos (by omega)]
 constructor
 ·unfold fstT
  rw [hr,hb,if_pos rfl]
  unfold valT lead
  rw [if_pos rfl,if_pos h]
 ·unfold opnT
  rw [hr,hb]
  exact decide_eq_false (by omega)
theorem ret_blk_tmp {P : Program} {fn : Func} {p u : Tmp} {ty : TypeId} (h : fn.results=#[.cell p ty,.tmp u]) (tmps : Array Value) (w : World) (g : Nat) (t : TypeId) (cs : Array Value) (d : TypeDesc)
  (hp : tmps.getD p undef=.pointer (some ⟨g,0,none⟩)) (hb : Blk w g t cs) (hu : P.underlying ty=some d) (hd : (match d with|.struct _|.array _ _ => true|_ => false)=true) (n : Nat) (hi : (P.info? ty).map (·.size)=some n) (hn : cs.size=n) :
  (results fn tmps).run P w=.ok (.tuple #[.agg cs,tmps.getD u undef]) w:=by
 rw [results_cell_tmp h tmps P w,hp]
 simp only [asAddr,Sem.run_pure,Result.andThen_ok,run_loadVar_row w g t ty cs (0,0) d hb hu hd (by rw [hi,hn])]
theorem Blk.facts {w : World} {g : Nat} {t : TypeId} {a b c d : Value} (h : Blk w g t #[a,b,c,d]) :
  w.cell? ⟨g,0,none⟩=some a∧w.cell? ⟨g,1,none⟩=some b∧w.cell? ⟨g,2,none⟩=some c∧w.cell? ⟨g,3,none⟩=some d∧w.frozen? ⟨g,0,none⟩=false∧w.frozen? ⟨g,1,none⟩=false∧w.frozen? ⟨g,2,none⟩=false∧w.frozen? ⟨g,3,none⟩=false :=
 ⟨h.cell 0,h.cell 1,h.cell 2,h.cell 3,h.frozen 0,h.frozen 1,h.frozen 2,h.frozen 3⟩
theorem size_pc : (Tryd.prog.info? 149).map (·.size)=some 4:=by kernel_rfl
set_option maxRecDepth 100000 in
set_option maxHeartbeats 4000000 in
theorem first_any (t : ByteArray) (w : World) (ht : 0 < t.size) (hs : t.size≤140737488351232) (T : Tabs w) :
  Calls Tryd.prog 121 #[.string t] w fun e w' => e=.returned (.tuple #[pcV 0 (fstT t),.bool (opnT t)])∧Below w.heap.size w w':=by
 have hbt:=bt_at t 0
 simp only [show (0 : Int).toNat=0 from rfl] at hbt
 have hbr:=bt_range t 0
 by_cases hc : bt t 0 < 128
 ·obtain ⟨e1,e2⟩:=ascii_run ht hc
  rw [e1,e2]
  go_enter Tryd.func121,Tryd.ntmps121
  go_wp2
  exact bodyPost_ret (v:=.tuple #[pcV 0 ⟨1,bt t 0,false⟩,.bool false]) (by simp [results,Tryd.results121,go_sem]) rfl ⟨rfl,below_one _ _⟩
 ·have hcn : bgN (bt t 0) ≠ 1:=fun h => by have:=bgN_one h;omega
  have hsec:=fun W => second_any (bt t 0) W (by omega)
  have Hst:=Lib.hid (FAt.start t ht)
  have hge : ¬ bt t 0 < 128:=hc
  obtain ⟨R,hR⟩ : ∃ R,fstT t=R:=⟨_,rfl⟩
  obtain ⟨O,hO⟩ : ∃ O,opnT t=O:=⟨_,rfl⟩
  rw [hR,hO]
  go_enter Tryd.func121,Tryd.ntmps121
  go_wp2_with (go_at_call 129;(with_reducible refine (hsec _).mono ?_);rintro e w1 ⟨rfl,rfl⟩)
  go_loopw [5,6,7,8] (fun lo hi m n wr => ∃ lo' hi' m' n' : Int,lo=.int .u8 lo'∧hi=.int .u8 hi'∧m=.int .i64 m'∧n=.int .i64 n'∧FAt t lo' hi' m' n'∧Blk wr w.heap.size 149 #[.int .i64 0,.int .i64 0,.int .i32 0,.bool false]∧Below w.heap.size w wr) (fun _ _ _ n _ => t.size - (intOf n).toNat)
  case atStart => exact ⟨_,_,_,_,rfl,rfl,rfl,rfl,Hst.out,Blk.new _ _ _,below_one _ _⟩
  case round =>
   clear Hst
   obtain ⟨lo,hi,m,n,rfl,rfl,rfl,rfl,hF,hB,hbel⟩:=hrel
   have h1:=hF.one
   have h2:=hF.size
   have h3:=hF.pos
   have h4:=hF.small
   have hbt:=bt_at t n
   have hbr:=bt_range t n
   by_cases hgo : 0 < m∧n < t.size∧lo≤bt t n∧bt t n≤hi
   ·obtain ⟨c1,c2,c3,c4⟩:=hgo
    have HN:=Lib.hid (hF.next c1 c2 ⟨c3,c4⟩)
    clear hF
    go_wp2
    exact ⟨⟨_,_,_,_,rfl,rfl,rfl,rfl,HN.out,hB,hbel⟩,by simp [intOf];omega⟩
   ·have hr:=hF.done ht hcn (fun a b c => hgo ⟨a,b,c.1,c.2⟩)
    have hcase : ¬ 0 < m ∨ (0 < m∧¬ n < t.size) ∨ (0 < m∧n < t.size∧¬ lo≤bt t n) ∨ (0 < m∧n < t.size∧lo≤bt t n∧¬ bt t n≤hi):=by omega
    have hwh:=hF.whole hcn hr
    by_cases hw : m=0∧1 < n
    ·have hq:=hwh.1 hw
     have e1 : fstT t=⟨n,valT t n,false⟩:=by unfold fstT;rw [if_pos hq,hr]
     have e2 : opnT t=false:=by unfold opnT;exact decide_eq_false (by omega)
     have hdec:=decode_whole t ht hq (by omega)
     have hD:=Tryd.utf8_DecodeRuneInString (t.extract 0 n.toNat) wr (Utf8Tabs_below T hbel)
     rw [hr] at hdec
     rw [hdec] at hD
     generalize (Lib.decodeGo (t.extract 0 n.toNat)).2=K at hD
     have HD:=Lib.hid hD
     generalize valT t n=v at *
     have hR':=Lib.hid (hR.symm.trans e1)
     have hO':=Lib.hid (hO.symm.trans e2)
     clear hD hdec e1 e2 hwh hF hgo hcase hq hr hR hO
     have hBb:=fun (W : World) (h : Below wr.heap.size wr W) => hB.after h
     obtain ⟨rfl,hn1⟩:=hw
     go_wp2_with (go_at_call 95;(with_reducible refine (HD.out).mono ?_);rintro e w1 ⟨rfl,hb1⟩;have hB1:=hBb w1 hb1;have hbel1:=Zf hbel hb1;(obtain ⟨g0,g1,g2,g3,g4,g5,g6,g7⟩:=Blk.facts hB1))
     exact bodyPost_ret (ret_blk_tmp (ty:=149) rfl _ _ _ _ _ _ rfl ((((hB1.set_ 0 _).set_ 1 _).set_ 2 _).set_ 3 _) Tryd.underlying149 rfl 4 size_pc rfl) rfl ⟨by rw [hR'.out,hO'.out];rfl,below_set (below_set (below_set (below_set hbel1 (Nat.le_refl _) _) (Nat.le_refl _) _) (Nat.le_refl _) _) (Nat.le_refl _) _⟩
    ·have hq : ¬ runT t=bgN (bt t 0):=fun h => hw (hwh.2 h)
     have e1 : fstT t=⟨n,65533,true⟩:=by unfold fstT;rw [if_neg hq,hr]
     have e2:=hF.open_ hcn hr hw
     have hR':=Lib.hid (hR.symm.trans e1)
     rw [hO] at e2
     clear e1 hwh hF hgo hq hr hR hO
     obtain ⟨g0,g1,g2,g3,g4,g5,g6,g7⟩:=Blk.facts hB
     by_cases hop : 0 < m∧n=t.size
     ·rw [decide_eq_true hop] at e2
      obtain ⟨ho1,ho2⟩:=hop
      subst ho2
      have hO':=Lib.hid e2
      clear e2
      rcases hcase with c|⟨c1,c2⟩|⟨c1,c2,c3⟩|⟨c1,c2,c3,c4⟩
      ·exact absurd ho1 c
      all_goals
       go_wp2 <;> exact bodyPost_ret (ret_blk_tmp (ty:=149) rfl _ _ _ _ _ _ rfl ((((hB.set_ 0 _).set_ 1 _).set_ 2 _).set_ 3 _) Tryd.underlying149 rfl 4 size_pc rfl) rfl ⟨by rw [hR'.out,hO'.out];rfl,below_set (below_set (below_set (below_set hbel (Nat.le_refl _) _) (Nat.le_refl _) _) (Nat.le_refl _) _) (Nat.le_refl _) _⟩
     ·rw [decide_eq_false hop] at e2
      have hO':=Lib.hid e2
      clear e2
      rcases hcase with c|⟨c1,c2⟩|⟨c1,c2,c3⟩|⟨c1,c2,c3,c4⟩
      all_goals
       go_wp2 <;> exact bodyPost_ret (ret_blk_tmp (ty:=149) rfl _ _ _ _ _ _ rfl ((((hB.set_ 0 _).set_ 1 _).set_ 2 _).set_ 3 _) Tryd.underlying149 rfl 4 size_pc rfl) rfl ⟨by rw [hR'.out,hO'.out];first|rfl|(rw [show (n == (t.size : Int))=false from beq_eq_false_iff_ne.2 (by omega)];rfl),below_set (below_set (below_set (below_set hbel (Nat.le_refl _) _) (Nat.le_refl _) _) (Nat.le_refl _) _) (Nat.le_refl _) _⟩
end Go.Proofs.YtfbgmlophkbejaaDoor
set_option linter.unusedVariables false
set_option linter.unusedSimpArgs false
namespace Go.Proofs.YtfbgmlophkbejaaDoor
open Go.RowKit Go.Proofs.YtfbgmlophkbejaaDoorW.PrintWords Go.Proofs.YtfbgmlophkbejaaDoorW.PrintLast
set_option maxHeartbeats 1000000 in
theorem begins_any (c : Int) (w : World) (h : 0≤c∧c≤255) : Calls Tryd.prog 130 #[.int .u8 c] w fun e w' => e=.returned (.tuple #[.int .i64 (bgN c),.int .u8 (bgLo c),.int .u8 (bgHi c)])∧w'=w:=by
 obtain ⟨x,hx⟩ : ∃ x,bgLo c=x:=⟨_,rfl⟩
 obtain ⟨y,hy⟩ : ∃ y,bgHi c=y:=⟨_,rfl⟩
 obtain ⟨z,hz⟩ : ∃ z,bgN c=z:=⟨_,rfl⟩
 rw [hx,hy,hz]
 have key : ∀ a b d : Int,(bgLo c=a∧bgHi c=b∧bgN c=d)→x=a∧y=b∧z=d:=fun a b d ⟨h1,h2,h3⟩ => ⟨hx.symm.trans h1,hy.symm.trans h2,hz.symm.trans h3⟩
 have Key:=Lib.hid key
 clear key hx hy hz
 go_enter Tryd.func130,Tryd.ntmps130
 go_wp2
 all_goals go_ret3
 all_goals
  refine ⟨?_,rfl⟩
  have fin : ∀ a b d : Int,(bgLo c=a∧bgHi c=b∧bgN c=d)→Ending.returned (.tuple #[.int .i64 d,.int .u8 a,.int .u8 b])=.returned (.tuple #[.int .i64 z,.int .u8 x,.int .u8 y]):=fun a b d hh => by obtain ⟨rfl,rfl,rfl⟩:=Key.out a b d hh;rfl
  refine fin _ _ _ ?_
  try simp only [beq_iff_eq,beq_eq_false_iff_ne,ne_eq] at *
  refine ⟨?_,?_,?_⟩
  ·unfold bgLo
   repeat' split
   all_goals omega
  ·unfold bgHi
   repeat' split
   all_goals omega
  ·unfold bgN
   repeat' split
   all_goals omega
structure SAt (t : ByteArray) (lo hi n : Int) : Prop where
 one : 1≤n
 size : n≤t.size
 most : n≤bgN (bt t 0)
 ok : ∀ i,1≤i→i < n→okB t i
 lohi : n=1→lo=bgLo (bt t 0)∧hi=bgHi (bt t 0)
theorem SAt.start (t : ByteArray) (ht : 0 < t.size) (h2 : 2≤bgN (bt t 0)) : SAt t (bgLo (bt t 0)) (bgHi (bt t 0)) 1 :=
 ⟨by omega,by omega,by omega,fun i _ _ => by omega,fun _ => ⟨rfl,rfl⟩⟩
theorem SAt.in_ {t : ByteArray} {lo hi n lo' hi' : Int} (h : SAt t lo hi n) (h1 : n=1→lo'=lo∧hi'=hi) (h2 : n ≠ 1→lo'=128∧hi'=191) : okB t n ↔ lo'≤bt t n∧bt t n≤hi':=by
 by_cases e : n=1
 ·subst e
  obtain ⟨rfl,rfl⟩:=h1 rfl
  obtain ⟨rfl,rfl⟩:=h.lohi rfl
  exact ⟨fun k => by rcases k with k|k;exact k.2;exact absurd rfl k.1,fun k => Or.inl ⟨rfl,k⟩⟩
 ·obtain ⟨rfl,rfl⟩:=h2 e
  exact ⟨fun k => by rcases k with k|k;exact absurd k.1 e;exact k.2,fun k => Or.inr ⟨e,k⟩⟩
theorem SAt.next {t : ByteArray} {lo hi n : Int} (h : SAt t lo hi n) (h1 : n < bgN (bt t 0)) (h2 : n < t.size) (h3 : okB t n) (lo' hi' : Int) : SAt t lo' hi' (n + 1):=by
 have hp:=h.one
 refine ⟨by omega,by omega,by omega,fun i hi hl => ?_,fun e => by omega⟩
 by_cases e : i=n
 ·rw [e];exact h3
 ·exact h.ok i hi (by omega)
theorem SAt.done {t : ByteArray} {lo hi n : Int} (h : SAt t lo hi n) (ht : 0 < t.size) (h1 : n < bgN (bt t 0)→n < t.size→¬ okB t n) : runT t=n:=by
 have hs:=h.size
 have hm:=h.most
 refine (RunIs.eq ⟨h.one,h.ok,h.size,Or.inr hm,?_⟩ ht).symm
 by_cases c1 : n < bgN (bt t 0)
 ·by_cases c2 : n < t.size
  ·exact Or.inr (Or.inr (h1 c1 c2))
  ·exact Or.inr (Or.inl (by omega))
 ·exact Or.inl (by omega)
set_option maxRecDepth 100000 in
set_option maxHeartbeats 4000000 in
theorem stands_any (t : ByteArray) (w : World) (ht : 0 < t.size) (hs : t.size≤140737488351232) :
  Calls Tryd.prog 123 #[.string t] w fun e w' => e=.returned (.tuple #[.int .i64 (runT t),.int .i64 (bgN (bt t 0))])∧Below w.heap.size w w':=by
 have hbt:=bt_at t 0
 simp only [show (0 : Int).toNat=0 from rfl] at hbt
 have hbr:=bt_range t 0
 have hbg:=fun W => begins_any (bt t 0) W hbr
 have hr4:=bgN_range (bt t 0)
 obtain ⟨R,hR⟩ : ∃ R,runT t=R:=⟨_,rfl⟩
 have hst:=SAt.start t ht
 have hdone:=fun (lo hi n : Int) (h : SAt t lo hi n) h1 => hR.symm.trans (h.done ht h1)
 have hnext:=fun (lo hi n : Int) (h : SAt t lo hi n) => h.next
 rw [hR]
 by_cases h2 : bgN (bt t 0) < 2
 ·have e : R=1:=by rw [← hR];unfold runT;rw [if_pos h2]
  subst e
  clear hst hdone hnext hR
  generalize bgN (bt t 0)=B at *
  generalize bgLo (bt t 0)=L at *
  generalize bgHi (bt t 0)=H at *
  have Hbg:=Lib.hid hbg
  clear hbg
  go_enter Tryd.func123,Tryd.ntmps123
  go_wp2_with (go_at_call 130;(with_reducible refine (Hbg.out _).mono ?_);rintro e w1 ⟨rfl,hw1⟩;obtain rfl : w=w1:=hw1.symm)
  go_ret2
  exact ⟨rfl,by first|exact Below.refl _ _|exact below_drewN (Below.refl _ _) _⟩
 ·have Hst:=Lib.hid (hst (by omega))
  have Hd:=Lib.hid hdone
  have Hn:=Lib.hid hnext
  clear hst hdone hnext hR
  generalize bgN (bt t 0)=B at *
  generalize bgLo (bt t 0)=L at *
  generalize bgHi (bt t 0)=H at *
  have Hbg:=Lib.hid hbg
  clear hbg
  go_enter Tryd.func123,Tryd.ntmps123
  go_wp2_with (go_at_call 130;(with_reducible refine (Hbg.out _).mono ?_);rintro e w1 ⟨rfl,hw1⟩;obtain rfl : w=w1:=hw1.symm)
  go_loopw [5,6,7] (fun lo hi n wr => ∃ lo' hi' n' : Int,lo=.int .u8 lo'∧hi=.int .u8 hi'∧n=.int .i64 n'∧SAt t lo' hi' n'∧n'≤B∧Below w.heap.size w wr) (fun _ _ n _ => t.size - (intOf n).toNat)
  case atStart => exact ⟨_,_,_,rfl,rfl,rfl,Hst.out,by omega,by first|exact Below.refl _ _|exact below_drewN (Below.refl _ _) _⟩
  case round =>
   clear Hst
   obtain ⟨lo,hi,n,rfl,rfl,rfl,hF,hnB,hbel⟩:=hrel
   have g1:=hF.one
   have g2:=hF.size
   have hbt:=bt_at t n
   have hbr:=bt_range t n
   have HF:=Lib.hid hF
   have hin1:=fun h => hF.in_ (lo':=lo) (hi':=hi) (fun _ => ⟨rfl,rfl⟩) h
   have hin2:=fun h => hF.in_ (lo':=128) (hi':=191) h (fun _ => ⟨rfl,rfl⟩)
   clear hF
   by_cases c1 : n < B
   ·by_cases c2 : n < t.size
    ·by_cases c3 : n=1
     ·have hin:=hin1 (fun h => absurd c3 h)
      clear hin1 hin2
      by_cases c4 : lo≤bt t n∧bt t n≤hi
      ·have HN:=fun a b => Lib.hid (Hn.out _ _ _ HF.out c1 c2 (hin.2 c4) a b)
       obtain ⟨c5,c6⟩:=c4
       clear hin
       subst c3
       simp only [show (1 : Int).toNat=1 from rfl] at hbt
       have c2n : 1 < t.size:=by omega
       go_wp2
       exact ⟨⟨_,_,_,rfl,rfl,rfl,(HN _ _).out,by omega,hbel⟩,by simp [intOf];omega⟩
      ·have HR:=Lib.hid (Hd.out _ _ _ HF.out (fun _ _ k => c4 (hin.1 k)))
       have c5 : ¬ lo≤bt t n ∨ (lo≤bt t n∧¬ bt t n≤hi):=by omega
       clear hin c4
       subst c3
       simp only [show (1 : Int).toNat=1 from rfl] at hbt
       have c2n : 1 < t.size:=by omega
       rcases c5 with c5|⟨c5,c6⟩
       all_goals
        go_wp2
        go_ret2
        exact ⟨by rw [HR.out];rfl,hbel⟩
     ·have hin:=hin2 (fun h => absurd h c3)
      clear hin1 hin2
      by_cases c4 : 128≤bt t n∧bt t n≤191
      ·have HN:=fun a b => Lib.hid (Hn.out _ _ _ HF.out c1 c2 (hin.2 c4) a b)
       obtain ⟨c5,c6⟩:=c4
       clear hin
       go_wp2
       exact ⟨⟨_,_,_,rfl,rfl,rfl,(HN _ _).out,by omega,hbel⟩,by simp [intOf];omega⟩
      ·have HR:=Lib.hid (Hd.out _ _ _ HF.out (fun _ _ k => c4 (hin.1 k)))
       have c5 : ¬ 128≤bt t n ∨ (128≤bt t n∧¬ bt t n≤191):=by omega
       clear hin c4
       rcases c5 with c5|⟨c5,c6⟩
       all_goals
        go_wp2
        go_ret2
        exact ⟨by rw [HR.out];rfl,hbel⟩
    ·have HR:=Lib.hid (Hd.out _ _ _ HF.out (fun _ h => absurd h c2))
     clear hin1 hin2
     go_wp2
     go_ret2
     exact ⟨by rw [HR.out];rfl,hbel⟩
   ·have HR:=Lib.hid (Hd.out _ _ _ HF.out (fun h _ => absurd h c1))
    clear hin1 hin2
    go_wp2
    go_ret2
    exact ⟨by rw [HR.out];rfl,hbel⟩
end Go.Proofs.YtfbgmlophkbejaaDoor
set_option linter.unusedVariables false
set_option linter.unusedSimpArgs false
namespace Go.Proofs.YtfbgmlophkbejaaDoor
open Go.RowKit Go.Proofs.YtfbgmlophkbejaaDoorW.PrintWords Go.Proofs.YtfbgmlophkbejaaDoorW.PrintLast
theorem valT_one (t : ByteArray) : valT t 1=lead (bt t 0):=by unfold valT;rw [if_pos rfl]
theorem valT_step (t : ByteArray) (i : Int) (h1 : 1≤i) (h3 : i≤3) : valT t (i + 1)=64 * valT t i + bt t i - 128:=by
 rcases (show i=1 ∨ i=2 ∨ i=3 by omega) with rfl|rfl|rfl
 ·rfl
 ·rfl
 ·rfl
theorem valT_small (t : ByteArray) (i : Int) (h1 : 1≤i) (h3 : i≤3) (hl : 0≤lead (bt t 0)∧lead (bt t 0)≤31) : -1000000≤valT t i∧valT t i≤1000000:=by
 have b1:=bt_range t 1
 have b2:=bt_range t 2
 rcases (show i=1 ∨ i=2 ∨ i=3 by omega) with rfl|rfl|rfl
 ·rw [valT_one];omega
 ·rw [show (2 : Int)=1 + 1 from rfl,valT_step t 1 (by omega) (by omega),valT_one];omega
 ·rw [show (3 : Int)=2 + 1 from rfl,valT_step t 2 (by omega) (by omega),show (2 : Int)=1 + 1 from rfl,valT_step t 1 (by omega) (by omega),valT_one]
  simp only [show (1 : Int) + 1=2 from rfl]
  omega
theorem lead_small (c : Int) (h : 194≤c∧c≤244) : 0≤lead c∧lead c≤31:=by
 unfold lead
 repeat' split
 all_goals omega
theorem size_rpc : (Tryd.prog.info? 135).map (·.size)=some 4:=by kernel_rfl
set_option maxRecDepth 100000 in
set_option maxHeartbeats 4000000 in
theorem RFirst_any (t : ByteArray) (w : World) (ht : 0 < t.size) (hs : t.size≤140737488351232) :
  Calls Tryd.prog 110 #[.string t] w fun e w' => e=.returned (pcV 0 (fstT t))∧Below w.heap.size w w':=by
 have hbt:=bt_at t 0
 simp only [show (0 : Int).toNat=0 from rfl] at hbt
 have hbr:=bt_range t 0
 have hst:=fun W => stands_any t W ht hs
 have hr4:=run_le4 ht
 have hb4:=bgN_range (bt t 0)
 obtain ⟨R,hR⟩ : ∃ R,fstT t=R:=⟨_,rfl⟩
 by_cases hq : runT t=bgN (bt t 0)
 ·have e1 : R=⟨runT t,valT t (runT t),false⟩:=by rw [← hR];unfold fstT;rw [if_pos hq]
  have hwh:=whole_is ht hq
  have hsz:=hwh.size
  rw [← hq] at hst
  generalize hn : runT t=n at *
  have Hst:=Lib.hid hst
  rw [hR]
  clear hst hR
  have hk:=hwh.kind
  have Hs:=fun i h1 h3 => Lib.hid (valT_step t i h1 h3)
  have h1:=valT_one t
  by_cases c1 : n=1
  ·subst c1
   have hc : bt t 0 < 128:=by omega
   have hv : valT t 1=bt t 0:=by rw [h1];unfold lead;rw [if_pos hc]
   rw [hv] at e1
   have E1:=Lib.hid e1
   clear e1 hwh hk Hs h1 hq hn hv
   go_enter Tryd.func110,Tryd.ntmps110
   go_wp2_with (go_at_call 123;(with_reducible refine (Hst.out _).mono ?_);rintro e w1 ⟨rfl,hb1⟩;have hB1:=(Blk.new w 135 #[.int .i64 0,.int .i64 0,.int .i32 0,.bool false]).after hb1;have hbel1:=Zf (below_one w _) hb1;(obtain ⟨g0,g1,g2,g3,g4,g5,g6,g7⟩:=Blk.facts hB1))
   refine wp_loop_rounds 1 ?_
   rw [rounds_succ]
   go_wp2
   exact bodyPost_ret (ret_blk (ty:=135) rfl _ _ _ _ _ _ rfl ((((hB1.set_ 0 _).set_ 1 _).set_ 2 _).set_ 3 _) Tryd.underlying135 rfl 4 size_rpc rfl) rfl ⟨by rw [E1.out];rfl,below_set (below_set (below_set (below_set hbel1 (Nat.le_refl _) _) (Nat.le_refl _) _) (Nat.le_refl _) _) (Nat.le_refl _) _⟩
  ·have hn2 : 2≤n∧n≤4:=by omega
   have hc : 194≤bt t 0∧bt t 0≤244:=by omega
   have hsm:=fun i h1 h3 => valT_small t i h1 h3 (lead_small _ hc)
   have Hsm:=fun i h1 h3 => Lib.hid (hsm i h1 h3)
   have E1:=Lib.hid e1
   have H1:=Lib.hid h1
   clear e1 hwh hk h1 hq hn hsm
   go_enter Tryd.func110,Tryd.ntmps110
   go_wp2_with (go_at_call 123;(with_reducible refine (Hst.out _).mono ?_);rintro e w1 ⟨rfl,hb1⟩;have hB1:=(Blk.new w 135 #[.int .i64 0,.int .i64 0,.int .i32 0,.bool false]).after hb1;have hbel1:=Zf (below_one w _) hb1)
   go_loopw [5,6] (fun r m wr => ∃ r' m' : Int,r=.int .i32 r'∧m=.int .i32 m'∧((m'=128∧r'=bt t 0) ∨ (m'=64∧r'=bt t 0 - 128) ∨ (m'=32∧r'=bt t 0 - 192) ∨ (m'=16∧r'=bt t 0 - 224) ∨ (m'=8∧r'=bt t 0 - 240))∧(224≤bt t 0 ∨ 32≤m')∧(240≤bt t 0 ∨ 16≤m')∧Blk wr w.heap.size 135 #[.int .i64 0,.int .i64 0,.int .i32 0,.bool false]∧Below w.heap.size w wr) (fun _ m _ => (intOf m).toNat)
   case atStart => exact ⟨_,_,rfl,rfl,Or.inl ⟨rfl,rfl⟩,by omega,by omega,hB1,hbel1⟩
   case round =>
    obtain ⟨r,m,rfl,rfl,hrm,ha,hb,hB,hbel⟩:=hrel
    by_cases hge : m≤r
    ·have hm : m / 2=64 ∨ m / 2=32 ∨ m / 2=16 ∨ m / 2=8:=by omega
     go_wp2
     exact ⟨⟨_,_,rfl,rfl,by omega,by omega,by omega,hB,hbel⟩,by simp [intOf];omega⟩
    ·have hl : r=lead (bt t 0):=by
      unfold lead
      repeat' split
      all_goals omega
     have hv : r=valT t 1:=hl.trans H1.out.symm
     have HV:=Lib.hid hv
     clear hrm ha hb hl hv
     go_wp2
     go_loopw [5,7] (fun r i wr => ∃ r' i' : Int,r=.int .i32 r'∧i=.int .i64 i'∧r'=valT t i'∧1≤i'∧i'≤n∧Blk wr w.heap.size 135 #[.int .i64 0,.int .i64 0,.int .i32 0,.bool false]∧Below w.heap.size w wr) (fun _ i _ => n.toNat - (intOf i).toNat)
     case atStart => exact ⟨_,_,rfl,rfl,HV.out,by omega,by omega,hB,hbel⟩
     case round =>
      clear HV hB hbel hge
      obtain ⟨x,i,rfl,rfl,hx,hi1,hi2,hB,hbel⟩:=hrel
      have hbi:=bt_at t i
      have hbir:=bt_range t i
      by_cases hlt : i < n
      ·have hstep:=(Hs i hi1 (by omega)).out
       have hsm:=(Hsm i hi1 (by omega)).out
       rw [← hx] at hstep hsm
       have HST:=Lib.hid hstep
       have hin : i.toNat < t.size:=by omega
       clear hstep hx
       go_wp2
       exact ⟨⟨_,_,rfl,rfl,HST.out.symm,by omega,by omega,hB,hbel⟩,by simp [intOf];omega⟩
      ·obtain rfl : i=n:=by omega
       obtain ⟨g0,g1,g2,g3,g4,g5,g6,g7⟩:=Blk.facts hB
       have HX:=Lib.hid hx
       clear hx
       go_wp2
       exact bodyPost_ret (ret_blk (ty:=135) rfl _ _ _ _ _ _ rfl ((((hB.set_ 0 _).set_ 1 _).set_ 2 _).set_ 3 _) Tryd.underlying135 rfl 4 size_rpc rfl) rfl ⟨by rw [E1.out,← HX.out];rfl,below_set (below_set (below_set (below_set hbel (Nat.le_refl _) _) (Nat.le_refl _) _) (Nat.le_refl _) _) (Nat.le_refl _) _⟩
 ·have e1 : R=⟨runT t,65533,true⟩:=by rw [← hR];unfold fstT;rw [if_neg hq]
  have Hst:=Lib.hid hst
  rw [hR]
  clear hst hR
  generalize runT t=n at *
  generalize bgN (bt t 0)=B at *
  have E1:=Lib.hid e1
  clear e1
  go_enter Tryd.func110,Tryd.ntmps110
  go_wp2_with (go_at_call 123;(with_reducible refine (Hst.out _).mono ?_);rintro e w1 ⟨rfl,hb1⟩;have hB1:=(Blk.new w 135 #[.int .i64 0,.int .i64 0,.int .i32 0,.bool false]).after hb1;have hbel1:=Zf (below_one w _) hb1;(obtain ⟨g0,g1,g2,g3,g4,g5,g6,g7⟩:=Blk.facts hB1))
  exact bodyPost_ret (ret_blk (ty:=135) rfl _ _ _ _ _ _ rfl ((((hB1.set_ 0 _).set_ 1 _).set_ 2 _).set_ 3 _) Tryd.underlying135 rfl 4 size_rpc rfl) rfl ⟨by rw [E1.out];rfl,below_set (below_set (below_set (below_set hbel1 (Nat.le_refl _) _) (Nat.le_refl _) _) (Nat.le_refl _) _) (Nat.le_refl _) _⟩
end Go.Proofs.YtfbgmlophkbejaaDoor
set_option linter.unusedVariables false
set_option linter.unusedSimpArgs false
namespace Go.Proofs.YtfbgmlophkbejaaDoor
open Go.RowKit Go.Proofs.YtfbgmlophkbejaaDoorW.PrintWords Go.Proofs.YtfbgmlophkbejaaDoorW.PrintLast
def PCell (p : Int × Pc) (c : List Value) : Prop:=c=[.int .i64 p.1,.int .i64 p.2.size,.int .i32 p.2.rune,.bool p.2.bad]
def PPost (T : TypeId) (L : List (Int × Pc)) (w : World) (e : Ending) (w' : World) : Prop :=
 Below w.heap.size w w'∧∃ v,e=.returned v∧OwnRow PCell T 4 w' w.heap.size v L
theorem info_pc : (Tryd.prog.info? 149).map (fun i => (i.zero,i.size,i.bytes))=some (some (.agg #[.int .i64 0,.int .i64 0,.int .i32 0,.bool false]),4,24):=by kernel_rfl
theorem info_rpc : (Tryd.prog.info? 135).map (fun i => (i.zero,i.size,i.bytes))=some (some (.agg #[.int .i64 0,.int .i64 0,.int .i32 0,.bool false]),4,24):=by kernel_rfl
theorem size_alloc (w : World) (o : Obj) : (w.alloc o).heap.size=w.heap.size + 1:=by simp
theorem own_row_lt {α : Type} {R : α→List Value→Prop} {e : TypeId} {size base : Nat} {w : World} {v : Value} {ps : List α} (h : OwnRow R e size w base v ps) (k : Nat) (hk : v.ownBlock=some k) : k < w.heap.size:=by
 obtain ⟨_,h,_⟩:=h
 exact own_lt h k hk
set_option maxRecDepth 100000 in
set_option maxHeartbeats 4000000 in
theorem Pieces_any (s : ByteArray) (w : World) (hs : s.size * 24 + 24≤140737488351232) (T : Tabs w) : Calls Tryd.prog 104 #[.string s] w (PPost 149 (pcs s 0) w):=by
 generalize hL : pcs s 0=L
 have HL:=Lib.hid hL
 clear hL
 go_enter Tryd.func104,Tryd.ntmps104
 go_wp2
 go_loopw [3,4] (fun u a wr => ∃ (i : Int) (acc : List (Int × Pc)),a=.int .i64 i∧0≤i∧i≤s.size∧Hid (acc++pcs s i=L)∧(acc.length : Int)≤i∧OwnRow PCell 149 4 wr w.heap.size u acc∧Below w.heap.size w wr) (fun _ a _ => s.size - (intOf a).toNat)
 case atStart => exact ⟨0,[],rfl,by omega,by omega,HL,by simp,OwnRow.none_ _ _ _ _ _,Below.refl _ _⟩
 case round =>
  clear HL
  obtain ⟨i,acc,rfl,h0,h1,hA,hlen,ho,hbel⟩:=hrel
  by_cases hlt : i < s.size
  ·have hgo:=pcs_go s i h0 hlt
   have hst:=fst_step s i h0 hlt
   have hts:=tail_size s i h0 (by omega)
   have hf:=first_any (tail s i) wr (by omega) (by omega) (Utf8Tabs_below T hbel)
   unfold tail at hf
   have HA : Hid ((acc++[(i,fstT (tail s i))])++pcs s (i + (fstT (tail s i)).size)=L):=Lib.hid (by rw [← hA.out,hgo];simp)
   change Calls _ _ _ _ fun e w' => e=.returned (.tuple #[pcV 0 (fstT (tail s i)),.bool (opnT (tail s i))])∧Below wr.heap.size wr w' at hf
   generalize fstT (tail s i)=p at *
   generalize opnT (tail s i)=o at *
   obtain ⟨n,r,b⟩:=p
   simp only at hst HA
   have Hf:=Lib.hid hf
   clear hf hgo hA hts
   obtain ⟨A0,c0,rfl,hc0⟩:=ho.slice_
   have hnb:=own_row_lt ho
   have hbz:=hbel.size
   go_wp2_with (first
    | (go_at_call 121;(with_reducible refine (Hf.out).mono ?_);rintro e w1 ⟨rfl,hb1⟩;have hz1:=hb1.size;have hq:=((fun h => OwnRow.below h (Zb hb1 (.cells #[.int .i64 i,.int .i64 n,.int .i32 r,.bool b] 149))) ho);have hq2:=Zb (Zf hbel hb1) (.cells #[.int .i64 i,.int .i64 n,.int .i32 r,.bool b] 149);have hfr : some w1.heap.size ≠ (Value.slice A0 acc.length c0).ownBlock:=fun e => (by have:=hnb _ e.symm;omega))
    | (at_builtin;refine OwnRow.append (R:=PCell) (w0:=w) (W:=w1.alloc (.cells #[.int .i64 i,.int .i64 n,.int .i32 r,.bool b] 149)) w.heap.size rfl (.tmp 20) (.tmp 22) 147 149 (.agg #[.int .i64 0,.int .i64 0,.int .i32 0,.bool false]) 4 24 rfl Tryd.underlying147 info_pc rfl (by decide) (by decide) (.slice A0 acc.length c0) acc (i,⟨n,r,b⟩) [.int .i64 i,.int .i64 n,.int .i32 r,.bool b] rfl (by rw [size_alloc];rfl) rfl rfl (fun u hu => by simp at hu;rcases hu with rfl | rfl | rfl | rfl <;> rfl) hq hq2 (by rw [size_alloc];omega) (by omega) ?_;intro v1 w2 ho2 hb2 hg2 hat2;obtain ⟨A2,c2,rfl,hc2⟩:=ho2.slice_;rw [List.length_append,List.length_singleton] at ho2;obtain ⟨d0,d1,d2,d3,d4,d5,d6,d7⟩:=Blk.facts ((Blk.new w1 149 #[.int .i64 i,.int .i64 n,.int .i32 r,.bool b]).grown hg2 hfr)))
   exact ⟨⟨_,_,rfl,by omega,by omega,HA,by rw [List.length_append,List.length_singleton];omega,ho2,hb2⟩,by simp [intOf];omega⟩
  ·obtain rfl : i=s.size:=by omega
   have hA2:=hA.out
   rw [pcs_end s _ (Int.le_refl _),List.append_nil] at hA2
   subst hA2
   go_wp2
   go_ret
   exact ⟨hbel,_,rfl,ho⟩
theorem row_lit0 {α : Type} {R : α→List Value→Prop} (w : World) (e : TypeId) (size : Nat) : OwnRow R e size (w.alloc (.cells #[] e)) w.heap.size (.slice (some ⟨w.heap.size,0,none⟩) 0 0) []:=OwnRow.lit w w.heap.size (Reps.none _ _) (Nat.le_refl _) (by simp)
set_option maxRecDepth 100000 in
set_option maxHeartbeats 4000000 in
theorem RPieces_any (s : ByteArray) (w : World) (hs : s.size * 24 + 24≤140737488351232) : Calls Tryd.prog 92 #[.string s] w (PPost 135 (pcs s 0) w):=by
 generalize hL : pcs s 0=L
 have HL:=Lib.hid hL
 clear hL
 go_enter Tryd.func92,Tryd.ntmps92
 go_wp2
 go_loopw [3,4] (fun u a wr => ∃ (i : Int) (acc : List (Int × Pc)),a=.int .i64 i∧0≤i∧i≤s.size∧Hid (acc++pcs s i=L)∧(acc.length : Int)≤i∧OwnRow PCell 135 4 wr w.heap.size u acc∧Below w.heap.size w wr) (fun _ a _ => s.size - (intOf a).toNat)
 case atStart => exact ⟨0,[],rfl,by omega,by omega,HL,by simp,row_lit0 _ _ _,below_one _ _⟩
 case round =>
  clear HL
  obtain ⟨i,acc,rfl,h0,h1,hA,hlen,ho,hbel⟩:=hrel
  by_cases hlt : i < s.size
  ·have hgo:=pcs_go s i h0 hlt
   have hst:=fst_step s i h0 hlt
   have hts:=tail_size s i h0 (by omega)
   have hf:=RFirst_any (tail s i) wr (by omega) (by omega)
   unfold tail at hf
   have HA : Hid ((acc++[(i,fstT (tail s i))])++pcs s (i + (fstT (tail s i)).size)=L):=Lib.hid (by rw [← hA.out,hgo];simp)
   change Calls _ _ _ _ fun e w' => e=.returned (pcV 0 (fstT (tail s i)))∧Below wr.heap.size wr w' at hf
   generalize fstT (tail s i)=p at *
   obtain ⟨n,r,b⟩:=p
   simp only at hst HA
   have Hf:=Lib.hid hf
   clear hf hgo hA hts
   obtain ⟨A0,c0,rfl,hc0⟩:=ho.slice_
   have hnb:=own_row_lt ho
   have hbz:=hbel.size
   go_wp2_with (first
    | (go_at_call 110;(with_reducible refine (Hf.out).mono ?_);rintro e w1 ⟨rfl,hb1⟩;have hz1:=hb1.size;have hq:=((fun h => OwnRow.below h (Zb hb1 (.cells #[.int .i64 i,.int .i64 n,.int .i32 r,.bool b] 135))) ho);have hq2:=Zb (Zf hbel hb1) (.cells #[.int .i64 i,.int .i64 n,.int .i32 r,.bool b] 135);have hfr : some w1.heap.size ≠ (Value.slice A0 acc.length c0).ownBlock:=fun e => (by have:=hnb _ e.symm;omega))
    | (at_builtin;refine OwnRow.append (R:=PCell) (w0:=w) (W:=w1.alloc (.cells #[.int .i64 i,.int .i64 n,.int .i32 r,.bool b] 135)) w.heap.size rfl (.tmp 17) (.tmp 19) 132 135 (.agg #[.int .i64 0,.int .i64 0,.int .i32 0,.bool false]) 4 24 rfl Tryd.underlying132 info_rpc rfl (by decide) (by decide) (.slice A0 acc.length c0) acc (i,⟨n,r,b⟩) [.int .i64 i,.int .i64 n,.int .i32 r,.bool b] rfl (by rw [size_alloc];rfl) rfl rfl (fun u hu => by simp at hu;rcases hu with rfl | rfl | rfl | rfl <;> rfl) hq hq2 (by rw [size_alloc];omega) (by omega) ?_;intro v1 w2 ho2 hb2 hg2 hat2;obtain ⟨A2,c2,rfl,hc2⟩:=ho2.slice_;rw [List.length_append,List.length_singleton] at ho2;obtain ⟨d0,d1,d2,d3,d4,d5,d6,d7⟩:=Blk.facts ((Blk.new w1 135 #[.int .i64 i,.int .i64 n,.int .i32 r,.bool b]).grown hg2 hfr)))
   exact ⟨⟨_,_,rfl,by omega,by omega,HA,by rw [List.length_append,List.length_singleton];omega,ho2,hb2⟩,by simp [intOf];omega⟩
  ·obtain rfl : i=s.size:=by omega
   have hA2:=hA.out
   rw [pcs_end s _ (Int.le_refl _),List.append_nil] at hA2
   subst hA2
   go_wp2
   go_ret
   exact ⟨hbel,_,rfl,ho⟩
end Go.Proofs.YtfbgmlophkbejaaDoor
set_option linter.unusedVariables false
set_option linter.unusedSimpArgs false
namespace Go.Proofs.YtfbgmlophkbejaaDoor
open Go.RowKit Go.Proofs.YtfbgmlophkbejaaDoorW.PrintWords Go.Proofs.YtfbgmlophkbejaaDoorW.PrintLast
def RPost (T : TypeId) (l : List Int) (w : World) (e : Ending) (w' : World) : Prop :=
 Below w.heap.size w w'∧∃ v,e=.returned v∧w'.ownsRow w.heap.size T 1 v l.length (nums .i32 l)
theorem info_i32 : (Tryd.prog.info? 21).map (fun i => (i.zero,i.size,i.bytes))=some (some (.int .i32 0),1,4):=by kernel_rfl
def pc0 : Int × Pc:=(0,⟨0,0,false⟩)
theorem piece_at {w : World} {A : Option Addr} {n : Nat} {l : List (Int × Pc)} (h : ReadsRow PCell 4 w A n l) (k : Nat) (hk : k < n) :
  ∃ ad,A=some ad∧w.cell? (ad.add (k * 4))=some (.int .i64 (l.getD k pc0).1)∧w.cell? ⟨(ad.add (k * 4)).block,(ad.add (k * 4)).off + 1,none⟩=some (.int .i64 (l.getD k pc0).2.size) ∧
   w.cell? ⟨(ad.add (k * 4)).block,(ad.add (k * 4)).off + 2,none⟩=some (.int .i32 (l.getD k pc0).2.rune)∧w.cell? ⟨(ad.add (k * 4)).block,(ad.add (k * 4)).off + 3,none⟩=some (.bool (l.getD k pc0).2.bad):=by
 obtain ⟨ad,c,he,hc,hp,hu⟩:=h.get_ pc0 (k : Int) (by omega) (by omega)
 simp only [Int.toNat_natCast] at hp hu
 unfold PCell at hp
 rw [hp] at hu
 refine ⟨ad,he,hu 0 _ rfl,?_,?_,?_⟩
 ·rw [← add_field ad (k * 4) 1 (by omega)];exact hu 1 _ rfl
 ·rw [← add_field ad (k * 4) 2 (by omega)];exact hu 2 _ rfl
 ·rw [← add_field ad (k * 4) 3 (by omega)];exact hu 3 _ rfl
theorem take_rune (l : List (Int × Pc)) (k : Nat) (h : k < l.length) : (l.take (k + 1)).map (·.2.rune)=(l.take k).map (·.2.rune)++[(l.getD k pc0).2.rune]:=by
 rw [List.take_succ_eq_append_getElem h,List.map_append,List.getD_eq_getElem?_getD,List.getElem?_eq_getElem h]
 rfl
set_option maxRecDepth 100000 in
set_option maxHeartbeats 4000000 in
theorem Decode_any (s : ByteArray) (w : World) (hs : s.size * 24 + 24≤140737488351232) (T : Tabs w) : Calls Tryd.prog 83 #[.string s] w (RPost 21 (decT s) w):=by
 have hp:=Pieces_any s w hs T
 have hn:=pcs_len s s.size 0 (by omega) (by omega)
 unfold decT
 generalize pcs s 0=l at *
 have Hp:=Lib.hid hp
 clear hp
 go_enter Tryd.func83,Tryd.ntmps83
 go_wp2_with (go_at_call 104;(with_reducible refine (Hp.out).mono ?_);rintro e w1 ⟨hb1,v,rfl,ho⟩;obtain ⟨A1,c1,rfl,hc1,hr⟩:=ho.reads)
 have Hr:=Lib.hid hr
 clear ho hr
 go_loopw [3,9] (fun u i wr => ∃ k : Nat,i=.int .i64 (k : Int)∧k≤l.length∧wr.ownsRow w1.heap.size 21 1 u ((l.take k).map (·.2.rune)).length (nums .i32 ((l.take k).map (·.2.rune)))∧Below w1.heap.size w1 wr) (fun _ i _ => l.length - (intOf i).toNat)
 case atStart => exact ⟨0,rfl,by omega,own_nil _ _ _ _,Below.refl _ _⟩
 case round =>
  obtain ⟨k,rfl,hk,ho,hbel⟩:=hrel
  by_cases hlt : k < l.length
  ·obtain ⟨ad,rfl,d0,d1,d2,d3⟩:=piece_at (Hr.out.imp_ hbel (fun p c h => h)) k hlt
   have ht:=take_rune l k hlt
   have hz : (l.take k).length≤k:=List.length_take_le _ _
   have hsz:=hbel.size
   generalize (l.getD k pc0).1=x at *
   generalize (l.getD k pc0).2.size=x1 at *
   generalize (l.getD k pc0).2.rune=x2 at *
   generalize (l.getD k pc0).2.bad=x3 at *
   have Ht:=Lib.hid ht
   clear ht
   have hnb:=own_lt ho
   go_wp2_with (at_builtin;(refine print_append_num (w0:=w1) (W:=wr.alloc (.cells #[.int .i64 x,.int .i64 x1,.int .i32 x2,.bool x3] 149)) w1.heap.size rfl (.tmp 13) (.tmp 16) 107 21 .i32 4 rfl Tryd.underlying107 info_i32 (by decide) _ ((l.take k).map (·.2.rune)) x2 rfl (by rw [size_alloc];rfl) (ho.alloc _) (Zb hbel _) (by rw [size_alloc];omega) (by rw [List.length_map];omega) ?_);intro v1 w2 ho2 hb2 hg2 hat2)
   rw [← Ht.out] at ho2
   exact ⟨⟨k + 1,rfl,by omega,ho2,hb2⟩,by simp [intOf];omega⟩
  ·obtain rfl : k=l.length:=by omega
   rw [List.take_length] at ho
   have hb3:=Zf hb1 hbel
   have Ho:=Lib.hid (own_less ho hb1.size)
   clear ho
   go_wp2
   go_ret
   exact ⟨hb3,_,rfl,Ho.out⟩
end Go.Proofs.YtfbgmlophkbejaaDoor
set_option linter.unusedVariables false
set_option linter.unusedSimpArgs false
namespace Go.Proofs.YtfbgmlophkbejaaDoor
open Go.RowKit Go.Proofs.YtfbgmlophkbejaaDoorW.PrintWords Go.Proofs.YtfbgmlophkbejaaDoorW.PrintLast
end Go.Proofs.YtfbgmlophkbejaaDoor
