/- Puny, any parameters: the program's encoder. -/
import Derived.Test.YtmjlkifmbhaiiaaDoorPgwA
import Derived.Test.YtmjlkifmbhaiiaaDoorQPwx3
import Derived.Test.YtmjlkifmbhaiiaaDoorQPwx2
import Derived.Test.YtmjlkifmbhaiiaaDoorQPwx1
import Derived.Test.YtmjlkifmbhaiiaaDoorQPwx0
import Derived.Test.YtmjlkifmbhaiiaaDoorQPwx6
import Derived.Test.YtmjlkifmbhaiiaaDoorQPwx10
set_option linter.unusedVariables false
set_option linter.unusedSimpArgs false
namespace Go.Proofs.YtmjlkifmbhaiiaaDoor.V
open Go.RowKit Go.Proofs.YtmjlkifmbhaiiaaDoorW.PrintWords Go.Proofs.YtmjlkifmbhaiiaaDoorW.PrintLast Go.Proofs.YtmjlkifmbhaiiaaDoorQ.Pw
theorem basic_is (p : Bt) (r : Int) (hr : -2147483648≤r∧r≤2147483647) : Yi.f p.base p.least p.most p.skew p.damp p.bias p.first p.btw r=some (bas p r):=by
 unfold Yi.f bas
 rw [w64 r (by omega) (by omega)]
 by_cases h : r < p.first <;> simp [h]
theorem scl_range {r : Int} (h : scl r=true) : 0≤r∧r≤1114111:=by
 have:=of_decide_eq_true h
 omega
theorem all_scl {l : List Int} (h : ¬ 0≤fstB (fun r => !scl r) l 0) : ∀ r ∈ l,scl r=true:=by
 intro r hr
 by_cases hs : scl r=true
 ·exact hs
 ·exact absurd ((fstB_none (fun r => !scl r) l 0 (by omega)).2 ⟨r,hr,by simp [hs]⟩) h
theorem written_l0 {p : Bt} (hp : p.Ok) (b : Int) (hb0 : 0≤b) (hb1 : b≤10000) : ∀ (N k : Nat) (out : List Int) (q kk : Int),0≤q→Far p b q kk N→q≤2147483647→0≤kk→kk + 36 * (N : Int)≤1000000→N + 1≤k→out.length + N≤1000000000 →
  Ya.l0 k b out q kk p.base p.least p.most p.skew p.damp p.bias p.first p.btw=some (out++wrt p b (N + 1) q kk):=by
 have hB0:=hp.base0
 have hB1:=hp.base1
 intro N
 induction N with
 | zero =>
  intro k out q kk h0 h1 hq hk0 hk1 hk ho
  obtain ⟨k,rfl⟩ : ∃ m,k=m + 1:=⟨k - 1,by omega⟩
  have hz:=far_zero hp h0 h1
  have hg:=thr_gap hp kk b
  rw [Ya.l0,threshold_is hp kk b (by omega) (by omega)]
  simp only [Option.bind_some]
  rw [if_pos hz,letter_p q h0 (by omega)]
  simp only [Option.bind_some]
  rw [if_pos (by omega),wrt,if_pos hz]
 | succ N ih =>
  intro k out q kk h0 h1 hq hk0 hk1 hk ho
  obtain ⟨k,rfl⟩ : ∃ m,k=m + 1:=⟨k - 1,by omega⟩
  have hg:=thr_gap hp kk b
  rw [Ya.l0,threshold_is hp kk b (by omega) (by omega)]
  simp only [Option.bind_some]
  rw [wrt]
  by_cases hc : q < thr p kk b
  ·rw [if_pos hc,if_pos hc,letter_p q h0 (by omega)]
   simp only [Option.bind_some]
   rw [if_pos (by omega)]
  rw [if_neg hc,if_neg hc]
  obtain ⟨p0,p4,p2,p3⟩:=step_le q _ _ hg.1 hg.2.1 hc
  have hfs:=far_step hp h0 h1 hc
  rw [w64 (p.base - thr p kk b) (by omega) (by omega),if_neg (by omega),w64 (q - thr p kk b) (by omega) (by omega),Int.tmod_eq_emod_of_nonneg (by omega),w64 (thr p kk b + _) (by omega) (by omega),letter_p _ (by omega) (by omega)]
  simp only [Option.bind_some]
  rw [if_pos (by omega),tdiv_pos _ _ (by omega),w64 ((q - thr p kk b) / (p.base - thr p kk b)) (by omega) (by omega),w64 (kk + p.base) (by omega) (by omega),ih k _ _ _ p0 hfs (by omega) (by omega) (by omega) (by omega) (by rw [List.length_append,List.length_singleton];omega)]
  rw [List.append_assoc]
  rfl
theorem written_is {p : Bt} (hp : p.Ok) (k : Nat) (hk : 10000≤k) (q b : Int) (h0 : 0≤q) (h1 : q≤2147483647) (hb0 : 0≤b) (hb1 : b≤10000) : Ya.f k p.base p.least p.most p.skew p.damp p.bias p.first p.btw q b=some (wrt p b 1000000 q p.base):=by
 have hB0:=hp.base0
 have hB1:=hp.base1
 have hl:=lenB_le p b
 unfold Ya.f
 rw [written_l0 hp b hb0 hb1 (lenB p b) k [] q p.base h0 (far_k hp b q hb1 h0 h1) h1 (by omega) (by omega) (by omega) (by simp;omega),(wrt_k hp b q hb1 h0 h1).1]
 rfl
theorem pscan {p : Bt} (hp : p.Ok) (x : List Int) (hx : ∀ r ∈ x,0≤r∧r≤1114111) (hx2 : x.length≤1048576) (n basic : Int) : ∀ (L out : List Int) (delta bias h i : Int) (k : Nat),L=x.drop i.toNat→0≤i→i≤x.length→0≤delta→delta≤2147483647→0≤bias→bias≤10000→0≤h→h + L.length≤2097152→out.length + pot p bias + 67 * L.length≤1000000000→L.length + 5000000000≤k →
  (scan p n basic L out delta bias h=none→Zr.l2 k x out basic n delta bias h x x.length i p.base p.least p.most p.skew p.damp p.bias p.first p.btw=some (⟨#[]⟩,0,142)) ∧
  (∀ o d b h',scan p n basic L out delta bias h=some (o,d,b,h')→∃ k' : Nat,k≤k' + L.length∧Zr.l2 k x out basic n delta bias h x x.length i p.base p.least p.most p.skew p.damp p.bias p.first p.btw=Zr.l2 k' x o basic n d b h' x x.length x.length p.base p.least p.most p.skew p.damp p.bias p.first p.btw):=by
 have hb1:=hp.base1
 intro L
 induction L with
 | nil =>
  intro out delta bias h i k hL h0 hi h1 h2 h3 h4 h5 h6 h7 hk
  have:=nil_rd hL h0
  obtain rfl : i=x.length:=by omega
  refine ⟨fun hs => (by rw [scan] at hs;cases hs),fun o d b h' hs => ⟨k,by simp,?_⟩⟩
  rw [scan] at hs
  injection hs with hs
  injection hs with e1 hs
  injection hs with e2 hs
  injection hs with e3 e4
  subst e1 e2 e3 e4
  rfl
 | cons r L ih =>
  intro out delta bias h i k hL h0 hi h1 h2 h3 h4 h5 h6 h7 hk
  obtain ⟨g1,g2,g3⟩:=cons_rd hL h0
  rw [List.length_cons] at h6 h7 hk
  have hpr:=pot_rng p bias
  obtain ⟨k,rfl⟩ : ∃ m,k=m + 1:=⟨k - 1,by omega⟩
  have hr2:=hx r (List.mem_of_mem_drop (hL ▸ List.mem_cons_self ..))
  rw [Zr.l2,if_pos g1,if_pos h0,if_pos g1,g2,w64 r (by omega) (by omega),w64 (i + 1) (by omega) (by omega),w64 (delta + 1) (by omega) (by omega),w64 (h + 1) (by omega) (by omega),scan]
  by_cases c1 : r < n
  ·rw [if_pos c1,if_pos c1]
   by_cases c2 : 2147483647 < delta + 1
   ·rw [if_pos c2,if_pos (show delta + 1 > 2147483647 from c2)]
    exact ⟨fun _ => rfl,fun o d b h' hs => by cases hs⟩
   rw [if_neg c2,if_neg (show ¬ delta + 1 > 2147483647 from c2)]
   obtain ⟨i1,i2⟩:=ih out (delta + 1) bias h (i + 1) k g3 (by omega) (by omega) (by omega) (by omega) h3 h4 h5 (by omega) (by omega) (by omega)
   refine ⟨i1,fun o d b h' hs => ?_⟩
   obtain ⟨k',q1,q2⟩:=i2 o d b h' hs
   exact ⟨k',by rw [List.length_cons];omega,q2⟩
  rw [if_neg c1,if_neg c1]
  by_cases c2 : r=n
  ·obtain ⟨-,w1,-,w2⟩:=wrt_k hp bias delta h4 h1 h2
   have hlp:=len_pot p bias
   have ha:=adp_small hp delta (h + 1) (h == basic) h1 h2 (by omega)
   have had:=adapted_is hp k (by omega) delta (h + 1) (h == basic) h1 h2 (by omega)
   rw [if_pos c2,if_pos c2,written_is hp k (by omega) delta bias h1 h2 h3 h4]
   simp only [Option.bind_some]
   rw [if_pos (by omega),had]
   simp only [Option.bind_some]
   rw [if_neg (by omega)]
   obtain ⟨i1,i2⟩:=ih (out++wrt p bias 1000000 delta p.base) 0 (adp p delta (h + 1) (h == basic)) (h + 1) (i + 1) k g3 (by omega) (by omega) (by omega) (by omega) ha.1 (by omega) (by omega) (by omega) (by rw [List.length_append,pot_small ha.2];omega) (by omega)
   refine ⟨i1,fun o d b h' hs => ?_⟩
   obtain ⟨k',q1,q2⟩:=i2 o d b h' hs
   exact ⟨k',by rw [List.length_cons];omega,q2⟩
  rw [if_neg c2,if_neg c2,if_neg (by omega)]
  obtain ⟨i1,i2⟩:=ih out delta bias h (i + 1) k g3 (by omega) (by omega) h1 h2 h3 h4 h5 (by omega) (by omega) (by omega)
  refine ⟨i1,fun o d b h' hs => ?_⟩
  obtain ⟨k',q1,q2⟩:=i2 o d b h' hs
  exact ⟨k',by rw [List.length_cons];omega,q2⟩
def encR (p : Bt) : Option (List Int)→Option (ByteArray × Int × Int)
 | none => some (⟨#[]⟩,0,142)
 | some o => if (dec p o).2.2=0 then some (strOfNums o,0,0) else some (⟨#[]⟩,0,142)
theorem r255 {o : List Int} (ho : ∀ x ∈ o,0≤x∧x≤127) : ∀ x ∈ o,0≤x∧x≤255:=fun x hx => by have:=ho x hx;omega
theorem pdec_is {p : Bt} (hp : p.Ok) (s : ByteArray) (hs : s.size≤268435456) : Z7.f p.base p.least p.most p.skew p.damp p.bias p.first p.btw s=some (dec p (bytesOf s)):=by
 unfold Z7.f decF
 rw [if_pos ⟨ok_okB hp,hs⟩]
theorem pfin {p : Bt} (hp : p.Ok) (o : List Int) (ho : ∀ x ∈ o,0≤x∧x≤127) (hl : o.length≤268435456) : ((Z7.f p.base p.least p.most p.skew p.damp p.bias p.first p.btw (strOfNums o)).bind fun bt => (if bt.2.2=0 then (some (strOfNums o,(0 : Int),(0 : Int))) else (some ((⟨#[]⟩ : ByteArray),0,142))))=encR p (some o):=by
 rw [pdec_is hp _ (by rw [strOfNums_size];omega),bytesOf_strOfNums o (r255 ho)]
 rfl
theorem prod_range (m n h : Int) (h0 : n≤m) (h1 : m≤1114111) (h2 : 0≤n) (h3 : 0≤h) (h4 : h≤1048576) : 0≤(m - n) * (h + 1)∧(m - n) * (h + 1)≤1114111 * 1048577 :=
 ⟨Int.mul_nonneg (by omega) (by omega),Int.mul_le_mul (by omega) (by omega) (by omega) (by omega)⟩
theorem encG_done (p : Bt) (basic : Int) (x : List Int) (f : Nat) (out : List Int) (n delta bias h : Int) (hh : x.length≤h) : encG p basic x (f + 1) out n delta bias h=some out:=by rw [encG,if_pos hh]
theorem fuel_a (f k k' C E L : Nat) (hk : (f + 1) * C + E≤k + 1) (q1 : k≤k' + 1 + L) (hL : L + 2≤C) : f * C + E≤k':=by
 rw [Nat.succ_mul] at hk
 generalize f * C=F at *
 omega
theorem penc {p : Bt} (hp : p.Ok) (x : List Int) (hx : ∀ r ∈ x,0≤r∧r≤1114111) (hx2 : x.length≤1048576) (basic : Int) : ∀ (f : Nat) (out : List Int) (n delta bias h : Int) (k : Nat),h=cnt n x→0≤n→n≤1114112→0≤delta→delta≤2147483648→0≤bias→bias≤10000→(∀ y ∈ out,0≤y∧y≤127)→(out.length : Int) + pot p bias≤1052000 + 67 * h→(x.length : Int) - h < f→f * 1048600 + 6000000000≤k →
  Zr.l1 k x out basic n delta bias h p.base p.least p.most p.skew p.damp p.bias p.first p.btw=encR p (encG p basic x f out n delta bias h):=by
 intro f
 induction f with
 | zero =>
  intro out n delta bias h k hh hn0 hn1 h1 h2 h3 h4 ho hol hf hk
  have:=cnt_le n x
  omega
 | succ f ih =>
  intro out n delta bias h k hh hn0 hn1 h1 h2 h3 h4 ho hol hf hk
  have hc:=cnt_le n x
  have hpr:=pot_rng p bias
  obtain ⟨k,rfl⟩ : ∃ m,k=m + 1:=⟨k - 1,by omega⟩
  rw [Zr.l1]
  by_cases hd : (x.length : Int)≤h
  ·rw [if_neg (by omega),encG_done p basic x f out n delta bias h hd,pfin hp out ho (by omega)]
  obtain ⟨t1,t2,t3⟩:=nxtM_two n x (fun r hr => (hx r hr).2) (cnt_ex (by omega))
  obtain ⟨s1,s2,s3⟩:=nxtM_spec n x 1114112
  rw [if_pos (by omega),next_is n x hx hx2 k (by omega),encG,if_neg hd,t1]
  simp only [Option.bind_some]
  generalize nxtM n x 1114112=m at *
  have hm:=(hx m t2).2
  have hP:=prod_range m n h t3 hm hn0 (by omega) (by omega)
  rw [w64 (m - n) (by omega) (by omega),w64 (h + 1) (by omega) (by omega)]
  generalize (m - n) * (h + 1)=P at *
  rw [w64 P (by omega) (by omega),w64 (delta + P) (by omega) (by omega)]
  by_cases hov : 2147483647 < delta + P
  ·rw [if_pos hov,if_pos (show delta + P > 2147483647 from hov)];rfl
  rw [if_neg hov,if_neg (show ¬ delta + P > 2147483647 from hov)]
  obtain ⟨p1,p2⟩:=pscan hp x hx hx2 m basic x out (delta + P) bias h 0 k rfl (by omega) (by omega) (by omega) (by omega) h3 h4 (by omega) (by omega) (by omega) (by omega)
  have hsk:=scan_ok hp m basic x out (delta + P) bias h
  have hcm : cnt m x=h:=by rw [cnt_same t3 s2];exact hh.symm
  rcases hsc : scan p m basic x out (delta + P) bias h with _|⟨o,d,b,h'⟩
  ·rw [p1 hsc];rfl
  obtain ⟨k',q1,q2⟩:=p2 o d b h' hsc
  obtain ⟨e1,e2,e3,e4,e5,e6,e7⟩:=hsk o d b h' (by omega) (by omega) h3 h4 (by omega) ho hsc
  have hpb:=pot_rng p b
  rw [q2]
  have hE:=eqs_pos t2
  have hcs:=cnt_succ m x
  have hcl:=cnt_le (m + 1) x
  show _=encR p (encG p basic x f o (m + 1) (d + 1) b h')
  obtain ⟨k',rfl⟩ : ∃ m,k'=m + 1:=⟨k' - 1,by omega⟩
  rw [Zr.l2,if_neg (by omega)]
  by_cases hd2 : h'=x.length
  ·obtain ⟨f,rfl⟩ : ∃ m,f=m + 1:=⟨f - 1,by omega⟩
   rw [if_pos hd2,encG_done p basic x f o (m + 1) (d + 1) b h' (by omega),pfin hp o e7 (by omega)]
  rw [if_neg hd2,w64 (d + 1) (by omega) (by omega),w64 (m + 1) (by omega) (by omega)]
  have hi:=ih o (m + 1) (d + 1) b h' k' (by omega) (by omega) (by omega) (by omega) (by omega) e3 e4 e7 (by omega) (by omega) (fuel_a f k k' _ _ x.length hk q1 (by omega))
  by_cases hov2 : d + 1 > 2147483647
  ·obtain ⟨f,rfl⟩ : ∃ m,f=m + 1:=⟨f - 1,by omega⟩
   obtain ⟨u1,u2,u3⟩:=nxtM_two (m + 1) x (fun r hr => (hx r hr).2) (cnt_ex (by omega))
   have hP2:=prod_range _ (m + 1) h' u3 (hx _ u2).2 (by omega) (by omega) (by omega)
   rw [if_pos hov2,encG,if_neg (by omega),if_pos (by omega)]
   rfl
  ·rw [if_neg hov2]
   exact hi
theorem pbas (p : Bt) (r : Int) (h0 : 0≤r) (h1 : r≤1114111) : Yi.f p.base p.least p.most p.skew p.damp p.bias p.first p.btw r=some (bas p r):=basic_is p r (by omega)
theorem pl0 {p : Bt} (x : List Int) (hx : ∀ r ∈ x,scl r=true) (hx2 : x.length≤1048576) : ∀ (L out : List Int) (i : Int) (k : Nat),L=x.drop i.toNat→0≤i→i≤x.length→out.length + L.length≤1048576→L.length + 1≤k →
  Zr.l0 k x out x x.length i p.base p.least p.most p.skew p.damp p.bias p.first p.btw=(if ((out++L.filter (bas p)).length : Int) > 0 then Zr.j1 (k - (L.length + 1)) x (out++L.filter (bas p)++[p.btw]) (out++L.filter (bas p)).length p.base p.least p.most p.skew p.damp p.bias p.first p.btw else Zr.j1 (k - (L.length + 1)) x (out++L.filter (bas p)) (out++L.filter (bas p)).length p.base p.least p.most p.skew p.damp p.bias p.first p.btw):=by
 intro L
 induction L with
 | nil =>
  intro out i k hL h0 hi ho hk
  have:=nil_rd hL h0
  obtain ⟨k,rfl⟩ : ∃ m,k=m + 1:=⟨k - 1,by omega⟩
  rw [Zr.l0,if_neg (by omega),List.filter_nil,List.append_nil]
  by_cases h : (out.length : Int) > 0
  ·rw [if_pos h,if_pos h,if_pos (by omega)]
   rfl
  ·rw [if_neg h,if_neg h]
   rfl
 | cons r L ih =>
  intro out i k hL h0 hi ho hk
  obtain ⟨g1,g2,g3⟩:=cons_rd hL h0
  rw [List.length_cons] at hk ho
  obtain ⟨k,rfl⟩ : ∃ m,k=m + 1:=⟨k - 1,by omega⟩
  have hr2:=scl_range (hx r (List.mem_of_mem_drop (hL ▸ List.mem_cons_self ..)))
  have e : k + 1 - ((r :: L).length + 1)=k - (L.length + 1):=by rw [List.length_cons];omega
  rw [e,Zr.l0,if_pos g1,if_pos h0,if_pos g1,g2,pbas p r hr2.1 hr2.2,List.filter_cons,w64 (i + 1) (by omega) (by omega)]
  simp only [Option.bind_some]
  by_cases h : bas p r=true
  ·have h128 : r < 128:=(of_decide_eq_true h).2
   have e2 : out++r :: L.filter (bas p)=(out++[r])++L.filter (bas p):=by simp
   rw [if_pos h,if_pos (by omega),if_pos h,show r % 256=r by omega,ih (out++[r]) (i + 1) k g3 (by omega) (by omega) (by rw [List.length_append,List.length_singleton];omega) (by omega),e2]
  ·rw [if_neg h,if_neg h,ih out (i + 1) k g3 (by omega) (by omega) (by omega) (by omega)]
def encP (p : Bt) (l : List Int) : ByteArray × Int × Int:=(strOfNums (enc p l).1,(enc p l).2.1,(enc p l).2.2)
def bs (p : Bt) (l : List Int) : List Int:=l.filter (bas p)
theorem enc_bad {p : Bt} {l : List Int} (h : (chk p l).2 ≠ 0) : encP p l=(⟨#[]⟩,(chk p l).1,(chk p l).2):=by
 unfold encP enc
 rw [if_pos h]
 rfl
theorem enc_good {p : Bt} {l : List Int} (h : ¬ (chk p l).2 ≠ 0) : some (encP p l)=encR p (encG p (bs p l).length l (l.length + 1) (if bs p l=[] then [] else bs p l++[p.btw]) p.first 0 p.bias (bs p l).length):=by
 have e : ∀ E,encG p (bs p l).length l (l.length + 1) (if bs p l=[] then [] else bs p l++[p.btw]) p.first 0 p.bias (bs p l).length=E→enc p l=(match E with
  | none => ([],0,142)
  | some out => if (dec p out).2.2=0 then (out,0,0) else ([],0,142)):=by
  intro E hE
  unfold enc
  rw [if_neg h,← hE]
  rfl
 have e2:=e _ rfl
 unfold encP
 rw [e2]
 cases encG p (bs p l).length l (l.length + 1) (if bs p l=[] then [] else bs p l++[p.btw]) p.first 0 p.bias (bs p l).length with
 | none => rfl
 | some o =>
  unfold encR
  simp only
  split <;> rfl
theorem chk_good {p : Bt} {l : List Int} (h : ¬ (chk p l).2 ≠ 0) : (∀ r ∈ l,scl r=true)∧∀ r ∈ l,bas p r=decide (r < p.first):=by
 unfold chk at h
 by_cases h1 : 0≤fstB (fun r => !scl r) l 0
 ·rw [if_pos h1] at h;exact absurd (by simp) h
 rw [if_neg h1] at h
 by_cases h2 : 0≤fstB (odd p) l 0
 ·rw [if_pos h2] at h;exact absurd (by simp) h
 refine ⟨all_scl h1,fun r hr => ?_⟩
 have h3 : ¬ odd p r=true:=fun e => h2 ((fstB_none (odd p) l 0 (by omega)).2 ⟨r,hr,e⟩)
 unfold odd at h3
 unfold bas
 by_cases a : r < p.first
 ·by_cases b : r < 128
  ·simp [a,b]
  ·simp [a,b] at h3
 ·simp [a]
theorem bs_cnt {p : Bt} : ∀ {l : List Int},(∀ r ∈ l,bas p r=decide (r < p.first))→((l.filter (bas p)).length : Int)=cnt p.first l
 | [],_ => rfl
 | r :: l,h => by
  have:=bs_cnt (l:=l) fun x hx => h x (List.mem_cons_of_mem _ hx)
  rw [cnt,List.filter_cons,h r (List.mem_cons_self ..)]
  by_cases h : r < p.first
  ·rw [if_pos h,if_pos (by simpa using h),List.length_cons];omega
  ·rw [if_neg h,if_neg (by simpa using h)];omega
theorem bs_ok {p : Bt} (hp : p.Ok) {l : List Int} (h : ∀ r ∈ l,scl r=true) (hb : ∀ r ∈ l,bas p r=decide (r < p.first)) (hl : l.length≤1048576) : (∀ y ∈ (if bs p l=[] then [] else bs p l++[p.btw]),0≤y∧y≤127)∧((if bs p l=[] then [] else bs p l++[p.btw]).length : Int) + pot p p.bias≤1052000 + 67 * (bs p l).length∧((bs p l).length : Int)=cnt p.first l∧(bs p l).length≤l.length:=by
 have h4 : (bs p l).length≤l.length:=List.length_filter_le _ _
 have hp1:=hp.btw0
 have hp2:=hp.btw1
 have hpr:=pot_rng p p.bias
 refine ⟨fun y hy => ?_,?_,bs_cnt hb,h4⟩
 ·split at hy
  ·simp at hy
  ·rcases List.mem_append.1 hy with hy|hy
   ·have h1:=List.mem_filter.1 hy
    have h2:=scl_range (h y h1.1)
    have:=(of_decide_eq_true h1.2).2
    omega
   ·simp only [List.mem_singleton] at hy;omega
 ·split
  ·simp only [List.length_nil];omega
  ·rw [List.length_append,List.length_singleton];omega
theorem penc_is {p : Bt} (hp : p.Ok) (l : List Int) (hi : i32B l=true) (hl : l.length≤1048576) (k : Nat) (hk : 2000000000000≤k) : Zr.f k p.base p.least p.most p.skew p.damp p.bias p.first p.btw l=some (encP p l):=by
 have f0:=hp.first0
 have f1:=hp.first1
 have q0:=hp.bias0
 have q1:=hp.bias1
 unfold Zr.f
 have hc : puny_boot_check.f p.base p.least p.most p.skew p.damp p.bias p.first p.btw l=some (chk p l):=by
  unfold puny_boot_check.f chkF
  rw [if_pos ⟨by omega,hi⟩]
 rw [hc]
 simp only [Option.bind_some]
 by_cases h : (chk p l).2 ≠ 0
 ·rw [if_neg h,enc_bad h]
 rw [if_pos (by omega)]
 obtain ⟨ha,hb⟩:=chk_good h
 obtain ⟨b1,b2,b3,b4⟩:=bs_ok hp ha hb hl
 have hpl:=pl0 (p:=p) l ha hl l [] 0 k rfl (by omega) (by omega) (by simpa using hl) (by omega)
 rw [List.nil_append] at hpl
 have hp' : Zr.l0 k l [] l l.length 0 p.base p.least p.most p.skew p.damp p.bias p.first p.btw=(if ((bs p l).length : Int) > 0 then Zr.j1 (k - (l.length + 1)) l (bs p l++[p.btw]) (bs p l).length p.base p.least p.most p.skew p.damp p.bias p.first p.btw else Zr.j1 (k - (l.length + 1)) l (bs p l) (bs p l).length p.base p.least p.most p.skew p.damp p.bias p.first p.btw):=hpl
 have hpe:=penc hp l (fun r hr => scl_range (ha r hr)) hl (bs p l).length (l.length + 1) (if bs p l=[] then [] else bs p l++[p.btw]) p.first 0 p.bias (bs p l).length
 obtain ⟨q,hq⟩ : ∃ q,k - (l.length + 1)=q + 1:=⟨k - (l.length + 1) - 1,by omega⟩
 have hpe':=hpe q b3 (by omega) (by omega) (by omega) (by omega) (by omega) (by omega) b1 b2 (by omega) (by omega)
 rw [hp',hq,enc_good h,← hpe']
 by_cases hb : bs p l=[]
 ·rw [hb,if_neg (by simp),if_pos rfl,Zr.j1]
 ·have : 0 < (bs p l).length:=List.length_pos_iff.2 hb
  rw [if_pos (by omega),if_neg hb,Zr.j1]
end Go.Proofs.YtmjlkifmbhaiiaaDoor.V
