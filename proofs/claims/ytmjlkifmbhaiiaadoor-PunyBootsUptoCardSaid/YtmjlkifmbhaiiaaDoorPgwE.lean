/- Puny, any parameters: the document's EncodeBy is mine. -/
import Derived.Test.YtmjlkifmbhaiiaaDoorPgwD
import Derived.Test.YtmjlkifmbhaiiaaDoorQPwx9
import Derived.Test.YtmjlkifmbhaiiaaDoorQPwx8
import Derived.Test.YtmjlkifmbhaiiaaDoorQPwx5
import Derived.Test.YtmjlkifmbhaiiaaDoorQPwx4
import Derived.Test.YtmjlkifmbhaiiaaDoorQPwx7
import Derived.Test.YtmjlkifmbhaiiaaDoorQPwx6
set_option linter.unusedVariables false
set_option linter.unusedSimpArgs false
namespace Go.Proofs.YtmjlkifmbhaiiaaDoor.V
open Go.RowKit Go.Proofs.YtmjlkifmbhaiiaaDoorW.PrintWords Go.Proofs.YtmjlkifmbhaiiaaDoorW.PrintLast Go.Proofs.YtmjlkifmbhaiiaaDoorQ.Pw
theorem r5_is {p : Bt} (hp : p.Ok) (x0 : List Int) (x8 x9 x10 x11 x12 : Int) (x86 : List Int) (x87 x88 : Int) (hb0 : 0≤x11) (hb1 : x11≤10000) (hd0 : 0≤x10) (hd1 : x10≤2147483647) (h12 : 0≤x12) (h121 : x12≤4194304) (h88 : 0≤x88) (h881 : x88≤1048576) : ∀ (N k : Nat) (out : List Int) (q kk : Int),0≤q→Far p x11 q kk N→q≤2147483647→0≤kk→kk + 36 * (N : Int)≤1000000→N + 1 + 5000000000≤k→out.length + N≤1000000000 →
  ∃ k' : Nat,k≤k' + N + 1∧Zh.l5 k x0 out x8 x9 x10 x11 x12 q kk x86 x87 x88 p.base p.least p.most p.skew p.damp p.bias p.first p.btw=Zh.l4 k' x0 (out++wrt p x11 (N + 1) q kk) x8 x9 0 (adp p x10 (x12 + 1) (x12 == x8)) (x12 + 1) x86 x87 (x88 + 1) p.base p.least p.most p.skew p.damp p.bias p.first p.btw:=by
 have hB0:=hp.base0
 have hB1:=hp.base1
 intro N
 induction N with
 | zero =>
  intro k out q kk h0 h1 hq hk0 hk1 hk ho
  obtain ⟨k,rfl⟩ : ∃ m,k=m + 1:=⟨k - 1,by omega⟩
  have hz:=far_zero hp h0 h1
  have hg:=thr_gap hp kk x11
  refine ⟨k,by omega,?_⟩
  rw [Zh.l5,rthr hp kk x11 (by omega) (by omega)]
  simp only [Option.bind_some]
  rw [if_pos hz,rletter q h0 (by omega)]
  simp only [Option.bind_some]
  rw [if_pos (by omega),w64 (x12 + 1) (by omega) (by omega),radapt hp k (by omega) x10 (x12 + 1) (x12 == x8) hd0 hd1 (by omega)]
  simp only [Option.bind_some]
  rw [wrt,if_pos hz,w64 (x88 + 1) (by omega) (by omega)]
 | succ N ih =>
  intro k out q kk h0 h1 hq hk0 hk1 hk ho
  obtain ⟨k,rfl⟩ : ∃ m,k=m + 1:=⟨k - 1,by omega⟩
  have hg:=thr_gap hp kk x11
  rw [Zh.l5,rthr hp kk x11 (by omega) (by omega)]
  simp only [Option.bind_some]
  rw [wrt]
  by_cases hc : q < thr p kk x11
  ·refine ⟨k,by omega,?_⟩
   rw [if_pos hc,if_pos hc,rletter q h0 (by omega)]
   simp only [Option.bind_some]
   rw [if_pos (by omega),w64 (x12 + 1) (by omega) (by omega),radapt hp k (by omega) x10 (x12 + 1) (x12 == x8) hd0 hd1 (by omega)]
   simp only [Option.bind_some]
   rw [w64 (x88 + 1) (by omega) (by omega)]
  rw [if_neg hc,if_neg hc]
  obtain ⟨p0,p4,p2,p3⟩:=step_le q _ _ hg.1 hg.2.1 hc
  have hfs:=far_step hp h0 h1 hc
  rw [w64 (p.base - thr p kk x11) (by omega) (by omega),if_neg (by omega),w64 (q - thr p kk x11) (by omega) (by omega),Int.tmod_eq_emod_of_nonneg (by omega),w64 (thr p kk x11 + _) (by omega) (by omega),rletter _ (by omega) (by omega)]
  simp only [Option.bind_some]
  rw [if_pos (by omega),tdiv_pos _ _ (by omega),w64 ((q - thr p kk x11) / (p.base - thr p kk x11)) (by omega) (by omega),w64 (kk + p.base) (by omega) (by omega)]
  obtain ⟨k',i1,i2⟩:=ih k (out++[ltr (thr p kk x11 + (q - thr p kk x11) % (p.base - thr p kk x11))]) _ (kk + p.base) p0 hfs (by omega) (by omega) (by omega) (by omega) (by rw [List.length_append,List.length_singleton];omega)
  refine ⟨k',by omega,?_⟩
  rw [i2,List.append_assoc]
  rfl
theorem rscan {p : Bt} (hp : p.Ok) (x : List Int) (hx : ∀ r ∈ x,0≤r∧r≤1114111) (hx2 : x.length≤1048576) (n basic : Int) : ∀ (L out : List Int) (delta bias h i : Int) (k : Nat),L=x.drop i.toNat→0≤i→i≤x.length→0≤delta→delta≤2147483647→0≤bias→bias≤10000→0≤h→h + L.length≤2097152→out.length + pot p bias + 67 * L.length≤1000000000→3370 * L.length + 5000000000≤k →
  (scan p n basic L out delta bias h=none→Zh.l4 k x out basic n delta bias h x x.length i p.base p.least p.most p.skew p.damp p.bias p.first p.btw=some (⟨#[]⟩,0,142)) ∧
  (∀ o d b h',scan p n basic L out delta bias h=some (o,d,b,h')→∃ k' : Nat,k≤k' + 3370 * L.length∧Zh.l4 k x out basic n delta bias h x x.length i p.base p.least p.most p.skew p.damp p.bias p.first p.btw=Zh.l4 k' x o basic n d b h' x x.length x.length p.base p.least p.most p.skew p.damp p.bias p.first p.btw):=by
 have hb1:=hp.base1
 intro L
 induction L with
 | nil =>
  intro out delta bias h i k hL h0 hi h1 h2 h3 h4 h5 h6 h7 hk
  have:=nil_rd hL h0
  obtain rfl : i=x.length:=by omega
  refine ⟨fun hs => (by rw [scan] at hs;cases hs),fun o d b h' hs => ⟨k,by simp,?_⟩⟩
  rw [scan] at hs
  injection hs with hs
  injection hs with e1 hs
  injection hs with e2 hs
  injection hs with e3 e4
  subst e1 e2 e3 e4
  rfl
 | cons r L ih =>
  intro out delta bias h i k hL h0 hi h1 h2 h3 h4 h5 h6 h7 hk
  obtain ⟨g1,g2,g3⟩:=cons_rd hL h0
  rw [List.length_cons] at h6 h7 hk
  have hpr0:=pot_rng p bias
  obtain ⟨k,rfl⟩ : ∃ m,k=m + 1 + 1:=⟨k - 2,by omega⟩
  have hr2:=hx r (List.mem_of_mem_drop (hL ▸ List.mem_cons_self ..))
  rw [Zh.l4,if_pos g1,if_pos h0,if_pos g1,g2,w64 r (by omega) (by omega),w64 (delta + 1) (by omega) (by omega),scan]
  by_cases c1 : r < n
  ·rw [if_pos c1,if_pos c1]
   by_cases c2 : 2147483647 < delta + 1
   ·rw [if_pos c2,if_pos (show delta + 1 > 2147483647 from c2)]
    exact ⟨fun _ => rfl,fun o d b h' hs => by cases hs⟩
   rw [if_neg c2,if_neg (show ¬ delta + 1 > 2147483647 from c2),Zh.j6,w64 r (by omega) (by omega),if_neg (by omega),w64 (i + 1) (by omega) (by omega)]
   obtain ⟨i1,i2⟩:=ih out (delta + 1) bias h (i + 1) k g3 (by omega) (by omega) (by omega) (by omega) h3 h4 h5 (by omega) (by omega) (by omega)
   refine ⟨i1,fun o d b h' hs => ?_⟩
   obtain ⟨k',q1,q2⟩:=i2 o d b h' hs
   exact ⟨k',by rw [List.length_cons];omega,q2⟩
  rw [if_neg c1,if_neg c1,Zh.j6,w64 r (by omega) (by omega)]
  by_cases c2 : r=n
  ·obtain ⟨w0,w1,w3,w2⟩:=wrt_k hp bias delta h4 h1 h2
   have hlp:=len_pot p bias
   have hlb:=lenB_le p bias
   have hpr:=pot_rng p bias
   have ha:=adp_small hp delta (h + 1) (h == basic) h1 h2 (by omega)
   obtain ⟨k1,v1,v2⟩:=r5_is hp x basic n delta bias h x x.length i h3 h4 h1 h2 h5 (by omega) h0 (by omega) (lenB p bias) k out delta p.base h1 (far_k hp bias delta h4 h1 h2) h2 (by omega) (by omega) (by omega) (by omega)
   rw [if_pos c2,if_pos c2,v2,← w0]
   obtain ⟨i1,i2⟩:=ih (out++wrt p bias 1000000 delta p.base) 0 (adp p delta (h + 1) (h == basic)) (h + 1) (i + 1) k1 g3 (by omega) (by omega) (by omega) (by omega) ha.1 (by omega) (by omega) (by omega) (by rw [List.length_append,pot_small ha.2];omega) (by omega)
   refine ⟨i1,fun o d b h' hs => ?_⟩
   obtain ⟨k',q1,q2⟩:=i2 o d b h' hs
   exact ⟨k',by rw [List.length_cons];omega,q2⟩
  rw [if_neg c2,if_neg c2,w64 (i + 1) (by omega) (by omega)]
  obtain ⟨i1,i2⟩:=ih out delta bias h (i + 1) k g3 (by omega) (by omega) h1 h2 h3 h4 h5 (by omega) (by omega) (by omega)
  refine ⟨i1,fun o d b h' hs => ?_⟩
  obtain ⟨k',q1,q2⟩:=i2 o d b h' hs
  exact ⟨k',by rw [List.length_cons];omega,q2⟩
theorem rnext {p : Bt} (x : List Int) (hx : ∀ r ∈ x,0≤r∧r≤1114111) (hx2 : x.length≤1048576) (out : List Int) (basic n delta bias h : Int) : ∀ (L : List Int) (i m : Int) (k : Nat),L=x.drop i.toNat→0≤i→i≤x.length→L.length≤k→Zh.l3 k x out basic n delta bias h m x x.length i p.base p.least p.most p.skew p.damp p.bias p.first p.btw=Zh.l3 (k - L.length) x out basic n delta bias h (nxtM n L m) x x.length x.length p.base p.least p.most p.skew p.damp p.bias p.first p.btw:=by
 intro L
 induction L with
 | nil =>
  intro i m k hL h0 hi hk
  have:=nil_rd hL h0
  obtain rfl : i=x.length:=by omega
  rfl
 | cons r L ih =>
  intro i m k hL h0 hi hk
  obtain ⟨g1,g2,g3⟩:=cons_rd hL h0
  rw [List.length_cons] at hk
  obtain ⟨k,rfl⟩ : ∃ m,k=m + 1:=⟨k - 1,by omega⟩
  have hr2:=hx r (List.mem_of_mem_drop (hL ▸ List.mem_cons_self ..))
  have e : k + 1 - (r :: L).length=k - L.length:=by rw [List.length_cons];omega
  rw [e,Zh.l3,if_pos g1,if_pos h0,if_pos g1,g2,w64 r (by omega) (by omega),w64 (i + 1) (by omega) (by omega),nxtM]
  by_cases hc : r ≥ n
  ·rw [if_pos hc]
   by_cases hm : r < m
   ·rw [if_pos hm,if_pos ⟨hc,hm⟩,ih (i + 1) _ k g3 (by omega) (by omega) (by omega)]
   ·rw [if_neg hm,if_neg (by omega),ih (i + 1) _ k g3 (by omega) (by omega) (by omega)]
  ·rw [if_neg hc,if_neg (by omega),ih (i + 1) _ k g3 (by omega) (by omega) (by omega)]
theorem rfin {p : Bt} (hp : p.Ok) (k : Nat) (hk : 12900000000000000≤k) (o : List Int) (ho : ∀ x ∈ o,0≤x∧x≤127) (hl : o.length≤80000000) : ((Zi.f k p.base p.least p.most p.skew p.damp p.bias p.first p.btw (strOfNums o)).bind fun bt => (if bt.2.2=0 then (some (strOfNums o,(0 : Int),(0 : Int))) else (some ((⟨#[]⟩ : ByteArray),0,142))))=encR p (some o):=by
 have hq:=hp.btw0
 have hq1:=hp.btw1
 rw [RDecBy_is p (by omega) (strOfNums o) (by rw [strOfNums_size];omega) k hk,bytesOf_strOfNums o (r255 ho),if_pos (ok_okB hp)]
 rfl
theorem fuel_b (f k k' C E L : Nat) (hk : (f + 1) * C + E≤k + 1) (q1 : k≤k' + 1 + L) (hL : L + 2≤C) : f * C + E≤k':=by
 rw [Nat.succ_mul] at hk
 generalize f * C=F at *
 omega
theorem renc {p : Bt} (hp : p.Ok) (x : List Int) (hx : ∀ r ∈ x,0≤r∧r≤1114111) (hx2 : x.length≤1048576) (basic : Int) : ∀ (f : Nat) (out : List Int) (n delta bias h : Int) (k : Nat),h=cnt n x→0≤n→n≤1114112→0≤delta→delta≤2147483648→0≤bias→bias≤10000→(∀ y ∈ out,0≤y∧y≤127)→(out.length : Int) + pot p bias≤1052000 + 67 * h→(x.length : Int) - h < f→f * 3535900000 + 12900000000000001≤k →
  Zh.l2 k x out basic n delta bias h p.base p.least p.most p.skew p.damp p.bias p.first p.btw=encR p (encG p basic x f out n delta bias h):=by
 intro f
 induction f with
 | zero =>
  intro out n delta bias h k hh hn0 hn1 h1 h2 h3 h4 ho hol hf hk
  have:=cnt_le n x
  omega
 | succ f ih =>
  intro out n delta bias h k hh hn0 hn1 h1 h2 h3 h4 ho hol hf hk
  have hc:=cnt_le n x
  have hpr:=pot_rng p bias
  obtain ⟨k,rfl⟩ : ∃ m,k=m + 1:=⟨k - 1,by omega⟩
  rw [Zh.l2]
  by_cases hd : (x.length : Int)≤h
  ·rw [if_neg (by omega),encG_done p basic x f out n delta bias h hd,rfin hp k (by omega) out ho (by omega)]
  obtain ⟨t1,t2,t3⟩:=nxtM_two n x (fun r hr => (hx r hr).2) (cnt_ex (by omega))
  obtain ⟨s1,s2,s3⟩:=nxtM_spec n x 1114112
  rw [if_pos (by omega),rnext x hx hx2 out basic n delta bias h x 0 1114112 k rfl (by omega) (by omega) (by omega),encG,if_neg hd]
  generalize nxtM n x 1114112=m at *
  have hm:=(hx m t2).2
  have hP:=prod_range m n h t3 hm hn0 (by omega) (by omega)
  obtain ⟨k2,hk2⟩ : ∃ q,k - x.length=q + 1:=⟨k - x.length - 1,by omega⟩
  rw [hk2,Zh.l3,if_neg (by omega),w64 (m - n) (by omega) (by omega),w64 (h + 1) (by omega) (by omega)]
  generalize (m - n) * (h + 1)=P at *
  rw [w64 P (by omega) (by omega),w64 (delta + P) (by omega) (by omega)]
  by_cases hov : 2147483647 < delta + P
  ·rw [if_pos hov,if_pos (show delta + P > 2147483647 from hov)];rfl
  rw [if_neg hov,if_neg (show ¬ delta + P > 2147483647 from hov)]
  obtain ⟨p1,p2⟩:=rscan hp x hx hx2 m basic x out (delta + P) bias h 0 k2 rfl (by omega) (by omega) (by omega) (by omega) h3 h4 (by omega) (by omega) (by omega) (by omega)
  have hsk:=scan_ok hp m basic x out (delta + P) bias h
  have hcm : cnt m x=h:=by rw [cnt_same t3 s2];exact hh.symm
  rcases hsc : scan p m basic x out (delta + P) bias h with _|⟨o,d,b,h'⟩
  ·rw [p1 hsc];rfl
  obtain ⟨k',q1,q2⟩:=p2 o d b h' hsc
  obtain ⟨e1,e2,e3,e4,e5,e6,e7⟩:=hsk o d b h' (by omega) (by omega) h3 h4 (by omega) ho hsc
  have hpb:=pot_rng p b
  rw [q2]
  have hE:=eqs_pos t2
  have hcs:=cnt_succ m x
  have hcl:=cnt_le (m + 1) x
  show _=encR p (encG p basic x f o (m + 1) (d + 1) b h')
  obtain ⟨k',rfl⟩ : ∃ m,k'=m + 1:=⟨k' - 1,by omega⟩
  rw [Zh.l4,if_neg (by omega),w64 (d + 1) (by omega) (by omega),w64 (m + 1) (by omega) (by omega)]
  exact ih o (m + 1) (d + 1) b h' k' (by omega) (by omega) (by omega) (by omega) (by omega) e3 e4 e7 (by omega) (by omega) (fuel_b f k k' _ _ (3371 * x.length + 1) hk (by omega) (by omega))
theorem rl0 {p : Bt} (x : List Int) (hx2 : x.length≤1048576) : ∀ (L : List Int) (i : Int) (k : Nat),L=x.drop i.toNat→0≤i→i≤x.length→L.length + 1≤k →
  Zh.l0 k x x x.length i p.base p.least p.most p.skew p.damp p.bias p.first p.btw=(if 0≤fstB (fun r => !scl r) L i then some (⟨#[]⟩,fstB (fun r => !scl r) L i,20) else Zh.l1 (k - (L.length + 1)) x [] x x.length 0 p.base p.least p.most p.skew p.damp p.bias p.first p.btw):=by
 intro L
 induction L with
 | nil =>
  intro i k hL h0 hi hk
  have:=nil_rd hL h0
  obtain ⟨k,rfl⟩ : ∃ m,k=m + 1:=⟨k - 1,by omega⟩
  rw [Zh.l0,if_neg (by omega),if_neg (by simp [fstB])]
  rfl
 | cons r L ih =>
  intro i k hL h0 hi hk
  obtain ⟨g1,g2,g3⟩:=cons_rd hL h0
  rw [List.length_cons] at hk
  obtain ⟨k,rfl⟩ : ∃ m,k=m + 1:=⟨k - 1,by omega⟩
  have e : k + 1 - ((r :: L).length + 1)=k - (L.length + 1):=by rw [List.length_cons];omega
  rw [e,Zh.l0,if_pos g1,if_pos h0,if_pos g1,g2,rscl_is,w64 (i + 1) (by omega) (by omega),fstB]
  simp only [Option.bind_some]
  by_cases hsc : scl r=true
  ·have hn : ¬ (!scl r)=true:=by simp [hsc]
   rw [if_pos hsc,if_neg hn,ih (i + 1) k g3 (by omega) (by omega) (by omega)]
  ·have hn : (!scl r)=true:=by simp [hsc]
   rw [if_neg hsc,if_pos hn,if_pos h0]
theorem rl1 {p : Bt} (x : List Int) (hx : ∀ r ∈ x,scl r=true) (hx2 : x.length≤1048576) : ∀ (L out : List Int) (i : Int) (k : Nat),L=x.drop i.toNat→0≤i→i≤x.length→out.length + L.length≤1048576→L.length + 1≤k →
  Zh.l1 k x out x x.length i p.base p.least p.most p.skew p.damp p.bias p.first p.btw=(if 0≤fstB (odd p) L i then some (⟨#[]⟩,fstB (odd p) L i,141) else (if ((out++L.filter (bas p)).length : Int) > 0 then Zh.j2 (k - (L.length + 1)) x (out++L.filter (bas p)++[p.btw]) (out++L.filter (bas p)).length p.base p.least p.most p.skew p.damp p.bias p.first p.btw else Zh.j2 (k - (L.length + 1)) x (out++L.filter (bas p)) (out++L.filter (bas p)).length p.base p.least p.most p.skew p.damp p.bias p.first p.btw)):=by
 intro L
 induction L with
 | nil =>
  intro out i k hL h0 hi ho hk
  have:=nil_rd hL h0
  obtain ⟨k,rfl⟩ : ∃ m,k=m + 1:=⟨k - 1,by omega⟩
  rw [Zh.l1,if_neg (by omega),if_neg (show ¬ 0≤fstB (odd p) [] i by simp [fstB]),List.filter_nil,List.append_nil]
  by_cases h : (out.length : Int) > 0
  ·rw [if_pos h,if_pos h,if_pos (by omega)]
   rfl
  ·rw [if_neg h,if_neg h]
   rfl
 | cons r L ih =>
  intro out i k hL h0 hi ho hk
  obtain ⟨g1,g2,g3⟩:=cons_rd hL h0
  rw [List.length_cons] at hk ho
  obtain ⟨k,rfl⟩ : ∃ m,k=m + 1:=⟨k - 1,by omega⟩
  have hr2:=scl_range (hx r (List.mem_of_mem_drop (hL ▸ List.mem_cons_self ..)))
  have e : k + 1 - ((r :: L).length + 1)=k - (L.length + 1):=by rw [List.length_cons];omega
  rw [e,Zh.l1,if_pos g1,if_pos h0,if_pos g1,g2,rbas p r hr2.1 hr2.2,List.filter_cons,w64 (i + 1) (by omega) (by omega),w64 r (by omega) (by omega),fstB]
  simp only [Option.bind_some]
  by_cases h : bas p r=true
  ·have hb:=of_decide_eq_true h
   have hodd : ¬ odd p r=true:=by unfold odd;simp [hb.2]
   have e2 : out++r :: L.filter (bas p)=(out++[r])++L.filter (bas p):=by simp
   rw [if_pos h,if_pos (by omega),if_pos h,if_neg hodd,show r % 256=r by omega,ih (out++[r]) (i + 1) k g3 (by omega) (by omega) (by rw [List.length_append,List.length_singleton];omega) (by omega),e2]
  ·rw [if_neg h,if_neg h]
   by_cases hf : r < p.first
   ·have h128 : ¬ r < 128:=fun e => h (decide_eq_true ⟨hf,e⟩)
    have hodd : odd p r=true:=by unfold odd;simp [hf,h128]
    rw [if_pos hf,if_pos hodd,if_pos h0]
   ·have hodd : ¬ odd p r=true:=by unfold odd;simp [hf]
    rw [if_neg hf,if_neg hodd,ih out (i + 1) k g3 (by omega) (by omega) (by omega) (by omega)]
theorem REncBy_is (p : Bt) (hb : 0≤p.btw∧p.btw≤255) (l : List Int) (hl : l.length≤1048576) (k : Nat) (hk : 900000000000000000≤k) : Zh.f k p.base p.least p.most p.skew p.damp p.bias p.first p.btw l=some (if okB p=true then encP p l else (⟨#[]⟩,0,144)):=by
 unfold Zh.f
 rw [rchk p hb k (by omega)]
 simp only [Option.bind_some]
 by_cases hok : okB p=true
 rotate_left
 ·rw [if_neg hok,if_neg hok]
 rw [if_pos hok,if_pos hok]
 have hp:=okB_ok hok
 have f0:=hp.first0
 have f1:=hp.first1
 have q0:=hp.bias0
 have q1:=hp.bias1
 have h0:=rl0 (p:=p) l hl l 0 k rfl (by omega) (by omega) (by omega)
 rw [h0]
 by_cases h : 0≤fstB (fun r => !scl r) l 0
 ·have hc : chk p l=(fstB (fun r => !scl r) l 0,20):=by unfold chk;rw [if_pos h]
  rw [if_pos h,enc_bad (by rw [hc];simp),hc]
 rw [if_neg h]
 have ha:=all_scl h
 obtain ⟨k2,hk2⟩ : ∃ q,k - (l.length + 1)=q:=⟨_,rfl⟩
 have h1:=rl1 (p:=p) l ha hl l [] 0 k2 rfl (by omega) (by omega) (by simpa using hl) (by omega)
 rw [List.nil_append] at h1
 rw [hk2,h1]
 by_cases hd : 0≤fstB (odd p) l 0
 ·have hc : chk p l=(fstB (odd p) l 0,141):=by unfold chk;rw [if_neg h,if_pos hd]
  rw [if_pos hd,enc_bad (by rw [hc];simp),hc]
 have hc : chk p l=(0,0):=by unfold chk;rw [if_neg h,if_neg hd]
 have hcn : ¬ (chk p l).2 ≠ 0:=by rw [hc];simp
 obtain ⟨ha,hbs⟩:=chk_good hcn
 obtain ⟨b1,b2,b3,b4⟩:=bs_ok hp ha hbs hl
 rw [if_neg hd]
 have hpe:=renc hp l (fun r hr => scl_range (ha r hr)) hl (bs p l).length (l.length + 1) (if bs p l=[] then [] else bs p l++[p.btw]) p.first 0 p.bias (bs p l).length
 obtain ⟨q,hq⟩ : ∃ q,k2 - (l.length + 1)=q + 1:=⟨k2 - (l.length + 1) - 1,by omega⟩
 have hpe':=hpe q b3 (by omega) (by omega) (by omega) (by omega) (by omega) (by omega) b1 b2 (by omega) (by omega)
 rw [hq,enc_good hcn,← hpe']
 show (if ((bs p l).length : Int) > 0 then Zh.j2 (q + 1) l (bs p l++[p.btw]) (bs p l).length p.base p.least p.most p.skew p.damp p.bias p.first p.btw else Zh.j2 (q + 1) l (bs p l) (bs p l).length p.base p.least p.most p.skew p.damp p.bias p.first p.btw)=_
 by_cases hb : bs p l=[]
 ·rw [hb,if_neg (by simp),if_pos rfl,Zh.j2]
 ·have : 0 < (bs p l).length:=List.length_pos_iff.2 hb
  rw [if_pos (by omega),if_neg hb,Zh.j2]
end Go.Proofs.YtmjlkifmbhaiiaaDoor.V
