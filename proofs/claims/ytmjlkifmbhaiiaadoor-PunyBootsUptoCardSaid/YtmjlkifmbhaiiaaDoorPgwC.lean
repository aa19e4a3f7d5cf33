/- Puny, any parameters: what is encoded is decoded again. Plain. -/
import Derived.Test.YtmjlkifmbhaiiaaDoorPgwB
set_option linter.unusedVariables false
set_option linter.unusedSimpArgs false
namespace Go.Proofs.YtmjlkifmbhaiiaaDoor.V
open Go.RowKit Go.Proofs.YtmjlkifmbhaiiaaDoorW.PrintWords Go.Proofs.YtmjlkifmbhaiiaaDoorW.PrintLast
def dD (m : Int) (pre suf : List Int) : List Int:=pre.filter (fun r => decide (r≤m))++suf.filter (fun r => decide (r < m))
def pP (m : Int) (pre : List Int) : Int:=(pre.filter (fun r => decide (r≤m))).length
theorem dD_lt {m r : Int} (h : r < m) (pre suf : List Int) : dD m pre (r :: suf)=dD m (pre++[r]) suf∧pP m (pre++[r])=pP m pre + 1:=by
 unfold dD pP
 rw [List.filter_cons,if_pos (by simpa using h),List.filter_append,List.filter_cons,if_pos (by simp;omega)]
 simp
theorem dD_gt {m r : Int} (h : m < r) (pre suf : List Int) : dD m pre (r :: suf)=dD m (pre++[r]) suf∧pP m (pre++[r])=pP m pre:=by
 unfold dD pP
 rw [List.filter_cons,if_neg (by simp;omega),List.filter_append,List.filter_cons,if_neg (by simp;omega)]
 simp
theorem dD_eq (m : Int) (pre suf : List Int) : dD m (pre++[m]) suf=(dD m pre (m :: suf)).take (pP m pre).toNat++m :: (dD m pre (m :: suf)).drop (pP m pre).toNat∧pP m (pre++[m])=pP m pre + 1∧(dD m (pre++[m]) suf).length=(dD m pre (m :: suf)).length + 1:=by
 unfold dD pP
 rw [List.filter_cons,if_neg (by simp),List.filter_append,List.filter_cons,if_pos (by simp)]
 refine ⟨?_,by simp,by simp;omega⟩
 rw [Int.toNat_natCast,List.take_left' rfl,List.drop_left' rfl]
 simp
theorem pP_le (m : Int) (pre suf : List Int) : 0≤pP m pre∧pP m pre≤(dD m pre suf).length:=by
 unfold dD pP
 rw [List.length_append]
 omega
theorem cnt_len (n : Int) : ∀ l : List Int,((l.filter (fun r => decide (r < n))).length : Int)=cnt n l
 | [] => rfl
 | r :: l => by
  have:=cnt_len n l
  rw [cnt,List.filter_cons]
  by_cases h : r < n
  ·rw [if_pos h,if_pos (by simpa using h),List.length_cons];omega
  ·rw [if_neg h,if_neg (by simpa using h)];omega
theorem dD_nil (m : Int) (l : List Int) : dD m [] l=l.filter (fun r => decide (r < m)):=by unfold dD;simp
theorem dD_all (m : Int) (l : List Int) : dD m l []=l.filter (fun r => decide (r < m + 1))∧pP m l=(dD m l []).length:=by
 unfold dD pP
 have e : l.filter (fun r => decide (r≤m))=l.filter (fun r => decide (r < m + 1)):=List.filter_congr fun x _ => decide_eq_decide.2 (by omega)
 rw [e]
 simp
theorem lastP_app (b : Int) : ∀ (l r : List Int) (i a : Int),lastP b (l++r) i a=lastP b r (i + l.length) (lastP b l i a)
 | [],r,i,a => by simp [lastP]
 | c :: l,r,i,a => by
  rw [List.cons_append,lastP,lastP,lastP_app b l r,List.length_cons]
  congr 1
  omega
theorem lastP_none (b : Int) : ∀ (l : List Int) (i a : Int),(∀ x ∈ l,x ≠ b)→lastP b l i a=a
 | [],i,a,_ => rfl
 | c :: l,i,a,h => by
  rw [lastP,if_neg (h c (List.mem_cons_self ..)),lastP_none b l _ _ fun x hx => h x (List.mem_cons_of_mem _ hx)]
theorem num_wrt {p : Bt} (hp : p.Ok) (b : Int) (rest : List Int) : ∀ (N : Nat) (q kk at_ i w : Int),0≤q→Far p b q kk N →
  (num p b (wrt p b (N + 1) q kk++rest) at_ i w kk).1=142 ∨ num p b (wrt p b (N + 1) q kk++rest) at_ i w kk=(0,at_ + (wrt p b (N + 1) q kk).length,i + q * w,rest):=by
 have fin : ∀ (q kk at_ i w : Int),0≤q→q < thr p kk b→(num p b ([ltr q]++rest) at_ i w kk).1=142 ∨ num p b ([ltr q]++rest) at_ i w kk=(0,at_ + ([ltr q] : List Int).length,i + q * w,rest):=by
  intro q kk at_ i w h0 hz
  have hg:=thr_gap hp kk b
  rw [List.singleton_append,num,dgt_ltr hp q h0 (by omega),if_neg (by omega)]
  by_cases hov : 2147483647 < i + q * w
  ·rw [if_pos hov];exact Or.inl rfl
  rw [if_neg hov,if_pos hz]
  exact Or.inr rfl
 intro N
 induction N with
 | zero =>
  intro q kk at_ i w h0 h1
  have hz:=far_zero hp h0 h1
  rw [wrt,if_pos hz]
  exact fin q kk at_ i w h0 hz
 | succ N ih =>
  intro q kk at_ i w h0 h1
  have hg:=thr_gap hp kk b
  rw [wrt]
  by_cases hc : q < thr p kk b
  ·rw [if_pos hc]
   exact fin q kk at_ i w h0 hc
  obtain ⟨p0,p4,p2,p3⟩:=step_le q _ _ hg.1 hg.2.1 hc
  have hfs:=far_step hp h0 h1 hc
  rw [if_neg hc,List.cons_append,num,dgt_ltr hp _ (by omega) (by omega),if_neg (by omega)]
  have hq : q=(thr p kk b + (q - thr p kk b) % (p.base - thr p kk b)) + (q - thr p kk b) / (p.base - thr p kk b) * (p.base - thr p kk b):=by
   have:=Int.emod_add_mul_ediv (q - thr p kk b) (p.base - thr p kk b)
   rw [Int.mul_comm] at this
   omega
  have hd : thr p kk b≤thr p kk b + (q - thr p kk b) % (p.base - thr p kk b):=by omega
  generalize (q - thr p kk b) / (p.base - thr p kk b)=Q at *
  generalize thr p kk b + (q - thr p kk b) % (p.base - thr p kk b)=d at *
  by_cases hov : 2147483647 < i + d * w
  ·rw [if_pos hov];exact Or.inl rfl
  rw [if_neg hov,if_neg (by omega)]
  by_cases hov2 : 2147483647 < w * (p.base - thr p kk b)
  ·rw [if_pos hov2];exact Or.inl rfl
  rw [if_neg hov2]
  rcases ih Q (kk + p.base) (at_ + 1) (i + d * w) (w * (p.base - thr p kk b)) p0 hfs with g|g
  ·exact Or.inl g
  ·refine Or.inr ?_
   rw [g,List.length_cons]
   have e : i + d * w + Q * (w * (p.base - thr p kk b))=i + q * w:=by
    have h2 : q * w=(d + Q * (p.base - thr p kk b)) * w:=by rw [← hq]
    rw [h2,Int.add_mul,Int.mul_assoc Q,Int.mul_comm (p.base - thr p kk b) w,Int.add_assoc]
   rw [e]
   congr 2
   omega
theorem dec_step {p : Bt} (hp : p.Ok) (b i_d n_d at_ delta m q : Int) (Dl R : List Int) (f : Nat) (hbb : b≤10000) (hd0 : 0≤delta) (hd1 : delta≤2147483647) (he : i_d + delta=(m - n_d) * ((Dl.length : Int) + 1) + q) (hp0 : 0≤q) (hp1 : q≤Dl.length) (hs : scl m=true) :
  (decG p (f + 1) (wrt p b 1000000 delta p.base++R) at_ Dl n_d i_d b).2.2 ≠ 0 ∨ decG p (f + 1) (wrt p b 1000000 delta p.base++R) at_ Dl n_d i_d b=decG p f R (at_ + (wrt p b 1000000 delta p.base).length) (Dl.take q.toNat++m :: Dl.drop q.toNat) m (q + 1) (adp p delta ((Dl.length : Int) + 1) (i_d == 0)):=by
 obtain ⟨k1,k2,k3,k4⟩:=wrt_k hp b delta hbb hd0 hd1
 have hne : wrt p b 1000000 delta p.base++R ≠ []:=by
  intro e
  have:=congrArg List.length e
  rw [List.length_append,List.length_nil] at this
  omega
 have hn:=num_wrt hp b R (lenB p b) delta p.base at_ i_d 1 hd0 (far_k hp b delta hbb hd0 hd1)
 rw [← k1] at hn
 rw [decG,if_neg hne]
 generalize num p b (wrt p b 1000000 delta p.base++R) at_ i_d 1 p.base=r at *
 rcases hn with hn|hn
 ·rw [if_pos (by omega)]
  exact Or.inl (by show r.1 ≠ 0;omega)
 subst hn
 have hsr:=scl_range hs
 have e1 : (i_d + delta * 1) / ((Dl.length : Int) + 1)=m - n_d:=by
  rw [Int.mul_one,he,Int.add_comm,Int.add_mul_ediv_right _ _ (by omega),Int.ediv_eq_zero_of_lt hp0 (by omega)]
  omega
 have e2 : (i_d + delta * 1) % ((Dl.length : Int) + 1)=q:=by
  rw [Int.mul_one,he,Int.add_comm,Int.add_mul_emod_self_right,Int.emod_eq_of_lt hp0 (by omega)]
 rw [if_neg (by simp)]
 simp only [e1,e2]
 rw [show n_d + (m - n_d)=m by omega,if_neg (by omega),if_neg (by rw [hs];simp),show i_d + delta * 1 - i_d=delta by omega]
 exact Or.inr rfl
theorem scan_nn {p : Bt} (n basic : Int) : ∀ (L out : List Int) (delta bias h : Int) (o : List Int) (d b h' : Int),0≤delta→scan p n basic L out delta bias h=some (o,d,b,h')→0≤d:=by
 intro L
 induction L with
 | nil =>
  intro out delta bias h o d b h' h1 hs
  rw [scan] at hs
  injection hs with hs
  injection hs with e1 hs
  injection hs with e2 hs
  omega
 | cons r L ih =>
  intro out delta bias h o d b h' h1 hs
  rw [scan] at hs
  by_cases c1 : r < n
  ·rw [if_pos c1] at hs
   by_cases c2 : 2147483647 < delta + 1
   ·rw [if_pos c2] at hs;cases hs
   rw [if_neg c2] at hs
   exact ih _ _ _ _ _ _ _ _ (by omega) hs
  rw [if_neg c1] at hs
  by_cases c2 : r=n
  ·rw [if_pos c2] at hs
   exact ih _ _ _ _ _ _ _ _ (by omega) hs
  ·rw [if_neg c2] at hs
   exact ih _ _ _ _ _ _ _ _ h1 hs
theorem rt_scan {p : Bt} (hp : p.Ok) (m basic : Int) (hm : scl m=true) : ∀ (suf pre out : List Int) (delta bias h : Int) (o : List Int) (d b h' : Int),0≤delta→delta≤2147483647→bias≤10000→0≤h→scan p m basic suf out delta bias h=some (o,d,b,h')→h=(dD m pre suf).length →
  b≤10000∧∃ E,o=out++E∧h'=(dD m (pre++suf) []).length∧(∀ x ∈ E,0≤dgt p x)∧∀ (R : List Int) (f : Nat) (at_ n_d i_d : Int),0≤i_d→i_d + delta=(m - n_d) * (h + 1) + pP m pre→(i_d=0 ↔ h=basic)→basic≤h→E.length + R.length < f →
   (decG p f (E++R) at_ (dD m pre suf) n_d i_d bias).2.2 ≠ 0 ∨ ∃ (f' : Nat) (at' n' i' : Int),R.length < f'∧0≤i'∧decG p f (E++R) at_ (dD m pre suf) n_d i_d bias=decG p f' R at' (dD m (pre++suf) []) n' i' b∧i' + d=(m - n') * (h' + 1) + pP m (pre++suf)∧(i'=0 ↔ h'=basic)∧basic≤h':=by
 have hb1:=hp.base1
 intro suf
 induction suf with
 | nil =>
  intro pre out delta bias h o d b h' h1 h2 hbi h3 hs hh
  rw [scan] at hs
  injection hs with hs
  injection hs with e1 hs
  injection hs with e2 hs
  injection hs with e3 e4
  subst e1 e2 e3 e4
  rw [List.append_nil]
  refine ⟨hbi,[],by simp,hh,fun x hx => by simp at hx,fun R f at_ n_d i_d g0 g1 g2 g3 g4 => Or.inr ⟨f,at_,n_d,i_d,by simpa using g4,g0,rfl,g1,g2,g3⟩⟩
 | cons r L ih =>
  intro pre out delta bias h o d b h' h1 h2 hbi h3 hs hh
  rw [scan] at hs
  have ea : pre++r :: L=(pre++[r])++L:=by simp
  rw [ea]
  by_cases c1 : r < m
  ·rw [if_pos c1] at hs
   by_cases c2 : 2147483647 < delta + 1
   ·rw [if_pos c2] at hs;cases hs
   rw [if_neg c2] at hs
   obtain ⟨k1,k2⟩:=dD_lt c1 pre L
   rw [k1] at hh ⊢
   obtain ⟨qb,E,q1,q2,q4,q3⟩:=ih (pre++[r]) out (delta + 1) bias h o d b h' (by omega) (by omega) hbi h3 hs hh
   exact ⟨qb,E,q1,q2,q4,fun R f at_ n_d i_d g0 g1 g2 g3 g4 => q3 R f at_ n_d i_d g0 (by rw [k2];omega) g2 g3 g4⟩
  rw [if_neg c1] at hs
  by_cases c2 : r=m
  ·subst c2
   rw [if_pos rfl] at hs
   obtain ⟨k1,k2,k3⟩:=dD_eq r pre L
   have hpl:=pP_le r pre (r :: L)
   have ha:=adp_small hp delta (h + 1) (h == basic) h1 h2 (by omega)
   obtain ⟨-,w1,w2,w3⟩:=wrt_k hp bias delta hbi h1 h2
   obtain ⟨qb,E,q1,q2,q4,q3⟩:=ih (pre++[r]) _ 0 _ (h + 1) o d b h' (by omega) (by omega) (by omega) (by omega) hs (by rw [k3];omega)
   refine ⟨qb,wrt p bias 1000000 delta p.base++E,by rw [q1,List.append_assoc],q2,fun x hx => (List.mem_append.1 hx).elim (fun h => (w3 x h).2.2) (q4 x),fun R f at_ n_d i_d g0 g1 g2 g3 g4 => ?_⟩
   rw [List.length_append] at g4
   obtain ⟨f,rfl⟩ : ∃ q,f=q + 1:=⟨f - 1,by omega⟩
   rw [List.append_assoc]
   rcases dec_step hp bias i_d n_d at_ delta r (pP r pre) (dD r pre (r :: L)) (E++R) f hbi h1 h2 (by rw [g1,hh]) hpl.1 hpl.2 hm with g|g
   ·exact Or.inl g
   rw [g,← k1,← hh]
   have hb : (i_d == 0)=(h == basic):=by
    rw [Bool.eq_iff_iff,beq_iff_eq,beq_iff_eq]
    exact g2
   rw [hb]
   exact q3 R f _ r (pP r pre + 1) (by omega) (by rw [k2];omega) ⟨fun e => by omega,fun e => by omega⟩ (by omega) (by omega)
  ·rw [if_neg c2] at hs
   obtain ⟨k1,k2⟩:=dD_gt (show m < r by omega) pre L
   rw [k1] at hh ⊢
   obtain ⟨qb,E,q1,q2,q4,q3⟩:=ih (pre++[r]) out delta bias h o d b h' h1 h2 hbi h3 hs hh
   exact ⟨qb,E,q1,q2,q4,fun R f at_ n_d i_d g0 g1 g2 g3 g4 => q3 R f at_ n_d i_d g0 (by rw [k2];exact g1) g2 g3 g4⟩
theorem rt_enc {p : Bt} (hp : p.Ok) (l : List Int) (hl : ∀ r ∈ l,scl r=true) (basic : Int) : ∀ (f : Nat) (out : List Int) (n delta bias h : Int) (res : List Int),0≤delta→bias≤10000→0≤n→h=(l.filter (fun r => decide (r < n))).length→encG p basic l f out n delta bias h=some res →
  ∃ E,res=out++E∧(∀ x ∈ E,0≤dgt p x)∧∀ (fd : Nat) (at_ n_d i_d : Int),0≤i_d→i_d + delta=(n - n_d) * (h + 1)→(i_d=0 ↔ h=basic)→basic≤h→E.length < fd →
   (decG p fd E at_ (l.filter (fun r => decide (r < n))) n_d i_d bias).2.2 ≠ 0 ∨ decG p fd E at_ (l.filter (fun r => decide (r < n))) n_d i_d bias=(l,0,0):=by
 intro f
 induction f with
 | zero => intro out n delta bias h res _ _ _ _ hs;rw [encG] at hs;cases hs
 | succ f ih =>
  intro out n delta bias h res h0 hbi hn hh hs
  by_cases hd : (l.length : Int)≤h
  ·rw [encG,if_pos hd] at hs
   injection hs with hs
   subst hs
   refine ⟨[],by simp,fun x hx => by simp at hx,fun fd at_ n_d i_d g0 g1 g2 g3 g4 => Or.inr ?_⟩
   obtain ⟨fd,rfl⟩ : ∃ q,fd=q + 1:=⟨fd - 1,by omega⟩
   rw [decG,if_pos rfl]
   have hle:=List.length_filter_le (fun r => decide (r < n)) l
   rw [List.filter_sublist.eq_of_length (by omega)]
  rw [encG,if_neg hd] at hs
  have hx : ∀ r ∈ l,0≤r∧r≤1114111:=fun r hr => scl_range (hl r hr)
  have hcl:=cnt_len n l
  obtain ⟨-,t2,t3⟩:=nxtM_two n l (fun r hr => (hx r hr).2) (cnt_ex (by omega))
  obtain ⟨s1,s2,s3⟩:=nxtM_spec n l 1114112
  generalize nxtM n l 1114112=m at *
  have hP : 0≤(m - n) * (h + 1):=Int.mul_nonneg (by omega) (by omega)
  have hPe : (m - n) * (h + 1)=m * (h + 1) - n * (h + 1):=Int.sub_mul _ _ _
  by_cases hov : 2147483647 < delta + (m - n) * (h + 1)
  ·rw [if_pos hov] at hs;cases hs
  rw [if_neg hov] at hs
  rcases hsc : scan p m basic l out (delta + (m - n) * (h + 1)) bias h with _|⟨o,d,b,h'⟩
  ·rw [hsc] at hs;cases hs
  rw [hsc] at hs
  have hs2 : encG p basic l f o (m + 1) (d + 1) b h'=some res:=hs
  have hfm : l.filter (fun r => decide (r < m))=l.filter (fun r => decide (r < n)):=List.filter_congr fun x hx => decide_eq_decide.2 ⟨fun e => by
   rcases Int.lt_or_le x n with g|g
   ·exact g
   ·have:=s2 x hx g
    omega,fun e => by omega⟩
  have hdn : dD m [] l=l.filter (fun r => decide (r < n)):=by rw [dD_nil,hfm]
  obtain ⟨hda,hpa⟩:=dD_all m l
  have hd0 : 0≤d:=scan_nn m basic l out _ bias h o d b h' (by omega) hsc
  obtain ⟨qb,E1,q1,q2,q4,q3⟩:=rt_scan hp m basic (hl m t2) l [] out _ bias h o d b h' (by omega) (by omega) hbi (by omega) hsc (by rw [hdn];exact hh)
  rw [List.nil_append] at q2 q3
  obtain ⟨E2,u1,u2,u3⟩:=ih o (m + 1) (d + 1) b h' res (by omega) qb (by omega) (by rw [q2,hda]) hs2
  refine ⟨E1++E2,by rw [u1,q1,List.append_assoc],fun x hx => (List.mem_append.1 hx).elim (q4 x) (u2 x),fun fd at_ n_d i_d g0 g1 g2 g3 g4 => ?_⟩
  rw [List.length_append] at g4
  have hNe : (n - n_d) * (h + 1)=n * (h + 1) - n_d * (h + 1):=Int.sub_mul _ _ _
  have hMe : (m - n_d) * (h + 1)=m * (h + 1) - n_d * (h + 1):=Int.sub_mul _ _ _
  have hst:=q3 E2 fd at_ n_d i_d g0 (by rw [show pP m []=0 from rfl];omega) g2 g3 g4
  rw [hdn] at hst
  rcases hst with g|⟨f',at',n',i',v1,v2,v3,v4,v5,v6⟩
  ·exact Or.inl g
  rw [v3,hda]
  have hKe : (m + 1 - n') * (h' + 1)=(m - n') * (h' + 1) + (h' + 1):=by
   rw [show m + 1 - n'=(m - n') + 1 by omega,Int.add_mul,Int.one_mul]
  exact u3 f' at' n' i' v2 (by rw [hKe];omega) v5 v6 v1
theorem rt_all {p : Bt} (hp : p.Ok) (l : List Int) (hl : ∀ r ∈ l,scl r=true) (hbs : ∀ r ∈ l,bas p r=decide (r < p.first)) (res : List Int) (hs : encG p (bs p l).length l (l.length + 1) (if bs p l=[] then [] else bs p l++[p.btw]) p.first 0 p.bias (bs p l).length=some res) : (dec p res).2.2 ≠ 0 ∨ dec p res=(l,0,0):=by
 have f0:=hp.first0
 have hb : bs p l=l.filter (fun r => decide (r < p.first)):=List.filter_congr hbs
 obtain ⟨E,q1,q2,q3⟩:=rt_enc hp l hl (bs p l).length (l.length + 1) _ p.first 0 p.bias (bs p l).length res (by omega) hp.bias1 (by omega) (by rw [hb]) hs
 rw [← hb] at q3
 have hE : ∀ x ∈ E,x ≠ p.btw:=fun x hx e => by have h1:=q2 x hx;have h2:=hp.btw3;rw [e] at h1;omega
 unfold dec
 by_cases h0 : bs p l=[]
 ·rw [if_pos h0,List.nil_append] at q1
  subst q1
  rw [lastP_none p.btw res 0 0 hE,if_neg (by omega)]
  have:=q3 (res.length + 1) 0 p.first 0 (by omega) (by rw [Int.sub_self,Int.zero_mul];omega) (by rw [h0];simp) (by omega) (by omega)
  rw [h0] at this
  exact this
 ·rw [if_neg h0] at q1
  have hpos : 0 < (bs p l).length:=List.length_pos_iff.2 h0
  have hlast : lastP p.btw res 0 0=(bs p l).length:=by
   rw [q1,lastP_app,lastP_none p.btw E _ _ hE,lastP_app]
   simp [lastP]
  rw [hlast,if_pos (by omega),Int.toNat_natCast]
  have ht : res.take (bs p l).length=bs p l:=by rw [q1,List.append_assoc,List.take_left' rfl]
  have hdr : res.drop (((bs p l).length : Int) + 1).toNat=E:=by
   rw [q1]
   exact List.drop_left' (by simp)
  rw [ht,hdr]
  have hf : ¬ 0≤fstB (fun b => !bas p b) (bs p l) 0:=by
   rw [fstB_none _ _ 0 (by omega)]
   rintro ⟨x,hx,hn⟩
   have:=(List.mem_filter.1 hx).2
   simp [this] at hn
  rw [if_neg hf]
  exact q3 (res.length + 1) _ p.first 0 (by omega) (by rw [Int.sub_self,Int.zero_mul];omega) ⟨fun _ => rfl,fun _ => rfl⟩ (by omega) (by rw [q1];simp;omega)
theorem back {p : Bt} (hp : p.Ok) (l : List Int) (h : (enc p l).2.2=0) : dec p (enc p l).1=(l,0,0):=by
 by_cases hb : (chk p l).2 ≠ 0
 ·unfold enc at h
  rw [if_pos hb] at h
  exact absurd h hb
 have e : ∀ E,encG p (bs p l).length l (l.length + 1) (if bs p l=[] then [] else bs p l++[p.btw]) p.first 0 p.bias (bs p l).length=E→enc p l=(match E with
  | none => ([],0,142)
  | some out => if (dec p out).2.2=0 then (out,0,0) else ([],0,142)):=by
  intro E hE
  unfold enc
  rw [if_neg hb,← hE]
  rfl
 obtain ⟨c1,c2⟩:=chk_good hb
 rcases hE : encG p (bs p l).length l (l.length + 1) (if bs p l=[] then [] else bs p l++[p.btw]) p.first 0 p.bias (bs p l).length with _|out
 ·rw [e _ hE] at h
  cases h
 rw [e _ hE] at h ⊢
 simp only at h ⊢
 by_cases hd : (dec p out).2.2=0
 ·rw [if_pos hd]
  rcases rt_all hp l c1 c2 out hE with g|g
  ·exact absurd hd g
  ·exact g
 ·rw [if_neg hd] at h
  cases h
end Go.Proofs.YtmjlkifmbhaiiaaDoor.V
