/- Puny, any parameters: a delta in digits; what one way over the code points leaves. -/
import Derived.Test.YtmjlkifmbhaiiaaDoorPunC
import Derived.Test.YtmjlkifmbhaiiaaDoorQPwx3
import Derived.Test.YtmjlkifmbhaiiaaDoorQPwx2
import Derived.Test.YtmjlkifmbhaiiaaDoorQPwx1
import Derived.Test.YtmjlkifmbhaiiaaDoorQPwx0
set_option linter.unusedVariables false
set_option linter.unusedSimpArgs false
namespace Go.Proofs.YtmjlkifmbhaiiaaDoor.V
open Go.RowKit Go.Proofs.YtmjlkifmbhaiiaaDoorW.PrintWords Go.Proofs.YtmjlkifmbhaiiaaDoorW.PrintLast Go.Proofs.YtmjlkifmbhaiiaaDoorQ.Pw
theorem adp_l0 {p : Bt} (h : p.Ok) (n : Nat) : ∀ (k : Nat) (x1 x10 : Int),0≤x1→x1.toNat≤n→n < k→x1≤4294967296→0≤x10→x10 + 36 * x1≤1099511627776 →
  Zt.l0 k x1 (p.base - p.least) x10 p.base p.least p.most p.skew p.damp p.bias p.first p.btw =
   some ((adpG p.base (p.base - p.least) ((p.base - p.least) * p.most / 2) x1 x10).2 + (p.base - p.least + 1) * (adpG p.base (p.base - p.least) ((p.base - p.least) * p.most / 2) x1 x10).1 / ((adpG p.base (p.base - p.least) ((p.base - p.least) * p.most / 2) x1 x10).1 + p.skew)):=by
 have b0:=h.base0
 have b1:=h.base1
 have l0:=h.least0
 have l1:=h.least1
 have m0:=h.most0
 have m1:=h.most1
 have s0:=h.skew0
 have s1:=h.skew1
 have hP0 : 0≤(p.base - p.least) * p.most:=Int.mul_nonneg (by omega) (by omega)
 have hP1 : (p.base - p.least) * p.most≤36 * 36:=Int.mul_le_mul (by omega) (by omega) (by omega) (by omega)
 generalize hL : (p.base - p.least) * p.most=L at *
 induction n with
 | zero =>
  intro k x1 x10 hx hn hk hx1 h10 hs
  obtain rfl : x1=0:=by omega
  obtain ⟨k,rfl⟩ : ∃ m,k=m + 1:=⟨k - 1,by omega⟩
  rw [adpG,dif_neg (by omega)]
  rw [Zt.l0]
  rw [hL,w64 L (by omega) (by omega),tdiv_pos L 2 hP0,w64 (L / 2) (by omega) (by omega),if_neg (by omega),w64 (0 + p.skew) (by omega) (by omega),if_neg (by omega),w64 (p.base - p.least + 1) (by omega) (by omega),Int.mul_zero,w64 0 (by omega) (by omega),tdiv_pos 0 _ (by omega),Int.zero_ediv,w64 0 (by omega) (by omega),w64 _ (by omega) (by omega)]
 | succ n ih =>
  intro k x1 x10 hx hn hk hx1 h10 hs
  obtain ⟨k,rfl⟩ : ∃ m,k=m + 1:=⟨k - 1,by omega⟩
  rw [Zt.l0]
  rw [hL,w64 L (by omega) (by omega),tdiv_pos L 2 hP0,w64 (L / 2) (by omega) (by omega),w64 (x1 + p.skew) (by omega) (by omega),w64 (p.base - p.least + 1) (by omega) (by omega)]
  by_cases hc : x1 > L / 2
  ·have hd : x1 / (p.base - p.least) < x1:=Int.ediv_lt_self_of_pos_of_ne_one (by omega) (by omega)
   have hd0 : 0≤x1 / (p.base - p.least):=Int.ediv_nonneg hx (by omega)
   rw [if_pos hc,if_neg (by omega),tdiv_pos x1 _ hx,w64 (x1 / (p.base - p.least)) (by omega) (by omega),w64 (x10 + p.base) (by omega) (by omega)]
   rw [ih k _ _ hd0 (by omega) (by omega) (by omega) (by omega) (by omega)]
   conv => rhs;rw [adpG,dif_pos (by omega)]
  ·have hm0 : 0≤(p.base - p.least + 1) * x1:=Int.mul_nonneg (by omega) hx
   have hm1 : (p.base - p.least + 1) * x1≤37 * 4294967296:=Int.mul_le_mul (by omega) hx1 hx (by omega)
   rw [adpG,dif_neg (by omega)]
   simp only
   generalize (p.base - p.least + 1) * x1=M at *
   have hq0 : 0≤M / (x1 + p.skew):=Int.ediv_nonneg hm0 (by omega)
   have hq1 : M / (x1 + p.skew)≤M:=Int.ediv_le_self _ hm0
   rw [if_neg hc,if_neg (by omega),w64 M (by omega) (by omega),tdiv_pos M _ hm0,w64 (M / (x1 + p.skew)) (by omega) (by omega),w64 _ (by omega) (by omega)]
theorem adapted_is {p : Bt} (h : p.Ok) (k : Nat) (hk : 5000000000≤k) (delta pts : Int) (first : Bool) (h0 : 0≤delta) (h1 : delta≤2147483647) (hp : 1≤pts) :
  Zt.f k p.base p.least p.most p.skew p.damp p.bias p.first p.btw delta pts first=some (adp p delta pts first):=by
 obtain ⟨k,rfl⟩ : ∃ m,k=m + 1:=⟨k - 1,by omega⟩
 have d0:=h.damp0
 have b0:=h.base0
 have b1:=h.base1
 have l0:=h.least0
 have l1:=h.least1
 have m1:=h.most1
 obtain ⟨r0,r1,r2,r3⟩:=adpD_range h delta pts first h0 h1 hp
 have hj : Zt.j0 (k + 1) (if first=true then delta / p.damp else delta / 2) pts p.base p.least p.most p.skew p.damp p.bias p.first p.btw=some (adp p delta pts first):=by
  unfold adpD at r2 r3
  rw [Zt.j0]
  unfold adp adpD
  generalize (if first=true then delta / p.damp else delta / 2)=x at *
  have q0 : 0≤x / pts:=Int.ediv_nonneg r0 (by omega)
  have q1 : x / pts≤x:=Int.ediv_le_self _ r0
  rw [if_neg (by omega),tdiv_pos x _ r0,w64 (x / pts) (by omega) (by omega),w64 (x + x / pts) (by omega) (by omega),w64 (p.base - p.least) (by omega) (by omega)]
  exact adp_l0 h _ k _ _ (by omega) (Nat.le_refl _) (by omega) (by omega) (by omega) (by omega)
 unfold Zt.f
 cases first with
 | true =>
  simp only [if_true] at hj r0 r1
  rw [if_pos rfl,if_neg (by omega),tdiv_pos _ _ h0,w64 _ (by omega) (by omega)]
  exact hj
 | false =>
  simp only [Bool.false_eq_true,if_false] at hj r0 r1
  rw [if_neg (by simp),tdiv_pos _ _ h0,w64 _ (by omega) (by omega)]
  exact hj
theorem threshold_is {p : Bt} (h : p.Ok) (k b : Int) (hk : -4611686018427387904≤k∧k≤4611686018427387903) (hb : -4611686018427387903≤b∧b≤4611686018427387904) : Yj.f p.base p.least p.most p.skew p.damp p.bias p.first p.btw k b=some (thr p k b):=by
 have:=h.least1
 unfold Yj.f thr
 rw [w64 (k - b) (by omega) (by omega)]
 congr 1
 unfold mn mx
 repeat' split
 all_goals omega
theorem mn_is (a b : Int) : mn a b=if b < a then b else a:=rfl
theorem cons_rd {l L : List Int} {c i : Int} (h : c :: L=l.drop i.toNat) (h0 : 0≤i) : i < l.length∧rd l i=c∧L=l.drop (i + 1).toNat:=by
 have hl : i.toNat < l.length:=by
  rcases Nat.lt_or_ge i.toNat l.length with g|g
  ·exact g
  ·rw [List.drop_of_length_le g] at h;cases h
 rw [List.drop_eq_getElem_cons hl] at h
 injection h with h1 h2
 refine ⟨by omega,?_,by rw [h2];congr 1;omega⟩
 have e : ∀ j : Nat,(hj : j < l.length)→rd l (j : Int)=l[j]:=fun j hj => by simp [rd,List.getD_eq_getElem?_getD,List.getElem?_eq_getElem hj]
 have e2:=e i.toNat hl
 rw [show ((i.toNat : Nat) : Int)=i by omega] at e2
 rw [e2,h1]
theorem nil_rd {l : List Int} {i : Int} (h : []=l.drop i.toNat) (h0 : 0≤i) : l.length≤i:=by
 have:=congrArg List.length h
 rw [List.length_drop] at this
 simp only [List.length_nil] at this
 omega
theorem nxtM_spec (n : Int) : ∀ (l : List Int) (m : Int),nxtM n l m≤m∧(∀ r ∈ l,n≤r→nxtM n l m≤r)∧(nxtM n l m=m ∨ (nxtM n l m ∈ l∧n≤nxtM n l m)):=by
 intro l
 induction l with
 | nil => intro m;exact ⟨Int.le_refl _,fun r hr => by simp at hr,Or.inl rfl⟩
 | cons r l ih =>
  intro m
  rw [nxtM]
  obtain ⟨h1,h2,h3⟩:=ih (if n≤r∧r < m then r else m)
  generalize nxtM n l (if n≤r∧r < m then r else m)=M at *
  by_cases hc : n≤r∧r < m
  ·rw [if_pos hc] at h1 h3
   refine ⟨by omega,fun x hx hn => ?_,Or.inr ?_⟩
   ·rcases List.mem_cons.1 hx with rfl|hx
    ·exact h1
    ·exact h2 x hx hn
   ·rcases h3 with h3|⟨h3,h4⟩
    ·exact ⟨by rw [h3];exact List.mem_cons_self ..,by omega⟩
    ·exact ⟨List.mem_cons_of_mem _ h3,h4⟩
  ·rw [if_neg hc] at h1 h3
   refine ⟨h1,fun x hx hn => ?_,?_⟩
   ·rcases List.mem_cons.1 hx with rfl|hx
    ·omega
    ·exact h2 x hx hn
   ·rcases h3 with h3|⟨h3,h4⟩
    ·exact Or.inl h3
    ·exact Or.inr ⟨List.mem_cons_of_mem _ h3,h4⟩
theorem nxtM_two (n : Int) (l : List Int) (hl : ∀ r ∈ l,r≤1114111) (he : ∃ r ∈ l,n≤r) : nxtM n l 1114111=nxtM n l 1114112∧nxtM n l 1114112 ∈ l∧n≤nxtM n l 1114112:=by
 obtain ⟨a1,a2,a3⟩:=nxtM_spec n l 1114111
 obtain ⟨b1,b2,b3⟩:=nxtM_spec n l 1114112
 obtain ⟨r,hr,hn⟩:=he
 have h1:=hl r hr
 have h2:=b2 r hr hn
 rcases b3 with b3|⟨b3,b4⟩
 ·omega
 have h4:=hl _ b3
 have h5:=a2 _ b3 b4
 refine ⟨?_,b3,b4⟩
 rcases a3 with a3|⟨a3,a4⟩
 ·omega
 ·have:=b2 _ a3 a4
  omega
theorem next_l0 (n : Int) (l : List Int) (hl : ∀ r ∈ l,0≤r∧r≤1114111) (hl2 : l.length≤1048576) : ∀ (L : List Int) (i m : Int) (k : Nat),L=l.drop i.toNat→0≤i→i≤l.length→L.length + 1≤k→puny_next.l0 k n m l l.length i=some (nxtM n L m):=by
 intro L
 induction L with
 | nil =>
  intro i m k h h0 h1 hk
  obtain ⟨k,rfl⟩ : ∃ m,k=m + 1:=⟨k - 1,by omega⟩
  have:=nil_rd h h0
  rw [puny_next.l0,if_neg (by omega)]
  rfl
 | cons r L ih =>
  intro i m k h h0 h1 hk
  obtain ⟨k,rfl⟩ : ∃ m,k=m + 1:=⟨k - 1,by omega⟩
  obtain ⟨g1,g2,g3⟩:=cons_rd h h0
  rw [List.length_cons] at hk
  have hr : r ∈ l:=List.mem_of_mem_drop (h ▸ List.mem_cons_self ..)
  have hr2:=hl r hr
  rw [puny_next.l0,if_pos g1,if_pos h0,if_pos g1,g2,w64 r (by omega) (by omega),w64 (i + 1) (by omega) (by omega),nxtM]
  by_cases hc : r ≥ n
  ·rw [if_pos hc,ih (i + 1) _ k g3 (by omega) (by omega) (by omega),mn_is]
   by_cases hm : r < m
   ·rw [if_pos hm,if_pos ⟨hc,hm⟩]
   ·rw [if_neg hm,if_neg (by omega)]
  ·rw [if_neg hc,ih (i + 1) _ k g3 (by omega) (by omega) (by omega),if_neg (by omega)]
theorem next_is (n : Int) (l : List Int) (hl : ∀ r ∈ l,0≤r∧r≤1114111) (hl2 : l.length≤1048576) (k : Nat) (hk : 1048577≤k) : puny_next.f k l n=some (nxtM n l 1114111) :=
 next_l0 n l hl hl2 l 0 1114111 k rfl (by omega) (by omega) (by omega)
def cnt (n : Int) : List Int→Int
 | [] => 0
 | r :: l => (if r < n then 1 else 0) + cnt n l
def eqs (n : Int) : List Int→Int
 | [] => 0
 | r :: l => (if r=n then 1 else 0) + eqs n l
theorem cnt_le (n : Int) : ∀ l : List Int,0≤cnt n l∧cnt n l≤l.length
 | [] => by simp [cnt]
 | r :: l => by
  have:=cnt_le n l
  rw [cnt,List.length_cons]
  split <;> omega
theorem eqs_le (n : Int) : ∀ l : List Int,0≤eqs n l∧eqs n l≤l.length
 | [] => by simp [eqs]
 | r :: l => by
  have:=eqs_le n l
  rw [eqs,List.length_cons]
  split <;> omega
theorem eqs_pos {n : Int} : ∀ {l : List Int},n ∈ l→1≤eqs n l
 | r :: l,h => by
  have:=eqs_le n l
  rw [eqs]
  rcases List.mem_cons.1 h with rfl|h
  ·rw [if_pos rfl];omega
  ·have:=eqs_pos h
   split <;> omega
theorem cnt_ex {n : Int} : ∀ {l : List Int},cnt n l < l.length→∃ r ∈ l,n≤r
 | [],h => by simp [cnt] at h
 | r :: l,h => by
  rw [cnt,List.length_cons] at h
  by_cases hr : r < n
  ·rw [if_pos hr] at h
   obtain ⟨x,hx,hn⟩:=cnt_ex (n:=n) (l:=l) (by omega)
   exact ⟨x,List.mem_cons_of_mem _ hx,hn⟩
  ·exact ⟨r,List.mem_cons_self ..,by omega⟩
theorem cnt_same {n m : Int} (hnm : n≤m) : ∀ {l : List Int},(∀ r ∈ l,n≤r→m≤r)→cnt m l=cnt n l
 | [],_ => rfl
 | r :: l,h => by
  have h1:=cnt_same hnm (l:=l) fun x hx => h x (List.mem_cons_of_mem _ hx)
  have h2:=h r (List.mem_cons_self ..)
  rw [cnt,cnt,h1]
  by_cases hr : r < n
  ·rw [if_pos hr,if_pos (by omega)]
  ·rw [if_neg hr,if_neg (by have:=h2 (by omega);omega)]
theorem cnt_succ (m : Int) : ∀ l : List Int,cnt (m + 1) l=cnt m l + eqs m l
 | [] => rfl
 | r :: l => by
  rw [cnt,cnt,eqs,cnt_succ m l]
  by_cases h1 : r < m
  ·rw [if_pos h1,if_pos (by omega),if_neg (by omega)];omega
  ·by_cases h2 : r=m
   ·rw [if_neg h1,if_pos (by omega),if_pos h2];omega
   ·rw [if_neg h1,if_neg (by omega),if_neg h2];omega
theorem letter_p (d : Int) (h0 : 0≤d) (h1 : d≤35) : puny_letter.f d=some (ltr d):=by
 unfold puny_letter.f ltr
 by_cases h : d < 26
 ·rw [if_pos h,w64 (97 + d) (by omega) (by omega)]
  rw [if_pos h]
  congr 1
  omega
 ·rw [if_neg h,w64 (48 + d) (by omega) (by omega),w64 (48 + d - 26) (by omega) (by omega)]
  rw [if_neg h]
  congr 1
  omega
theorem thr_pos {p : Bt} (hp : p.Ok) (k b : Int) (h : b < k) : 1≤thr p k b:=by
 have:=hp.most0
 unfold thr
 split
 ·omega
 ·split <;> omega
theorem step_lt (q t g : Int) (m : Nat) (ht : 1≤t) (hg : 2≤g) (hq : q < 2 ^ (m + 1)) : (q - t) / g < 2 ^ m:=by
 refine Int.ediv_lt_of_lt_mul (by omega) ?_
 rw [Int.pow_succ] at hq
 have hp : (0 : Int)≤2 ^ m:=Int.pow_nonneg (by omega)
 have:=Int.mul_le_mul_of_nonneg_left hg hp
 omega
theorem step_le (q t g : Int) (ht : 0≤t) (hg : 2≤g) (hqt : ¬ q < t) : 0≤(q - t) / g∧(q - t) / g≤q∧0≤(q - t) % g∧(q - t) % g < g:=by
 refine ⟨Int.ediv_nonneg (by omega) (by omega),?_,Int.emod_nonneg _ (by omega),Int.emod_lt_of_pos _ (by omega)⟩
 have:=Int.ediv_le_self g (show 0≤q - t by omega)
 omega
def Far (p : Bt) (b q k : Int) (N : Nat) : Prop:=∃ z m : Nat,z + m=N∧q < 2 ^ m∧b < k + p.base * z
theorem far_zero {p : Bt} (hp : p.Ok) {b q k : Int} (h0 : 0≤q) (h : Far p b q k 0) : q < thr p k b:=by
 obtain ⟨z,m,h1,h2,h3⟩:=h
 obtain rfl : z=0:=by omega
 obtain rfl : m=0:=by omega
 simp only [Int.pow_zero] at h2
 have:=thr_pos hp k b (by simpa using h3)
 omega
theorem far_step {p : Bt} (hp : p.Ok) {b q k : Int} {N : Nat} (h0 : 0≤q) (h : Far p b q k (N + 1)) (hc : ¬ q < thr p k b) : Far p b ((q - thr p k b) / (p.base - thr p k b)) (k + p.base) N:=by
 obtain ⟨z,m,h1,h2,h3⟩:=h
 have hg:=thr_gap hp k b
 have hb:=hp.base0
 by_cases hk : b < k
 ·have ht:=thr_pos hp k b hk
  obtain ⟨m,rfl⟩ : ∃ m',m=m' + 1:=by
   rcases m with _|m
   ·simp only [Int.pow_zero] at h2;omega
   ·exact ⟨m,rfl⟩
  refine ⟨z,m,by omega,step_lt _ _ _ _ ht hg.2.1 h2,?_⟩
  have : 0≤p.base * (z : Int):=Int.mul_nonneg (by omega) (by omega)
  omega
 ·obtain ⟨z,rfl⟩ : ∃ z',z=z' + 1:=by
   rcases z with _|z
   ·simp at h3;omega
   ·exact ⟨z,rfl⟩
  refine ⟨z,m,by omega,Int.lt_of_le_of_lt (step_le _ _ _ hg.1 hg.2.1 hc).2.1 h2,?_⟩
  rw [Int.natCast_add,Int.mul_add] at h3
  simp only [Int.natCast_one,Int.mul_one] at h3
  omega
theorem wrt_f {p : Bt} (hp : p.Ok) (b : Int) : ∀ (N f : Nat) (q k : Int),0≤q→Far p b q k N→N + 1≤f→wrt p b f q k=wrt p b (N + 1) q k∧(wrt p b (N + 1) q k).length≤N + 1∧1≤(wrt p b (N + 1) q k).length∧∀ x ∈ wrt p b (N + 1) q k,48≤x∧x≤122∧0≤dgt p x:=by
 have hb0:=hp.base0
 have hb1:=hp.base1
 intro N
 induction N with
 | zero =>
  intro f q k h0 h1 hf
  obtain ⟨f,rfl⟩ : ∃ m,f=m + 1:=⟨f - 1,by omega⟩
  have hz:=far_zero hp h0 h1
  have hg:=thr_gap hp k b
  have hl:=ltr_range q h0 (by omega)
  have hd:=dgt_ltr hp q h0 (by omega)
  rw [wrt,wrt,if_pos hz,if_pos hz]
  exact ⟨rfl,by simp,by simp,fun x hx => by rw [List.mem_singleton.1 hx,hd];omega⟩
 | succ N ih =>
  intro f q k h0 h1 hf
  obtain ⟨f,rfl⟩ : ∃ m,f=m + 1:=⟨f - 1,by omega⟩
  have hg:=thr_gap hp k b
  rw [wrt,wrt]
  by_cases hc : q < thr p k b
  ·have hl:=ltr_range q h0 (by omega)
   have hd:=dgt_ltr hp q h0 (by omega)
   rw [if_pos hc,if_pos hc]
   exact ⟨rfl,by simp,by simp,fun x hx => by rw [List.mem_singleton.1 hx,hd];omega⟩
  rw [if_neg hc,if_neg hc]
  obtain ⟨p0,p1,p2,p3⟩:=step_le q _ _ hg.1 hg.2.1 hc
  obtain ⟨i1,i2,i4,i3⟩:=ih f _ (k + p.base) p0 (far_step hp h0 h1 hc) (by omega)
  have hl:=ltr_range (thr p k b + (q - thr p k b) % (p.base - thr p k b)) (by omega) (by omega)
  have hd:=dgt_ltr hp (thr p k b + (q - thr p k b) % (p.base - thr p k b)) (by omega) (by omega)
  refine ⟨by rw [i1],by rw [List.length_cons];omega,by rw [List.length_cons];omega,fun x hx => ?_⟩
  rcases List.mem_cons.1 hx with rfl|hx
  ·rw [hd];omega
  ·exact i3 x hx
def lenB (p : Bt) (b : Int) : Nat:=if b < p.base * 36 then 66 else 3365
theorem lenB_le (p : Bt) (b : Int) : lenB p b≤3365:=by unfold lenB;split <;> omega
theorem far_k {p : Bt} (hp : p.Ok) (b q : Int) (hb : b≤10000) (h0 : 0≤q) (h1 : q≤2147483647) : Far p b q p.base (lenB p b):=by
 have hb0:=hp.base0
 unfold lenB
 by_cases h : b < p.base * 36
 ·rw [if_pos h]
  refine ⟨35,31,rfl,Int.lt_of_le_of_lt h1 (by decide),?_⟩
  rw [show ((35 : Nat) : Int)=35 from rfl]
  omega
 ·rw [if_neg h]
  refine ⟨3334,31,rfl,Int.lt_of_le_of_lt h1 (by decide),?_⟩
  rw [show ((3334 : Nat) : Int)=3334 from rfl]
  omega
theorem wrt_k {p : Bt} (hp : p.Ok) (b q : Int) (hb : b≤10000) (h0 : 0≤q) (h1 : q≤2147483647) : wrt p b 1000000 q p.base=wrt p b (lenB p b + 1) q p.base∧(wrt p b 1000000 q p.base).length≤lenB p b + 1∧1≤(wrt p b 1000000 q p.base).length∧∀ x ∈ wrt p b 1000000 q p.base,48≤x∧x≤122∧0≤dgt p x:=by
 have:=lenB_le p b
 obtain ⟨h1,h2,h3,h4⟩:=wrt_f hp b (lenB p b) 1000000 q p.base h0 (far_k hp b q hb h0 h1) (by omega)
 rw [h1]
 exact ⟨rfl,h2,h3,h4⟩
theorem adpG_small (base span lim : Int) (hb : 0≤base) : ∀ (m : Nat) (d k : Int),0≤d→d < 2 ^ m→0≤(adpG base span lim d k).1∧k≤(adpG base span lim d k).2∧(adpG base span lim d k).2≤k + base * m:=by
 intro m
 induction m with
 | zero =>
  intro d k h0 h1
  simp only [Int.pow_zero] at h1
  rw [adpG,dif_neg (by omega)]
  simp
  omega
 | succ m ih =>
  intro d k h0 h1
  have hm : 0≤base * (m : Int):=Int.mul_nonneg hb (by omega)
  have e : base * ((m + 1 : Nat) : Int)=base * m + base:=by rw [Int.natCast_add,Int.mul_add];simp
  rw [adpG]
  by_cases hc : lim < d∧2≤span∧0≤lim
  ·rw [dif_pos hc]
   have hd : d / span < 2 ^ m:=by
    refine Int.ediv_lt_of_lt_mul (by omega) ?_
    rw [Int.pow_succ] at h1
    have hp : (0 : Int)≤2 ^ m:=Int.pow_nonneg (by omega)
    have:=Int.mul_le_mul_of_nonneg_left hc.2.1 hp
    omega
   obtain ⟨i1,i2,i3⟩:=ih (d / span) (k + base) (Int.ediv_nonneg h0 (by omega)) hd
   rw [e]
   omega
  ·rw [dif_neg hc]
   simp only
   omega
theorem adp_small {p : Bt} (hp : p.Ok) (delta pts : Int) (first : Bool) (h0 : 0≤delta) (h1 : delta≤2147483647) (hq : 1≤pts) : 0≤adp p delta pts first∧adp p delta pts first < p.base * 36:=by
 have b0:=hp.base0
 have b1:=hp.base1
 have l0:=hp.least0
 have l1:=hp.least1
 have m1:=hp.most1
 have s0:=hp.skew0
 obtain ⟨-,-,r2,r3⟩:=adpD_range hp delta pts first h0 h1 hq
 have hs:=adpG_small p.base (p.base - p.least) ((p.base - p.least) * p.most / 2) (by omega) 33 (adpD p delta pts first) 0 r2 (Int.lt_of_le_of_lt r3 (by decide))
 unfold adp
 simp only
 generalize adpG p.base (p.base - p.least) ((p.base - p.least) * p.most / 2) (adpD p delta pts first) 0=g at *
 rw [show ((33 : Nat) : Int)=33 from rfl] at hs
 have hq0 : 0≤(p.base - p.least + 1) * g.1 / (g.1 + p.skew):=Int.ediv_nonneg (Int.mul_nonneg (by omega) hs.1) (by omega)
 have hq1 : (p.base - p.least + 1) * g.1 / (g.1 + p.skew)≤p.base - p.least + 1:=by
  refine Int.ediv_le_of_le_mul (by omega) ?_
  exact Int.mul_le_mul_of_nonneg_left (by omega) (by omega)
 omega
def pot (p : Bt) (b : Int) : Int:=if b < p.base * 36 then 0 else 3400
theorem pot_rng (p : Bt) (b : Int) : 0≤pot p b∧pot p b≤3400:=by unfold pot;split <;> omega
theorem len_pot (p : Bt) (b : Int) : ((lenB p b + 1 : Nat) : Int)≤67 + pot p b:=by unfold lenB pot;split <;> omega
theorem pot_small {p : Bt} {b : Int} (h : b < p.base * 36) : pot p b=0:=by unfold pot;rw [if_pos h]
theorem scan_ok {p : Bt} (hp : p.Ok) (n basic : Int) : ∀ (L out : List Int) (delta bias h : Int) (o : List Int) (d b h' : Int),0≤delta→delta≤2147483647→0≤bias→bias≤10000→0≤h→(∀ x ∈ out,0≤x∧x≤127)→scan p n basic L out delta bias h=some (o,d,b,h') →
  0≤d∧d≤2147483647∧0≤b∧b≤10000∧h'=h + eqs n L∧(o.length : Int) + pot p b≤out.length + pot p bias + 67 * eqs n L∧∀ x ∈ o,0≤x∧x≤127:=by
 have hb1:=hp.base1
 intro L
 induction L with
 | nil =>
  intro out delta bias h o d b h' h1 h2 h3 h4 h5 h6 hs
  rw [scan] at hs
  injection hs with hs
  injection hs with e1 hs
  injection hs with e2 hs
  injection hs with e3 e4
  subst e1 e2 e3 e4
  refine ⟨h1,h2,h3,h4,?_,?_,h6⟩ <;> rw [eqs] <;> omega
 | cons r L ih =>
  intro out delta bias h o d b h' h1 h2 h3 h4 h5 h6 hs
  rw [scan] at hs
  rw [eqs]
  by_cases c1 : r < n
  ·rw [if_pos c1] at hs
   rw [if_neg (by omega)]
   by_cases c2 : 2147483647 < delta + 1
   ·rw [if_pos c2] at hs;cases hs
   rw [if_neg c2] at hs
   have:=ih out (delta + 1) bias h o d b h' (by omega) (by omega) h3 h4 h5 h6 hs
   rw [Int.zero_add]
   exact this
  rw [if_neg c1] at hs
  by_cases c2 : r=n
  ·rw [if_pos c2] at hs
   rw [if_pos c2]
   obtain ⟨-,w1,-,w2⟩:=wrt_k hp bias delta h4 h1 h2
   have ha:=adp_small hp delta (h + 1) (h == basic) h1 h2 (by omega)
   obtain ⟨g1,g2,g3,g4,g5,g6,g7⟩:=ih _ 0 _ (h + 1) o d b h' (by omega) (by omega) ha.1 (by omega) (by omega) (fun x hx => by
    rcases List.mem_append.1 hx with hx|hx
    ·exact h6 x hx
    ·have:=w2 x hx;omega) hs
   rw [List.length_append,pot_small ha.2] at g6
   have:=len_pot p bias
   exact ⟨g1,g2,g3,g4,by omega,by omega,g7⟩
  ·rw [if_neg c2] at hs
   rw [if_neg c2,Int.zero_add]
   exact ih out delta bias h o d b h' h1 h2 h3 h4 h5 h6 hs
end Go.Proofs.YtmjlkifmbhaiiaaDoor.V
