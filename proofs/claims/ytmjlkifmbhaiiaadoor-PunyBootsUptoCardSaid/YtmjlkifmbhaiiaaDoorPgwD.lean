/- Puny, any parameters: the document's DecodeBy is mine. -/
import Derived.Test.YtmjlkifmbhaiiaaDoorPgwC
import Derived.Test.YtmjlkifmbhaiiaaDoorQPwx8
import Derived.Test.YtmjlkifmbhaiiaaDoorQPwx5
import Derived.Test.YtmjlkifmbhaiiaaDoorQPwx4
import Derived.Test.YtmjlkifmbhaiiaaDoorQPwx7
import Derived.Test.YtmjlkifmbhaiiaaDoorQPwx6
set_option linter.unusedVariables false
set_option linter.unusedSimpArgs false
namespace Go.Proofs.YtmjlkifmbhaiiaaDoor.V
open Go.RowKit Go.Proofs.YtmjlkifmbhaiiaaDoorW.PrintWords Go.Proofs.YtmjlkifmbhaiiaaDoorW.PrintLast Go.Proofs.YtmjlkifmbhaiiaaDoorQ.Pw
theorem RDigit_is (k : Nat) (hk : 2≤k) (c : Int) (h0 : 0≤c) (h1 : c≤255) : Z4.f k c=some (dgu c):=by
 obtain ⟨k,rfl⟩ : ∃ m,k=m + 2:=⟨k - 2,by omega⟩
 unfold Z4.f dgu
 by_cases a1 : 97≤c
 ·rw [if_pos a1]
  rw [Z4.j0]
  by_cases a2 : c≤122
  ·rw [if_pos (decide_eq_true a2),if_pos ⟨a1,a2⟩]
   congr 1;omega
  ·rw [if_neg (by simpa using a2),if_pos (by omega),if_neg (by omega),if_neg (by omega),if_neg (by omega)]
   rw [Z4.j1]
   rw [if_neg (by simp;omega),if_pos (by omega),if_neg (by omega)]
 ·rw [if_neg a1,Z4.j0]
  simp only [Bool.false_eq_true,if_false]
  rw [if_neg (show ¬ (97≤c∧c≤122) by omega)]
  by_cases b1 : 65≤c
  ·rw [if_pos b1,Z4.j1]
   by_cases b2 : c≤90
   ·rw [if_pos (decide_eq_true b2),if_pos (show 65≤c∧c≤90 from ⟨b1,b2⟩)]
    congr 1;omega
   ·rw [if_neg (by simpa using b2),if_neg (show ¬ (65≤c∧c≤90) by omega),if_pos (show c ≥ 48 by omega),if_neg (show ¬ c≤57 by omega),if_neg (show ¬ (48≤c∧c≤57) by omega)]
  ·rw [if_neg b1,Z4.j1]
   simp only [Bool.false_eq_true,if_false]
   rw [if_neg (show ¬ (65≤c∧c≤90) by omega)]
   by_cases c1 : 48≤c
   ·by_cases c2 : c≤57
    ·rw [if_pos c1,if_pos c2,if_pos (show 48≤c∧c≤57 from ⟨c1,c2⟩)]
     congr 1;omega
    ·rw [if_pos c1,if_neg c2,if_neg (show ¬ (48≤c∧c≤57) by omega)]
   ·rw [if_neg c1,if_neg (show ¬ (48≤c∧c≤57) by omega)]
theorem rscl_is (r : Int) : Yc.f r=some (scl r):=by
 unfold Yc.f scl
 by_cases h : r ≥ 0
 ·rw [if_pos h]
  by_cases h1 : r < 55296
  ·rw [if_pos h1,decide_eq_true (Or.inl ⟨h,h1⟩)]
  ·rw [if_neg h1]
   by_cases h2 : r > 57343
   ·rw [if_pos h2];congr 1;exact decide_eq_decide.2 ⟨fun h => Or.inr ⟨h2,h⟩,fun h => by omega⟩
   ·rw [if_neg h2,decide_eq_false (by omega)]
 ·rw [if_neg h]
  by_cases h2 : r > 57343
  ·omega
  ·rw [if_neg h2,decide_eq_false (by omega)]
theorem drop_cons {s : ByteArray} {a : Int} {c : Int} {l : List Int} (h : c :: l=(bytesOf s).drop a.toNat) (h0 : 0≤a) : a < s.size∧bt s a=c∧l=(bytesOf s).drop (a + 1).toNat:=by
 have hl : a.toNat < (bytesOf s).length:=by
  rcases Nat.lt_or_ge a.toNat (bytesOf s).length with g|g
  ·exact g
  ·rw [List.drop_of_length_le g] at h;cases h
 rw [bytesOf_length] at hl
 have hlt : a < s.size:=by omega
 rw [drop_bt s a h0 hlt] at h
 injection h with h1 h2
 exact ⟨hlt,h1.symm,h2⟩
theorem set_end (a b : List Int) (y z : Int) : (a++[y]++b).set a.length z=a++[z]++b:=by simp
theorem rd_mid (a b : List Int) (x : Int) : rd (a++[x]++b) (a.length : Int)=x:=by simp [rd]
theorem fuel_ar0 (B M k k' D E S : Nat) (hk : B + M + E≤k + 1) (q1 : k≤k' + S + 1) (hS : S≤80000000) (h1 : D≤80000001) (h2 : 160000010≤M) : B + E + D≤k':=by omega
theorem fuel_ar (A m k k' L I : Nat) (hk : (A + m) * 160000010 + 6010000000≤k + 1) (q1 : k≤k' + (A + m) + 1) (hm : 1≤m) (hL : L≤80000000) (hA : A + m≤80000000) : A * 160000010 + 6010000000≤k' - (L - I + 1):=by
 have h1 : L - I + 1≤80000001:=by omega
 have h2 : 160000010≤m * 160000010:=by omega
 rw [Nat.add_mul] at hk
 refine Nat.le_sub_of_add_le ?_
 exact fuel_ar0 _ _ k k' _ _ (A + m) hk q1 hA h1 h2
theorem rletter (d : Int) (h0 : 0≤d) (h1 : d≤35) : Yk.f d=some (ltr d):=by
 unfold Yk.f ltr
 by_cases h : d < 26
 ·rw [if_pos h,w64 (97 + d) (by omega) (by omega)]
  rw [if_pos h]
  congr 1
  omega
 ·rw [if_neg h,w64 (48 + d) (by omega) (by omega),w64 (48 + d - 26) (by omega) (by omega)]
  rw [if_neg h]
  congr 1
  omega
theorem rdig (p : Bt) (k : Nat) (hk : 2≤k) (c : Int) (h0 : 0≤c) (h1 : c≤255) : Yd.f k c p.base=some (dgt p c):=by
 unfold Yd.f dgt
 rw [RDigit_is k hk c h0 h1]
 simp only [Option.bind_some]
 by_cases h : dgu c < p.base
 ·rw [if_pos h,if_neg (by omega)]
 ·rw [if_neg h,if_pos (by omega)]
theorem rthr {p : Bt} (hp : p.Ok) (k b : Int) (hk : -4611686018427387904≤k∧k≤4611686018427387903) (hb : -4611686018427387903≤b∧b≤4611686018427387904) : Z6.f p.base p.least p.most p.skew p.damp p.bias p.first p.btw k b=some (thr p k b):=by
 unfold Z6.f
 rw [w64 (k - b) (by omega) (by omega)]
 unfold thr
 by_cases h1 : k - b < p.least
 ·rw [if_pos h1,if_pos h1]
 ·rw [if_neg h1,if_neg h1]
  by_cases h2 : k - b > p.most
  ·rw [if_pos h2,if_pos h2]
  ·rw [if_neg h2,if_neg h2]
theorem rbas (p : Bt) (r : Int) (h0 : 0≤r) (h1 : r≤1114111) : Yf.f p.base p.least p.most p.skew p.damp p.bias p.first p.btw r=some (bas p r):=by
 unfold Yf.f bas
 rw [w64 r (by omega) (by omega)]
 by_cases h : r < p.first <;> simp [h]
theorem radp_l0 {p : Bt} (h : p.Ok) (n : Nat) : ∀ (k : Nat) (x1 x10 : Int),0≤x1→x1.toNat≤n→n < k→x1≤4294967296→0≤x10→x10 + 36 * x1≤1099511627776 →
  Zy.l0 k x1 x10 p.base p.least p.most p.skew p.damp p.bias p.first p.btw =
   some ((adpG p.base (p.base - p.least) ((p.base - p.least) * p.most / 2) x1 x10).2 + (p.base - p.least + 1) * (adpG p.base (p.base - p.least) ((p.base - p.least) * p.most / 2) x1 x10).1 / ((adpG p.base (p.base - p.least) ((p.base - p.least) * p.most / 2) x1 x10).1 + p.skew)):=by
 have b0:=h.base0
 have b1:=h.base1
 have l0:=h.least0
 have l1:=h.least1
 have m0:=h.most0
 have m1:=h.most1
 have s0:=h.skew0
 have s1:=h.skew1
 have hP0 : 0≤(p.base - p.least) * p.most:=Int.mul_nonneg (by omega) (by omega)
 have hP1 : (p.base - p.least) * p.most≤36 * 36:=Int.mul_le_mul (by omega) (by omega) (by omega) (by omega)
 generalize hL : (p.base - p.least) * p.most=L at *
 induction n with
 | zero =>
  intro k x1 x10 hx hn hk hx1 h10 hs
  obtain rfl : x1=0:=by omega
  obtain ⟨k,rfl⟩ : ∃ m,k=m + 1:=⟨k - 1,by omega⟩
  rw [adpG,dif_neg (by omega)]
  rw [Zy.l0]
  rw [w64 (p.base - p.least) (by omega) (by omega),hL,w64 L (by omega) (by omega),tdiv_pos L 2 hP0,w64 (L / 2) (by omega) (by omega),if_neg (by omega),w64 (0 + p.skew) (by omega) (by omega),if_neg (by omega),w64 (p.base - p.least + 1) (by omega) (by omega),Int.mul_zero,w64 0 (by omega) (by omega),tdiv_pos 0 _ (by omega),Int.zero_ediv,w64 0 (by omega) (by omega),w64 (x10 + 0) (by omega) (by omega)]
 | succ n ih =>
  intro k x1 x10 hx hn hk hx1 h10 hs
  obtain ⟨k,rfl⟩ : ∃ m,k=m + 1:=⟨k - 1,by omega⟩
  rw [Zy.l0]
  rw [w64 (p.base - p.least) (by omega) (by omega),hL,w64 L (by omega) (by omega),tdiv_pos L 2 hP0,w64 (L / 2) (by omega) (by omega),w64 (x1 + p.skew) (by omega) (by omega),w64 (p.base - p.least + 1) (by omega) (by omega)]
  by_cases hc : x1 > L / 2
  ·have hd : x1 / (p.base - p.least) < x1:=Int.ediv_lt_self_of_pos_of_ne_one (by omega) (by omega)
   have hd0 : 0≤x1 / (p.base - p.least):=Int.ediv_nonneg hx (by omega)
   rw [if_pos hc,if_neg (by omega),tdiv_pos x1 _ hx,w64 (x1 / (p.base - p.least)) (by omega) (by omega),w64 (x10 + p.base) (by omega) (by omega)]
   rw [ih k _ _ hd0 (by omega) (by omega) (by omega) (by omega) (by omega)]
   conv => rhs;rw [adpG,dif_pos (by omega)]
  ·have hm0 : 0≤(p.base - p.least + 1) * x1:=Int.mul_nonneg (by omega) hx
   have hm1 : (p.base - p.least + 1) * x1≤37 * 4294967296:=Int.mul_le_mul (by omega) hx1 hx (by omega)
   rw [adpG,dif_neg (by omega)]
   simp only
   generalize (p.base - p.least + 1) * x1=M at *
   have hq0 : 0≤M / (x1 + p.skew):=Int.ediv_nonneg hm0 (by omega)
   have hq1 : M / (x1 + p.skew)≤M:=Int.ediv_le_self _ hm0
   rw [if_neg hc,if_neg (by omega),w64 M (by omega) (by omega),tdiv_pos M _ hm0,w64 (M / (x1 + p.skew)) (by omega) (by omega),w64 _ (by omega) (by omega)]
theorem radapt {p : Bt} (h : p.Ok) (k : Nat) (hk : 5000000000≤k) (delta pts : Int) (first : Bool) (h0 : 0≤delta) (h1 : delta≤2147483647) (hp : 1≤pts) :
  Zy.f k p.base p.least p.most p.skew p.damp p.bias p.first p.btw delta pts first=some (adp p delta pts first):=by
 obtain ⟨k,rfl⟩ : ∃ m,k=m + 1:=⟨k - 1,by omega⟩
 have d0:=h.damp0
 obtain ⟨r0,r1,r2,r3⟩:=adpD_range h delta pts first h0 h1 hp
 have hj : Zy.j0 (k + 1) (if first=true then delta / p.damp else delta / 2) pts p.base p.least p.most p.skew p.damp p.bias p.first p.btw=some (adp p delta pts first):=by
  unfold adpD at r2 r3
  rw [Zy.j0]
  unfold adp adpD
  generalize (if first=true then delta / p.damp else delta / 2)=x at *
  have q0 : 0≤x / pts:=Int.ediv_nonneg r0 (by omega)
  have q1 : x / pts≤x:=Int.ediv_le_self _ r0
  rw [if_neg (by omega),tdiv_pos x _ r0,w64 (x / pts) (by omega) (by omega),w64 (x + x / pts) (by omega) (by omega)]
  exact radp_l0 h _ k _ _ (by omega) (Nat.le_refl _) (by omega) (by omega) (by omega) (by omega)
 unfold Zy.f
 cases first with
 | true =>
  simp only [if_true] at hj r0 r1
  rw [if_pos rfl,if_neg (by omega),tdiv_pos _ _ h0,w64 _ (by omega) (by omega)]
  exact hj
 | false =>
  simp only [Bool.false_eq_true,if_false] at hj r0 r1
  rw [if_neg (by simp),tdiv_pos _ _ h0,w64 _ (by omega) (by omega)]
  exact hj
theorem rchk (p : Bt) (hb : 0≤p.btw∧p.btw≤255) (k : Nat) (hk : 5≤k) : Zx.f k p.base p.least p.most p.skew p.damp p.bias p.first p.btw=some (okB p):=by
 obtain ⟨k,rfl⟩ : ∃ m,k=m + 1:=⟨k - 1,by omega⟩
 have hok : okB p=decide (3≤p.base∧p.base≤36∧0≤p.least∧p.least≤p.most∧1≤p.most∧p.most≤p.base - 2∧1≤p.skew∧p.skew≤10000∧2≤p.damp∧p.damp≤10000∧0≤p.bias∧p.bias≤10000∧1≤p.first∧p.first≤1114111∧33≤p.btw∧p.btw≤126∧p.btw < p.first∧dgt p p.btw < 0):=rfl
 have hj : Zx.j0 (k + 1) true p.base p.least p.most p.skew p.damp p.bias p.first p.btw=some false:=by rw [Zx.j0,if_pos rfl]
 unfold Zx.f
 by_cases c1 : p.base < 3
 ·rw [if_pos c1,hj,hok,decide_eq_false (fun e => by omega)]
 rw [if_neg c1]
 by_cases c2 : p.base > 36
 ·rw [if_pos c2,hj,hok,decide_eq_false (fun e => by omega)]
 rw [if_neg c2]
 by_cases c3 : p.least < 0
 ·rw [if_pos c3,hj,hok,decide_eq_false (fun e => by omega)]
 rw [if_neg c3,w64 (p.base - 2) (by omega) (by omega)]
 by_cases c4 : p.most > p.base - 2
 ·rw [if_pos c4,hj,hok,decide_eq_false (fun e => by omega)]
 rw [if_neg c4]
 by_cases c5 : p.least > p.most
 ·rw [if_pos c5,hj,hok,decide_eq_false (fun e => by omega)]
 rw [if_neg c5]
 by_cases c6 : p.most < 1
 ·rw [decide_eq_true c6,hj,hok,decide_eq_false (fun e => by omega)]
 rw [decide_eq_false c6,Zx.j0,if_neg (by simp)]
 by_cases c7 : p.skew < 1
 ·rw [if_pos c7,hok,decide_eq_false (fun e => by omega)]
 rw [if_neg c7]
 by_cases c8 : p.skew > 10000
 ·rw [if_pos c8,hok,decide_eq_false (fun e => by omega)]
 rw [if_neg c8]
 by_cases c9 : p.damp < 2
 ·rw [if_pos c9,hok,decide_eq_false (fun e => by omega)]
 rw [if_neg c9]
 by_cases d1 : p.damp > 10000
 ·rw [if_pos d1,hok,decide_eq_false (fun e => by omega)]
 rw [if_neg d1]
 by_cases d2 : p.bias < 0
 ·rw [if_pos d2,hok,decide_eq_false (fun e => by omega)]
 rw [if_neg d2]
 by_cases d3 : p.bias > 10000
 ·rw [if_pos d3,hok,decide_eq_false (fun e => by omega)]
 rw [if_neg d3]
 by_cases d4 : p.first < 1
 ·rw [if_pos d4,hok,decide_eq_false (fun e => by omega)]
 rw [if_neg d4]
 by_cases d5 : p.first > 1114111
 ·rw [if_pos d5,hok,decide_eq_false (fun e => by omega)]
 rw [if_neg d5]
 by_cases d6 : p.btw ≥ 33
 ·rw [if_pos d6]
  by_cases d7 : p.btw≤126
  ·rw [if_pos d7,w64 p.btw (by omega) (by omega)]
   by_cases d8 : p.btw < p.first
   ·rw [if_pos d8,rdig p k (by omega) p.btw hb.1 hb.2,hok]
    show some (decide (dgt p p.btw < 0))=_
    congr 1
    exact decide_eq_decide.2 ⟨fun e => by omega,fun e => by omega⟩
   ·rw [if_neg d8,hok,decide_eq_false (fun e => by omega)]
  ·rw [if_neg d7,hok,decide_eq_false (fun e => by omega)]
 ·rw [if_neg d6,hok,decide_eq_false (fun e => by omega)]
theorem r3 {p : Bt} (hp : p.Ok) (s : ByteArray) (hs : s.size≤80000000) (l : List Int) (hl : l.length≤80000000) (n b old : Int) (hn0 : 0≤n) (hn1 : n≤1114111) (hb0 : -1073741824≤b) (hb1 : b≤1099511627776) (ho : 0≤old) : ∀ (L : List Int) (a i w kk : Int) (k : Nat),L=(bytesOf s).drop a.toNat→0≤a→a≤s.size→old≤i→i≤2147483647→1≤w→w≤2147483647→0≤kk→kk≤36 * (a + 1)→L.length + 6000000000≤k →
  ((num p b L a i w kk).1 ≠ 0→Zi.l3 k s a l n i b old w kk p.base p.least p.most p.skew p.damp p.bias p.first p.btw=some ([],(num p b L a i w kk).2.1,(num p b L a i w kk).1)) ∧
  ((num p b L a i w kk).1=0→∃ k' : Nat,k≤k' + L.length + 1∧Zi.l3 k s a l n i b old w kk p.base p.least p.most p.skew p.damp p.bias p.first p.btw =
   if 1114111 < n + (num p b L a i w kk).2.2.1 / (l.length + 1) then some ([],(num p b L a i w kk).2.1 - 1,142)
   else if scl (n + (num p b L a i w kk).2.2.1 / (l.length + 1))=false then some ([],(num p b L a i w kk).2.1 - 1,143)
   else Zi.l4 k' s ((num p b L a i w kk).2.1 - 1) (l++[0]) (n + (num p b L a i w kk).2.2.1 / (l.length + 1)) ((num p b L a i w kk).2.2.1 % (l.length + 1)) (adp p ((num p b L a i w kk).2.2.1 - old) (l.length + 1) (old == 0)) l.length p.base p.least p.most p.skew p.damp p.bias p.first p.btw):=by
 intro L
 induction L with
 | nil =>
  intro a i w kk k hL h0 h1 hi hi1 hw hw1 hk hk1 hf
  have hd:=congrArg List.length hL
  rw [List.length_drop,bytesOf_length] at hd
  simp only [List.length_nil] at hd
  obtain ⟨k,rfl⟩ : ∃ m,k=m + 1:=⟨k - 1,by omega⟩
  refine ⟨fun _ => ?_,fun h => by rw [num] at h;cases h⟩
  show Zi.l3 (k + 1) s a l n i b old w kk p.base p.least p.most p.skew p.damp p.bias p.first p.btw=some ([],a,140)
  rw [Zi.l3,if_pos (show a=(s.size : Int) by omega)]
 | cons c L ih =>
  intro a i w kk k hL h0 h1 hi hi1 hw hw1 hk hk1 hf
  obtain ⟨hlt,hc,hL2⟩:=drop_cons hL h0
  obtain ⟨k,rfl⟩ : ∃ m,k=m + 1:=⟨k - 1,by omega⟩
  simp only [List.length_cons] at hf
  have hbr:=bt_range s a
  have hdg:=dgt_range (p:=p) (bt s a)
  have hB0:=hp.base0
  have hB1:=hp.base1
  have hgap:=thr_gap hp kk b
  rw [Zi.l3,if_neg (show ¬ a=(s.size : Int) by omega),if_pos h0,if_pos hlt,rdig p k (by omega) (bt s a) hbr.1 hbr.2]
  simp only [Option.bind_some]
  rw [num,← hc]
  generalize dgt p (bt s a)=d at *
  by_cases hd : d < 0
  ·rw [if_pos hd,if_pos hd]
   exact ⟨fun _ => rfl,fun h => by cases h⟩
  rw [if_neg hd,if_neg hd]
  have hM0 : 0≤d * w:=Int.mul_nonneg (by omega) (by omega)
  have hM1 : d * w≤35 * 2147483647:=Int.mul_le_mul (by omega) hw1 (by omega) (by omega)
  rw [w64 (d * w) (by omega) (by omega),w64 (i + d * w) (by omega) (by omega)]
  generalize d * w=M at *
  by_cases hov : 2147483647 < i + M
  ·rw [if_pos hov,if_pos hov]
   exact ⟨fun _ => rfl,fun h => by cases h⟩
  rw [if_neg hov,if_neg (show ¬ i + M > 2147483647 from hov),rthr hp kk b (by omega) (by omega)]
  simp only [Option.bind_some]
  generalize thr p kk b=t at *
  by_cases hdl : d < t
  ·rw [if_pos hdl,if_pos hdl]
   refine ⟨fun h => absurd rfl h,fun _ => ⟨k,by simp,?_⟩⟩
   have hq0 : 0≤(i + M) / ((l.length : Int) + 1):=Int.ediv_nonneg (by omega) (by omega)
   have hq1 : (i + M) / ((l.length : Int) + 1)≤i + M:=Int.ediv_le_self _ (by omega)
   rw [w64 (i + M - old) (by omega) (by omega),w64 ((l.length : Int) + 1) (by omega) (by omega),radapt hp k (by omega) (i + M - old) ((l.length : Int) + 1) (old == 0) (by omega) (by omega) (by omega)]
   simp only [Option.bind_some]
   rw [if_neg (by omega),tdiv_pos _ _ (by omega),w64 ((i + M) / ((l.length : Int) + 1)) (by omega) (by omega),w64 (n + (i + M) / ((l.length : Int) + 1)) (by omega) (by omega),Int.tmod_eq_emod_of_nonneg (by omega)]
   show _=if 1114111 < n + (i + M) / ((l.length : Int) + 1) then some ([],a + 1 - 1,142) else if scl (n + (i + M) / ((l.length : Int) + 1))=false then some ([],a + 1 - 1,143) else Zi.l4 k s (a + 1 - 1) (l++[0]) (n + (i + M) / ((l.length : Int) + 1)) ((i + M) % ((l.length : Int) + 1)) (adp p (i + M - old) ((l.length : Int) + 1) (old == 0)) l.length p.base p.least p.most p.skew p.damp p.bias p.first p.btw
   rw [show a + 1 - 1=a by omega]
   by_cases hbig : 1114111 < n + (i + M) / ((l.length : Int) + 1)
   ·rw [if_pos hbig,if_pos hbig]
   rw [if_neg hbig,if_neg hbig,show wrap32 (n + (i + M) / ((l.length : Int) + 1))=n + (i + M) / ((l.length : Int) + 1) by unfold wrap32;omega,rscl_is]
   simp only [Option.bind_some]
   by_cases hsc : scl (n + (i + M) / ((l.length : Int) + 1))=false
   ·rw [if_pos hsc,hsc,if_neg (by simp)]
   ·rw [if_neg hsc,if_pos (by simpa using hsc),if_pos (by omega)]
    show Zi.l4 k s a (l++[0]) _ _ _ (wrap64 (((l++[0]).length : Int) - 1)) p.base p.least p.most p.skew p.damp p.bias p.first p.btw=_
    have hlen : wrap64 (((l++[0]).length : Int) - 1)=(l.length : Int):=by
     rw [List.length_append,List.length_singleton,w64 _ (by omega) (by omega)]
     omega
    rw [hlen]
  rw [if_neg hdl,if_neg hdl]
  have hw2 : 1≤w * (p.base - t):=by
   have:=Int.mul_le_mul (a:=1) (c:=w) (b:=1) (d:=p.base - t) hw (by omega) (by omega) (by omega)
   omega
  have hw3 : w * (p.base - t)≤2147483647 * 36:=Int.mul_le_mul hw1 (by omega) (by omega) (by omega)
  rw [w64 (p.base - t) (by omega) (by omega),w64 (w * (p.base - t)) (by omega) (by omega)]
  by_cases hov2 : 2147483647 < w * (p.base - t)
  ·rw [if_pos hov2,if_pos hov2]
   exact ⟨fun _ => rfl,fun h => by cases h⟩
  rw [if_neg hov2,if_neg (show ¬ w * (p.base - t) > 2147483647 from hov2),w64 (a + 1) (by omega) (by omega),w64 (kk + p.base) (by omega) (by omega)]
  obtain ⟨g1,g2⟩:=ih (a + 1) (i + M) (w * (p.base - t)) (kk + p.base) k hL2 (by omega) (by omega) (by omega) (by omega) hw2 (by omega) (by omega) (by omega) (by omega)
  refine ⟨g1,fun h => ?_⟩
  obtain ⟨k',q1,q2⟩:=g2 h
  exact ⟨k',by simp only [List.length_cons];omega,q2⟩
theorem r4 {p : Bt} (hp : p.Ok) (s : ByteArray) (hs : s.size≤80000000) (l : List Int) (hl : l.length≤80000000) (a n b i : Int) (ha : 0≤a) (ha1 : a≤80000000) (hn0 : 0≤n) (hn1 : n≤1114111) (hi0 : 0≤i) : ∀ (d j : Nat) (z : Int) (k : Nat),(j : Int)=i + d→j≤l.length→d + 1≤k →
  Zi.l4 k s a (l.take j++z :: l.drop j) n i b j p.base p.least p.most p.skew p.damp p.bias p.first p.btw=Zi.l2 (k - (d + 1)) s (a + 1) (l.take i.toNat++n :: l.drop i.toNat) n (i + 1) b p.base p.least p.most p.skew p.damp p.bias p.first p.btw:=by
 intro d
 induction d with
 | zero =>
  intro j z k hj hjl hk
  obtain ⟨k,rfl⟩ : ∃ m,k=m + 1:=⟨k - 1,by omega⟩
  have hij : i.toNat=j:=by omega
  rw [Zi.l4,if_neg (by omega),if_pos hi0,if_pos (by simp only [List.length_append,List.length_take,List.length_cons,List.length_drop];omega),w64 (a + 1) (by omega) (by omega),w64 (i + 1) (by omega) (by omega),show wrap32 n=n by unfold wrap32;omega,hij]
  have e : (l.take j++z :: l.drop j).set j n=l.take j++n :: l.drop j:=by
   have:=set_end (l.take j) (l.drop j) z n
   rw [List.length_take,Nat.min_eq_left hjl] at this
   simpa using this
  rw [e]
  rfl
 | succ d ih =>
  intro j z k hj hjl hk
  obtain ⟨k,rfl⟩ : ∃ m,k=m + 1:=⟨k - 1,by omega⟩
  obtain ⟨j,rfl⟩ : ∃ m,j=m + 1:=⟨j - 1,by omega⟩
  have hlen : (l.take (j + 1)++z :: l.drop (j + 1)).length=l.length + 1:=by simp only [List.length_append,List.length_take,List.length_cons,List.length_drop];omega
  rw [Zi.l4,if_pos (by omega),w64 (((j + 1 : Nat) : Int) - 1) (by omega) (by omega),if_pos (by omega),if_pos (by rw [hlen];omega),if_pos (by omega),if_pos (by rw [hlen];omega)]
  have hjn : (((j + 1 : Nat) : Int)).toNat=j + 1:=by omega
  have hj1 : ((j + 1 : Nat) : Int) - 1=(j : Int):=by omega
  rw [hjn,hj1]
  have hA : (l.take j).length=j:=by rw [List.length_take,Nat.min_eq_left (by omega)]
  have h2 : l.take (j + 1) = l.take j ++ [l[j]'(by omega)] := by rw [List.take_succ_eq_append_getElem (by omega)]
  have h3 : l.drop j = l[j]'(by omega) :: l.drop (j + 1) := List.drop_eq_getElem_cons (by omega)
  have hg : rd (l.take (j + 1) ++ z :: l.drop (j + 1)) (j : Int) = l[j]'(by omega) := by
   rw [h2]
   have := rd_mid (l.take j) (z :: l.drop (j + 1)) (l[j]'(by omega))
   rw [hA] at this
   exact this
  have e : (l.take (j + 1) ++ z :: l.drop (j + 1)).set (j + 1) (l[j]'(by omega)) = l.take j ++ l[j]'(by omega) :: l.drop j := by
   have h1 := set_end (l.take (j + 1)) (l.drop (j + 1)) z (l[j]'(by omega))
   rw [List.length_take,Nat.min_eq_left hjl] at h1
   rw [List.append_assoc,List.append_assoc] at h1
   refine h1.trans ?_
   rw [h2,h3,List.append_assoc]
   rfl
  rw [hg, e, ih j (l[j]'(by omega)) k (by omega) (by omega) (by omega)]
  congr 1
  omega
theorem r2 {p : Bt} (hp : p.Ok) (s : ByteArray) (hs : s.size≤80000000) : ∀ (f : Nat) (a : Int) (l : List Int) (n i b : Int) (k : Nat),0≤a→a≤s.size→((bytesOf s).drop a.toNat).length < f→(l.length : Int)≤a→0≤n→n≤1114111→0≤i→i≤l.length→0≤b→b≤1099511627776→((bytesOf s).drop a.toNat).length * 160000010 + 6010000000≤k →
  Zi.l2 k s a l n i b p.base p.least p.most p.skew p.damp p.bias p.first p.btw=some (decG p f ((bytesOf s).drop a.toNat) a l n i b):=by
 intro f
 induction f with
 | zero => intro a l n i b k _ _ h;omega
 | succ f ih =>
  intro a l n i b k h0 h1 hf hl hn0 hn1 hi0 hi1 hb0 hb1 hk
  have hlen : ((bytesOf s).drop a.toNat).length=s.size - a.toNat:=by rw [List.length_drop,bytesOf_length]
  obtain ⟨k,rfl⟩ : ∃ m,k=m + 1:=⟨k - 1,by omega⟩
  rw [Zi.l2,decG]
  by_cases he : a=s.size
  ·rw [if_neg (by omega),if_pos (List.length_eq_zero_iff.1 (by omega))]
  rw [if_pos (show a < s.size by omega),if_neg (fun h => by rw [h] at hlen;simp only [List.length_nil] at hlen;omega)]
  have hBB0:=hp.base0
  have hBB1:=hp.base1
  obtain ⟨g1,g2⟩:=r3 hp s hs l (by omega) n b i hn0 hn1 (by omega) hb1 hi0 _ a i 1 p.base k rfl h0 h1 (Int.le_refl _) (by omega) (by omega) (by omega) (by omega) (by omega) (by omega)
  show _=some (if (num p b ((bytesOf s).drop a.toNat) a i 1 p.base).1 ≠ 0 then _ else _)
  show _=some (let r:=num p b ((bytesOf s).drop a.toNat) a i 1 p.base;_)
  have hok:=num_ok hp b ((bytesOf s).drop a.toNat) a i 1 p.base hi0 (by omega) (by omega)
  have hB0:=hp.base0
  have hB1:=hp.base1
  generalize num p b ((bytesOf s).drop a.toNat) a i 1 p.base=r at *
  by_cases hr : r.1 ≠ 0
  ·rw [g1 hr,if_pos hr]
  have hr0 : r.1=0:=Decidable.not_not.1 hr
  obtain ⟨k',q1,q2⟩:=g2 hr0
  obtain ⟨m,m1,m2,m3,m4,m5,m6⟩:=hok hr0
  rw [q2,if_neg hr]
  by_cases hbig : 1114111 < n + r.2.2.1 / ((l.length : Int) + 1)
  ·rw [if_pos hbig,if_pos hbig]
  rw [if_neg hbig,if_neg hbig]
  by_cases hsc : scl (n + r.2.2.1 / ((l.length : Int) + 1))=false
  ·rw [if_pos hsc,if_pos hsc]
  rw [if_neg hsc,if_neg hsc]
  have hq0 : 0≤r.2.2.1 / ((l.length : Int) + 1):=Int.ediv_nonneg (by omega) (by omega)
  have hm0 : 0≤r.2.2.1 % ((l.length : Int) + 1):=Int.emod_nonneg _ (by omega)
  have hm1 : r.2.2.1 % ((l.length : Int) + 1) < (l.length : Int) + 1:=Int.emod_lt_of_pos _ (by omega)
  have hN0 : 0≤n + r.2.2.1 / ((l.length : Int) + 1):=by omega
  have had:=adp_range hp (r.2.2.1 - i) ((l.length : Int) + 1) (i == 0) (by omega) (by omega) (by omega)
  generalize adp p (r.2.2.1 - i) ((l.length : Int) + 1) (i == 0)=B at *
  generalize r.2.2.1 % ((l.length : Int) + 1)=I at *
  generalize n + r.2.2.1 / ((l.length : Int) + 1)=N at *
  have hst:=r4 hp s hs l (by omega) (r.2.1 - 1) N B I (by omega) (by omega) (by omega) (by omega) hm0 (l.length - I.toNat) l.length 0 k' (by omega) (Nat.le_refl _) (by omega)
  rw [List.take_length,List.drop_length] at hst
  rw [hst,show r.2.1 - 1 + 1=r.2.1 by omega,m4]
  have hd : ((bytesOf s).drop a.toNat).drop m=(bytesOf s).drop r.2.1.toNat:=by
   rw [List.drop_drop,m3,show (a + (m : Int)).toNat=a.toNat + m by omega]
  have hlen2 : ((bytesOf s).drop r.2.1.toNat).length=s.size - r.2.1.toNat:=by rw [List.length_drop,bytesOf_length]
  have hlen3 : (l.take I.toNat++N :: l.drop I.toNat).length=l.length + 1:=by simp only [List.length_append,List.length_take,List.length_cons,List.length_drop];omega
  rw [hd]
  have hfu : ((bytesOf s).drop r.2.1.toNat).length * 160000010 + 6010000000≤k' - (l.length - I.toNat + 1):=by
   rw [hlen2]
   rw [hlen] at hk q1 m2
   have e1 : s.size - a.toNat=(s.size - r.2.1.toNat) + m:=by
    clear hst hsc g1 g2 q2 hr hr0 hok ih hd hlen2 hlen3 hk q1 hbig hq0 hm0 hm1 hN0 had
    omega
   rw [e1] at hk q1
   exact fuel_ar _ m k k' _ _ hk q1 m1 (by omega) (by omega)
  clear hst hsc g1 g2 q2 hr hr0 hok hd hq0
  exact ih r.2.1 _ N (I + 1) B _ (by omega) (by omega) (by omega) (by rw [hlen3];omega) (by omega) (by omega) (by omega) (by rw [hlen3];omega) had.1 had.2 (by omega)
theorem r0 {p : Bt} (hp : p.Ok) (s : ByteArray) (hs : s.size≤80000000) : ∀ (m : Nat) (i d : Int) (k : Nat),0≤i→(s.size : Int)=i + m→m + 1≤k→Zi.l0 k s d i p.base p.least p.most p.skew p.damp p.bias p.first p.btw=Zi.l1 (k - (m + 1)) s (lastP p.btw ((bytesOf s).drop i.toNat) i d) [] 0 p.base p.least p.most p.skew p.damp p.bias p.first p.btw:=by
 intro m
 induction m with
 | zero =>
  intro i d k h0 h1 hk
  obtain ⟨k,rfl⟩ : ∃ m,k=m + 1:=⟨k - 1,by omega⟩
  rw [Zi.l0,if_neg (by omega),List.drop_of_length_le (by rw [bytesOf_length];omega)]
  rfl
 | succ m ih =>
  intro i d k h0 h1 hk
  obtain ⟨k,rfl⟩ : ∃ m,k=m + 1:=⟨k - 1,by omega⟩
  rw [Zi.l0,if_pos (by omega),if_pos h0,w64 (i + 1) (by omega) (by omega),drop_bt s i h0 (by omega),lastP]
  have e : k + 1 - (m + 1 + 1)=k - (m + 1):=by omega
  rw [e]
  by_cases h : bt s i=p.btw
  ·rw [if_pos h,if_pos h,ih (i + 1) i k (by omega) (by omega) (by omega)]
  ·rw [if_neg h,if_neg h,ih (i + 1) d k (by omega) (by omega) (by omega)]
theorem r1 {p : Bt} (hp : p.Ok) (s : ByteArray) (hs : s.size≤80000000) (d : Nat) (hd : d≤s.size) : ∀ (m j : Nat) (k : Nat),d=j + m→m + 1≤k →
  Zi.l1 k s d (((bytesOf s).take d).take j) j p.base p.least p.most p.skew p.damp p.bias p.first p.btw=if 0≤fstB (fun b => !bas p b) (((bytesOf s).take d).drop j) j then some ([],fstB (fun b => !bas p b) (((bytesOf s).take d).drop j) j,141) else (if (d : Int) > 0 then Zi.j2 (k - (m + 1)) s ((d : Int) + 1) ((bytesOf s).take d) p.base p.least p.most p.skew p.damp p.bias p.first p.btw else Zi.j2 (k - (m + 1)) s d ((bytesOf s).take d) p.base p.least p.most p.skew p.damp p.bias p.first p.btw):=by
 intro m
 have hl : ((bytesOf s).take d).length=d:=by rw [List.length_take,bytesOf_length];omega
 induction m with
 | zero =>
  intro j k h hk
  obtain ⟨k,rfl⟩ : ∃ m,k=m + 1:=⟨k - 1,by omega⟩
  have hj : j=d:=by omega
  rw [hj,Zi.l1,if_neg (by omega),List.drop_of_length_le (by omega),List.take_of_length_le (show ((bytesOf s).take d).length≤d by omega),w64 ((d : Int) + 1) (by omega) (by omega)]
  rfl
 | succ m ih =>
  intro j k h hk
  obtain ⟨k,rfl⟩ : ∃ m,k=m + 1:=⟨k - 1,by omega⟩
  have hb:=bt_range s (j : Int)
  have hx : rd ((bytesOf s).take d) (j : Nat)=bt s j:=by
   have h1 : (bytesOf s).drop ((j : Int)).toNat=bt s j :: (bytesOf s).drop ((j : Int) + 1).toNat:=drop_bt s j (by omega) (by omega)
   rw [Int.toNat_natCast] at h1
   have h2:=congrArg (fun l => l[0]?) h1
   simp only [List.getElem?_drop,List.getElem?_cons_zero,Nat.add_zero] at h2
   simp [rd,List.getD_eq_getElem?_getD,List.getElem?_take,h2,show j < d by omega]
  rw [Zi.l1,if_pos (by omega),if_pos (by omega),if_pos (by omega)]
  have hF:=fstB_drop (f:=fun b => !bas p b) (l:=(bytesOf s).take d) (k:=j) (by omega) (j : Int)
  rw [hx] at hF
  rw [show wrap32 (bt s j)=bt s j by unfold wrap32;omega,rbas p (bt s j) (by omega) (by omega)]
  simp only [Option.bind_some]
  by_cases hc : bas p (bt s j)=true
  ·rw [hc] at hF
   simp only [Bool.not_true,Bool.false_eq_true,if_false] at hF
   rw [if_pos hc,hF,if_pos (by rw [List.length_take];omega),w64 ((j : Int) + 1) (by omega) (by omega)]
   have ht : ((bytesOf s).take d).take j++[bt s j]=((bytesOf s).take d).take (j + 1):=by
    rw [List.take_succ_eq_append_getElem (by omega)]
    congr 2
    rw [← hx]
    simp [rd,List.getD_eq_getElem?_getD,List.getElem?_eq_getElem (show j < ((bytesOf s).take d).length by omega)]
   have hi:=ih (j + 1) k (by omega) (by omega)
   rw [show (((j + 1 : Nat) : Int))=(j : Int) + 1 by omega] at hi
   rw [ht,hi,show k + 1 - (m + 1 + 1)=k - (m + 1) by omega]
  ·rw [Bool.not_eq_true] at hc
   rw [hc] at hF
   simp only [Bool.not_false,if_true] at hF
   rw [hc,if_neg (by simp),hF,if_pos (by omega)]
theorem RDec_is {p : Bt} (hp : p.Ok) (s : ByteArray) (hs : s.size≤80000000) (k : Nat) (hk : 12900000000000000≤k) : Zi.l0 k s 0 0 p.base p.least p.most p.skew p.damp p.bias p.first p.btw=some (dec p (bytesOf s)):=by
 have f0:=hp.first0
 have f1:=hp.first1
 have q0:=hp.bias0
 have q1:=hp.bias1
 rw [r0 hp s hs s.size 0 0 k (by omega) (by omega) (by omega)]
 rw [show ((0 : Int)).toNat=0 from rfl,List.drop_zero]
 have hsp:=lastP_spec p.btw (bytesOf s) 0 0
 unfold dec
 have hd : ∃ d : Nat,lastP p.btw (bytesOf s) 0 0=(d : Int)∧(d=0 ∨ d < s.size):=by
  rcases hsp with ⟨h,-⟩|⟨j,h1,-,-,h4⟩
  ·exact ⟨0,h,Or.inl rfl⟩
  ·rw [bytesOf_length] at h1
   exact ⟨j,by omega,Or.inr h1⟩
 obtain ⟨d,hd,hd2⟩:=hd
 rw [hd]
 have hl : (bytesOf s).length=s.size:=bytesOf_length s
 have h1:=r1 hp s hs d (by omega) d 0 (k - (s.size + 1)) (by omega) (by omega)
 rw [List.take_zero,List.drop_zero] at h1
 have h1' : Zi.l1 (k - (s.size + 1)) s d [] 0 p.base p.least p.most p.skew p.damp p.bias p.first p.btw=_:=h1
 rw [h1',show ((0 : Nat) : Int)=0 from rfl,Int.toNat_natCast]
 by_cases h0 : d=0
 ·subst h0
  rw [List.take_zero,if_neg (show ¬ (0 : Int)≤fstB (fun b => !bas p b) [] 0 by simp [fstB]),if_neg (by omega),if_neg (by omega)]
  obtain ⟨q,hq⟩ : ∃ q,k - (s.size + 1) - (0 + 1)=q + 1:=⟨k - (s.size + 1) - (0 + 1) - 1,by omega⟩
  rw [hq,Zi.j2]
  have:=r2 hp s hs ((bytesOf s).length + 1) 0 [] p.first 0 p.bias q (by omega) (by omega) (by simp) (by simp) (by omega) (by omega) (by omega) (by simp) (by omega) (by omega) (by simp only [List.length_drop];omega)
  exact this
 ·rw [if_pos (show (0 : Int) < d by omega),if_pos (show (d : Int) > 0 by omega)]
  by_cases hf : 0≤fstB (fun b => !bas p b) ((bytesOf s).take d) 0
  ·rw [if_pos hf,if_pos hf]
  rw [if_neg hf,if_neg hf]
  obtain ⟨q,hq⟩ : ∃ q,k - (s.size + 1) - (d + 1)=q + 1:=⟨k - (s.size + 1) - (d + 1) - 1,by omega⟩
  rw [hq,Zi.j2]
  have:=r2 hp s hs ((bytesOf s).length + 1) ((d : Int) + 1) ((bytesOf s).take d) p.first 0 p.bias q (by omega) (by omega) (by rw [List.length_drop];omega) (by rw [List.length_take];omega) (by omega) (by omega) (by omega) (by omega) (by omega) (by omega) (by rw [List.length_drop];omega)
  exact this
theorem RDecBy_is (p : Bt) (hb : 0≤p.btw∧p.btw≤255) (s : ByteArray) (hs : s.size≤80000000) (k : Nat) (hk : 12900000000000000≤k) : Zi.f k p.base p.least p.most p.skew p.damp p.bias p.first p.btw s=some (if okB p=true then dec p (bytesOf s) else ([],0,144)):=by
 unfold Zi.f
 rw [rchk p hb k (by omega)]
 simp only [Option.bind_some]
 by_cases h : okB p=true
 ·rw [if_pos h,if_pos h,RDec_is (okB_ok h) s hs k hk]
 ·rw [if_neg h,if_neg h]
end Go.Proofs.YtmjlkifmbhaiiaaDoor.V
