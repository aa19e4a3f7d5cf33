/- Puny: what the printed small functions compute. -/
import Derived.Test.YtmjlkifmbhaiiaaDoorPunP
import Derived.Test.YtmjlkifmbhaiiaaDoorQPbx0
import Derived.Test.YtmjlkifmbhaiiaaDoorQPbx1
set_option linter.unusedVariables false
set_option linter.unusedSimpArgs false
namespace Go.Proofs.YtmjlkifmbhaiiaaDoor
open Go.RowKit Go.Proofs.YtmjlkifmbhaiiaaDoorW.PrintWords Go.Proofs.YtmjlkifmbhaiiaaDoorW.PrintLast Go.Proofs.YtmjlkifmbhaiiaaDoorQ.Pb
theorem w64 (x : Int) (h0 : -9223372036854775808≤x) (h1 : x≤9223372036854775807) : wrap64 x=x:=IntWalk.wrap64_in _ ⟨by omega,by omega⟩
theorem Scalar_is (k : Nat) (hk : 1≤k) (r : Int) : scalar_Scalar.f k r=some (scl r):=by
 obtain ⟨k,rfl⟩ : ∃ m,k=m + 1:=⟨k - 1,by omega⟩
 unfold scalar_Scalar.f utf8_ValidRune.f scl
 by_cases h : 0≤r
 ·rw [if_pos h]
  rw [utf8_ValidRune.j0]
  by_cases h1 : r < 55296
  ·simp [h,h1]
  ·by_cases h2 : 57343 < r
   ·by_cases h3 : r≤1114111
    ·simp [h1,h2,h3]
    ·simp [h1,h2,h3]
   ·simp [h1,h2]
 ·rw [if_neg h]
  rw [utf8_ValidRune.j0]
  have h2 : ¬ 57343 < r:=by omega
  simp [h,h2]
theorem basic_is (p : Bt) (r : Int) (hr : -2147483648≤r∧r≤2147483647) : Yi.f p.base p.least p.most p.skew p.damp p.bias p.first p.btw r=some (bas p r):=by
 unfold Yi.f bas
 rw [w64 r (by omega) (by omega)]
 by_cases h : r < p.first <;> simp [h]
theorem Digit_is (k : Nat) (hk : 2≤k) (c : Int) (h0 : 0≤c) (h1 : c≤255) : puny_Digit.f k c=some (dgu c):=by
 obtain ⟨k,rfl⟩ : ∃ m,k=m + 2:=⟨k - 2,by omega⟩
 unfold puny_Digit.f dgu
 by_cases a1 : 97≤c
 ·rw [if_pos a1]
  rw [puny_Digit.j0]
  by_cases a2 : c≤122
  ·rw [if_pos (decide_eq_true a2),if_pos ⟨a1,a2⟩]
   congr 1;omega
  ·rw [if_neg (by simpa using a2),if_pos (by omega),if_neg (by omega),if_neg (by omega),if_neg (by omega)]
   rw [puny_Digit.j1]
   rw [if_neg (by simp;omega),if_pos (by omega),if_neg (by omega)]
 ·rw [if_neg a1,puny_Digit.j0]
  simp only [Bool.false_eq_true,if_false]
  rw [if_neg (show ¬ (97≤c∧c≤122) by omega)]
  by_cases b1 : 65≤c
  ·rw [if_pos b1,puny_Digit.j1]
   by_cases b2 : c≤90
   ·rw [if_pos (decide_eq_true b2),if_pos (show 65≤c∧c≤90 from ⟨b1,b2⟩)]
    congr 1;omega
   ·rw [if_neg (by simpa using b2),if_neg (show ¬ (65≤c∧c≤90) by omega),if_pos (show c ≥ 48 by omega),if_neg (show ¬ c≤57 by omega),if_neg (show ¬ (48≤c∧c≤57) by omega)]
  ·rw [if_neg b1,puny_Digit.j1]
   simp only [Bool.false_eq_true,if_false]
   rw [if_neg (show ¬ (65≤c∧c≤90) by omega)]
   by_cases c1 : 48≤c
   ·by_cases c2 : c≤57
    ·rw [if_pos c1,if_pos c2,if_pos (show 48≤c∧c≤57 from ⟨c1,c2⟩)]
     congr 1;omega
    ·rw [if_pos c1,if_neg c2,if_neg (show ¬ (48≤c∧c≤57) by omega)]
   ·rw [if_neg c1,if_neg (show ¬ (48≤c∧c≤57) by omega)]
theorem digit_is (p : Bt) (k : Nat) (hk : 2≤k) (c : Int) (h0 : 0≤c) (h1 : c≤255) : puny_boot_digit.f k p.base p.least p.most p.skew p.damp p.bias p.first p.btw c=some (dgt p c):=by
 unfold puny_boot_digit.f dgt
 rw [Digit_is k hk c h0 h1]
 show (if dgu c < p.base then some (dgu c) else some (-1))=_
 split <;> rfl
theorem threshold_is {p : Bt} (h : p.Ok) (k b : Int) (hk : -4611686018427387904≤k∧k≤4611686018427387903) (hb : -4611686018427387903≤b∧b≤4611686018427387904) : Yj.f p.base p.least p.most p.skew p.damp p.bias p.first p.btw k b=some (thr p k b):=by
 have:=h.least1
 unfold Yj.f thr
 rw [w64 (k - b) (by omega) (by omega)]
 congr 1
 unfold mn mx
 repeat' split
 all_goals omega
theorem tdiv_pos (a b : Int) (h : 0≤a) : Int.tdiv a b=a / b:=Int.tdiv_eq_ediv_of_nonneg h
theorem adp_l0 {p : Bt} (h : p.Ok) (n : Nat) : ∀ (k : Nat) (x1 x10 : Int),0≤x1→x1.toNat≤n→n < k→x1≤4294967296→0≤x10→x10 + 36 * x1≤1099511627776 →
  Zt.l0 k x1 (p.base - p.least) x10 p.base p.least p.most p.skew p.damp p.bias p.first p.btw =
   some ((adpG p.base (p.base - p.least) ((p.base - p.least) * p.most / 2) x1 x10).2 + (p.base - p.least + 1) * (adpG p.base (p.base - p.least) ((p.base - p.least) * p.most / 2) x1 x10).1 / ((adpG p.base (p.base - p.least) ((p.base - p.least) * p.most / 2) x1 x10).1 + p.skew)):=by
 have b0:=h.base0
 have b1:=h.base1
 have l0:=h.least0
 have l1:=h.least1
 have m0:=h.most0
 have m1:=h.most1
 have s0:=h.skew0
 have s1:=h.skew1
 have hP0 : 0≤(p.base - p.least) * p.most:=Int.mul_nonneg (by omega) (by omega)
 have hP1 : (p.base - p.least) * p.most≤36 * 36:=Int.mul_le_mul (by omega) (by omega) (by omega) (by omega)
 generalize hL : (p.base - p.least) * p.most=L at *
 induction n with
 | zero =>
  intro k x1 x10 hx hn hk hx1 h10 hs
  obtain rfl : x1=0:=by omega
  obtain ⟨k,rfl⟩ : ∃ m,k=m + 1:=⟨k - 1,by omega⟩
  rw [adpG,dif_neg (by omega)]
  rw [Zt.l0]
  rw [hL,w64 L (by omega) (by omega),tdiv_pos L 2 hP0,w64 (L / 2) (by omega) (by omega),if_neg (by omega),w64 (0 + p.skew) (by omega) (by omega),if_neg (by omega),w64 (p.base - p.least + 1) (by omega) (by omega),Int.mul_zero,w64 0 (by omega) (by omega),tdiv_pos 0 _ (by omega),Int.zero_ediv,w64 0 (by omega) (by omega),w64 _ (by omega) (by omega)]
 | succ n ih =>
  intro k x1 x10 hx hn hk hx1 h10 hs
  obtain ⟨k,rfl⟩ : ∃ m,k=m + 1:=⟨k - 1,by omega⟩
  rw [Zt.l0]
  rw [hL,w64 L (by omega) (by omega),tdiv_pos L 2 hP0,w64 (L / 2) (by omega) (by omega),w64 (x1 + p.skew) (by omega) (by omega),w64 (p.base - p.least + 1) (by omega) (by omega)]
  by_cases hc : x1 > L / 2
  ·have hd : x1 / (p.base - p.least) < x1:=Int.ediv_lt_self_of_pos_of_ne_one (by omega) (by omega)
   have hd0 : 0≤x1 / (p.base - p.least):=Int.ediv_nonneg hx (by omega)
   rw [if_pos hc,if_neg (by omega),tdiv_pos x1 _ hx,w64 (x1 / (p.base - p.least)) (by omega) (by omega),w64 (x10 + p.base) (by omega) (by omega)]
   rw [ih k _ _ hd0 (by omega) (by omega) (by omega) (by omega) (by omega)]
   conv => rhs;rw [adpG,dif_pos (by omega)]
  ·have hm0 : 0≤(p.base - p.least + 1) * x1:=Int.mul_nonneg (by omega) hx
   have hm1 : (p.base - p.least + 1) * x1≤37 * 4294967296:=Int.mul_le_mul (by omega) hx1 hx (by omega)
   rw [adpG,dif_neg (by omega)]
   simp only
   generalize (p.base - p.least + 1) * x1=M at *
   have hq0 : 0≤M / (x1 + p.skew):=Int.ediv_nonneg hm0 (by omega)
   have hq1 : M / (x1 + p.skew)≤M:=Int.ediv_le_self _ hm0
   rw [if_neg hc,if_neg (by omega),w64 M (by omega) (by omega),tdiv_pos M _ hm0,w64 (M / (x1 + p.skew)) (by omega) (by omega),w64 _ (by omega) (by omega)]
theorem adpD_range {p : Bt} (h : p.Ok) (delta pts : Int) (first : Bool) (h0 : 0≤delta) (h1 : delta≤2147483647) (hp : 1≤pts) :
  0≤(if first=true then delta / p.damp else delta / 2)∧(if first=true then delta / p.damp else delta / 2)≤2147483647∧0≤adpD p delta pts first∧adpD p delta pts first≤4294967296:=by
 have d0:=h.damp0
 unfold adpD
 have hx : 0≤(if first=true then delta / p.damp else delta / 2)∧(if first=true then delta / p.damp else delta / 2)≤2147483647:=by
  split
  ·exact ⟨Int.ediv_nonneg h0 (by omega),Int.le_trans (Int.ediv_le_self _ h0) h1⟩
  ·omega
 generalize (if first=true then delta / p.damp else delta / 2)=x at *
 have q0 : 0≤x / pts:=Int.ediv_nonneg hx.1 (by omega)
 have q1 : x / pts≤x:=Int.ediv_le_self _ hx.1
 omega
theorem adapted_is {p : Bt} (h : p.Ok) (k : Nat) (hk : 5000000000≤k) (delta pts : Int) (first : Bool) (h0 : 0≤delta) (h1 : delta≤2147483647) (hp : 1≤pts) :
  Zt.f k p.base p.least p.most p.skew p.damp p.bias p.first p.btw delta pts first=some (adp p delta pts first):=by
 obtain ⟨k,rfl⟩ : ∃ m,k=m + 1:=⟨k - 1,by omega⟩
 have d0:=h.damp0
 have b0:=h.base0
 have b1:=h.base1
 have l0:=h.least0
 have l1:=h.least1
 have m1:=h.most1
 obtain ⟨r0,r1,r2,r3⟩:=adpD_range h delta pts first h0 h1 hp
 have hj : Zt.j0 (k + 1) (if first=true then delta / p.damp else delta / 2) pts p.base p.least p.most p.skew p.damp p.bias p.first p.btw=some (adp p delta pts first):=by
  unfold adpD at r2 r3
  rw [Zt.j0]
  unfold adp adpD
  generalize (if first=true then delta / p.damp else delta / 2)=x at *
  have q0 : 0≤x / pts:=Int.ediv_nonneg r0 (by omega)
  have q1 : x / pts≤x:=Int.ediv_le_self _ r0
  rw [if_neg (by omega),tdiv_pos x _ r0,w64 (x / pts) (by omega) (by omega),w64 (x + x / pts) (by omega) (by omega),w64 (p.base - p.least) (by omega) (by omega)]
  exact adp_l0 h _ k _ _ (by omega) (Nat.le_refl _) (by omega) (by omega) (by omega) (by omega)
 unfold Zt.f
 cases first with
 | true =>
  simp only [if_true] at hj r0 r1
  rw [if_pos rfl,if_neg (by omega),tdiv_pos _ _ h0,w64 _ (by omega) (by omega)]
  exact hj
 | false =>
  simp only [Bool.false_eq_true,if_false] at hj r0 r1
  rw [if_neg (by simp),tdiv_pos _ _ h0,w64 _ (by omega) (by omega)]
  exact hj
end Go.Proofs.YtmjlkifmbhaiiaaDoor
