/- Fields in order: a name's key, and the order by keys. Plain. Fields in order: the comparing closure, Sorted. Fields asked, set, taken out: what the printed functions come to. Plain. Fields in order, by the document: walked. PercentAsks: the plain part: fields given and compared; asked of a beginning; put in order, seen as the document's; rows side by side. PercentAsks: the walk. -/
import Derived.Test.YtfbgmlophkbejaaDoorFnx
import Derived.Test.YtfbgmlophkbejaaDoorQPasx0
import Derived.Test.YtfbgmlophkbejaaDoorQPasx1
import Derived.Test.YtfbgmlophkbejaaDoorQPasx2
import Derived.Test.YtfbgmlophkbejaaDoorSrx
import Derived.Test.YtfbgmlophkbejaaDoorQPfax7
import Derived.Test.YtfbgmlophkbejaaDoorOpnF
import Derived.Test.YtfbgmlophkbejaaDoorQPfax0
set_option linter.unusedVariables false
set_option linter.unusedSimpArgs false
namespace Go.Proofs.YtfbgmlophkbejaaDoor
open Go.RowKit Go.Proofs.YtfbgmlophkbejaaDoorW.PrintWords Go.Proofs.YtfbgmlophkbejaaDoorW.PrintMore Go.Proofs.YtfbgmlophkbejaaDoorW.PrintLast Go.Proofs.YtfbgmlophkbejaaDoorQ.Pas
namespace Ky
theorem scal_is {r : Int} {b : Bool} (h : b=true ↔ ((0≤r∧r < 55296) ∨ (57343 < r∧r≤1114111))) : scal r=b:=by
 cases b with
 | true => exact (scal_iff r).2 (h.1 rfl)
 | false =>
  cases hs : scal r with
  | false => rfl
  | true => exact absurd (h.2 ((scal_iff r).1 hs)) (by simp)
theorem Scalar_is (r : Int) (k : Nat) (hk : 0 < k) : scalar_Scalar.f k r=some (scal r):=by
 obtain ⟨k,rfl⟩ : ∃ m,k=m + 1:=⟨k - 1,by omega⟩
 unfold scalar_Scalar.f utf8_ValidRune.f
 by_cases h0 : 0≤r
 ·rw [if_pos h0]
  by_cases h1 : r < 55296
  ·rw [scal_is (b:=true) (by simp;omega)]
   simp [utf8_ValidRune.j0,h1]
  ·by_cases h2 : 57343 < r
   ·by_cases h3 : r≤1114111
    ·rw [scal_is (b:=true) (by simp;omega)]
     simp [utf8_ValidRune.j0,h1,h2,h3]
    ·rw [scal_is (b:=false) (by simp;omega)]
     simp [utf8_ValidRune.j0,h1,h2,h3]
   ·rw [scal_is (b:=false) (by simp;omega)]
    simp [utf8_ValidRune.j0,h1,h2]
 ·rw [if_neg h0,scal_is (b:=false) (by simp;omega)]
  have h2 : ¬ 57343 < r:=by omega
  simp [utf8_ValidRune.j0,h2]
theorem RScalar_is (r : Int) : Zu.f r=some (scal r):=by
 unfold Zu.f
 by_cases h0 : r ≥ 0
 ·rw [if_pos h0]
  by_cases h1 : r < 55296
  ·rw [if_pos h1,scal_is (b:=true) (by simp;omega)]
  ·rw [if_neg h1]
   by_cases h2 : r > 57343
   ·rw [if_pos h2,scal_is (b:=decide (r≤1114111)) (by simp;omega)]
   ·rw [if_neg h2,scal_is (b:=false) (by simp;omega)]
 ·rw [if_neg h0,if_neg (by omega),scal_is (b:=false) (by simp;omega)]
structure StopAt (l : List Int) (m : Nat) : Prop where
 le : m≤l.length
 ok : ∀ r ∈ l.take m,scal r=true
 stop : m < l.length→scal (rd l m)=false
theorem StopAt.at_ {l : List Int} {m : Nat} (h : StopAt l m) (i : Nat) (hi : i < m) : scal (rd l i)=true:=by
 have:=h.le
 refine h.ok _ ?_
 have e : rd l i = (l.take m)[i]'(by rw [List.length_take]; omega) := by simp [rd, List.getD_eq_getElem?_getD, List.getElem?_eq_getElem (show i < l.length by omega)]
 rw [e]
 exact List.getElem_mem _
theorem StopAt.full {l : List Int} (h : ∀ r ∈ l,scal r=true) : StopAt l l.length:=⟨Nat.le_refl _,fun r hr => h r (by rw [List.take_length] at hr;exact hr),fun h => by omega⟩
theorem u16_in (x : Int) (h : 0≤x∧x≤65535) : IntKind.u16.wrap x=x:=by
 simp [IntKind.wrap,IntKind.bits,IntKind.signed]
 omega
theorem and1023 (x : Int) (h0 : 0≤x) (h1 : x < 2147483648) : Go.bits .and .i32 x 1023=x % 1024:=bits_mask .i32 31 (by decide) wraps_i32 10 (by decide) x h0 h1
theorem untL_take_len (l : List Int) (i : Nat) : (untL (l.take i)).length≤2 * i:=by
 have:=untL_len (l.take i)
 have:=List.length_take_le i l
 omega
def untA (l : List Int) (m : Nat) : List Int × Int × Int:=if m=l.length then (untL l,0,0) else ([],(m : Int),20)
theorem Units_l0 (l : List Int) (m : Nat) (hm : StopAt l m) (hl : l.length≤9000000000000) : ∀ (n k i : Nat),m - i=n→i≤m→n + 2 < k→Zv.l0 k (untL (l.take i)) l (l.length : Int) (i : Int)=some (untA l m):=by
 intro n
 have hle:=hm.le
 induction n with
 | zero =>
  intro k i h1 h2 hk
  obtain ⟨k,rfl⟩ : ∃ m,k=m + 1:=⟨k - 1,by omega⟩
  obtain rfl : i=m:=by omega
  simp only [Zv.l0]
  unfold untA
  by_cases he : i=l.length
  ·rw [if_neg (by omega),if_pos he,he,List.take_length]
  ·have hs:=hm.stop (by omega)
   rw [if_pos (by omega),if_pos (by omega),if_pos (by omega),Scalar_is _ k (by omega),hs,if_neg he]
   rfl
 | succ n ih =>
  intro k i h1 h2 hk
  obtain ⟨k,rfl⟩ : ∃ m,k=m + 1:=⟨k - 1,by omega⟩
  have hs:=hm.at_ i (by omega)
  have ht:=take_rd l i (by omega)
  have hlen:=untL_take_len l i
  have ih:=ih k (i + 1) (by omega) (by omega) (by omega)
  rw [ht,untL_app,untL_one] at ih
  simp only [Zv.l0]
  rw [if_pos (by omega),if_pos (by omega),if_pos (by omega),Scalar_is _ k (by omega),hs]
  have hr:=(scal_iff _).1 hs
  generalize rd l (i : Int)=r at *
  simp only [Option.bind_some,if_true]
  rw [show wrap64 ((i : Int) + 1)=((i + 1 : Nat) : Int) by unfold wrap64;omega]
  unfold untB at ih
  by_cases hp : r < 65536
  ·rw [if_pos hp] at ih ⊢
   rw [if_pos (by omega),u16_in r (by omega)]
   exact ih
  ·rw [if_neg hp] at ih ⊢
   rw [show wrap32 (r - 65536)=r - 65536 by unfold wrap32;omega,and1023 _ (by omega) (by omega),show wrap32 (55296 + (r - 65536) / 1024)=55296 + (r - 65536) / 1024 by unfold wrap32;omega,show wrap32 (56320 + (r - 65536) % 1024)=56320 + (r - 65536) % 1024 by unfold wrap32;omega,u16_in _ (by omega),u16_in _ (by omega),if_pos (by simp only [List.length_cons,List.length_nil];omega)]
   exact ih
theorem Units_is (l : List Int) (m : Nat) (hm : StopAt l m) (hl : l.length≤9000000000000) (k : Nat) (hk : l.length + 2 < k) : Zv.f k l=some (untA l m):=by
 unfold Zv.f
 exact Units_l0 l m hm hl m k 0 (by omega) (by omega) (by have:=hm.le;omega)
theorem RUnits_l0 (l : List Int) (m : Nat) (hm : StopAt l m) (hl : l.length≤9000000000000) : ∀ (n k i : Nat),m - i=n→i≤m→n + 2 < k→Ze.l0 k (untL (l.take i)) l (l.length : Int) (i : Int)=some (untA l m):=by
 intro n
 have hle:=hm.le
 induction n with
 | zero =>
  intro k i h1 h2 hk
  obtain ⟨k,rfl⟩ : ∃ m,k=m + 1:=⟨k - 1,by omega⟩
  obtain rfl : i=m:=by omega
  simp only [Ze.l0]
  unfold untA
  by_cases he : i=l.length
  ·rw [if_neg (by omega),if_pos he,he,List.take_length]
  ·have hs:=hm.stop (by omega)
   rw [if_pos (by omega),if_pos (by omega),if_pos (by omega),RScalar_is _,hs,if_neg he]
   rfl
 | succ n ih =>
  intro k i h1 h2 hk
  obtain ⟨k,rfl⟩ : ∃ m,k=m + 1:=⟨k - 1,by omega⟩
  have hs:=hm.at_ i (by omega)
  have ht:=take_rd l i (by omega)
  have hlen:=untL_take_len l i
  have ih:=ih k (i + 1) (by omega) (by omega) (by omega)
  rw [ht,untL_app,untL_one] at ih
  simp only [Ze.l0]
  rw [if_pos (by omega),if_pos (by omega),if_pos (by omega),RScalar_is _,hs]
  have hr:=(scal_iff _).1 hs
  generalize rd l (i : Int)=r at *
  simp only [Option.bind_some,if_true]
  rw [show wrap64 ((i : Int) + 1)=((i + 1 : Nat) : Int) by unfold wrap64;omega]
  unfold untB at ih
  by_cases hp : r < 65536
  ·rw [if_pos hp] at ih ⊢
   rw [if_pos (by omega),u16_in r (by omega)]
   exact ih
  ·rw [if_neg hp] at ih ⊢
   rw [show wrap32 (r - 65536)=r - 65536 by unfold wrap32;omega,Int.tdiv_eq_ediv_of_nonneg (by omega),Int.tmod_eq_emod_of_nonneg (by omega),show wrap32 ((r - 65536) / 1024)=(r - 65536) / 1024 by unfold wrap32;omega,show wrap32 (55296 + (r - 65536) / 1024)=55296 + (r - 65536) / 1024 by unfold wrap32;omega,show wrap32 (56320 + (r - 65536) % 1024)=56320 + (r - 65536) % 1024 by unfold wrap32;omega,u16_in _ (by omega),u16_in _ (by omega),if_pos (by simp only [List.length_cons,List.length_nil];omega)]
   exact ih
theorem RUnits_is (l : List Int) (m : Nat) (hm : StopAt l m) (hl : l.length≤9000000000000) (k : Nat) (hk : l.length + 2 < k) : Ze.f k l=some (untA l m):=by
 unfold Ze.f
 exact RUnits_l0 l m hm hl m k 0 (by omega) (by omega) (by have:=hm.le;omega)
def cmpL : List Int→List Int→Int
 | [],[] => 0
 | [],_ :: _ => -1
 | _ :: _,[] => 1
 | x :: l,y :: m => if x < y then -1 else if x > y then 1 else cmpL l m
theorem cmp16_is (a b : Int) : cmp_Compare_uint16.f a b=some (if a < b then -1 else if a > b then 1 else 0):=by
 unfold cmp_Compare_uint16.f Zo.f
 simp
 repeat' split
 all_goals rfl
theorem cmpL_end {l m : List Int} (h : l=[] ∨ m=[]) : cmpL l m=if (l.length : Int) < m.length then -1 else if (l.length : Int) > m.length then 1 else 0:=by
 rcases h with rfl|rfl
 ·cases m with
  | nil => rfl
  | cons y m => simp [cmpL]
 ·cases l with
  | nil => rfl
  | cons x l =>
   simp only [cmpL,List.length_cons,List.length_nil]
   rw [if_neg (by omega),if_pos (by omega)]
theorem cmpL_drop (X Y : List Int) (k : Nat) (hx : k < X.length) (hy : k < Y.length) : cmpL (X.drop k) (Y.drop k)=if rd X k < rd Y k then -1 else if rd X k > rd Y k then 1 else cmpL (X.drop (k + 1)) (Y.drop (k + 1)):=by
 rw [drop_rd X k hx,drop_rd Y k hy]
 rfl
attribute [local go_sem] min_two
theorem cmpL_anti : ∀ a b : List Int,cmpL b a=-cmpL a b
 | [],[] => rfl
 | [],_ :: _ => rfl
 | _ :: _,[] => rfl
 | x :: a,y :: b => by
  rw [cmpL,cmpL,cmpL_anti a b]
  by_cases h1 : x < y
  ·rw [if_neg (by omega),if_pos h1,if_pos h1];rfl
  ·by_cases h2 : x > y
   ·rw [if_pos h2,if_neg h1,if_pos h2]
   ·rw [if_neg h2,if_neg h1,if_neg h1,if_neg h2]
theorem cmpL_zero : ∀ a b : List Int,cmpL a b=0 ↔ a=b
 | [],[] => by simp [cmpL]
 | [],_ :: _ => by simp [cmpL]
 | _ :: _,[] => by simp [cmpL]
 | x :: a,y :: b => by
  have ih:=cmpL_zero a b
  rw [cmpL,List.cons.injEq]
  by_cases h1 : x < y
  ·rw [if_pos h1];exact ⟨fun e => by omega,fun e => by omega⟩
  ·rw [if_neg h1]
   by_cases h2 : x > y
   ·rw [if_pos h2];exact ⟨fun e => by omega,fun e => by omega⟩
   ·rw [if_neg h2,ih]
    exact ⟨fun e => ⟨by omega,e⟩,fun e => e.2⟩
theorem cmpL_rng : ∀ a b : List Int,cmpL a b=-1 ∨ cmpL a b=0 ∨ cmpL a b=1
 | [],[] => by simp [cmpL]
 | [],_ :: _ => by simp [cmpL]
 | _ :: _,[] => by simp [cmpL]
 | x :: a,y :: b => by
  have ih:=cmpL_rng a b
  rw [cmpL]
  split
  ·exact Or.inl rfl
  ·split
   ·exact Or.inr (Or.inr rfl)
   ·exact ih
theorem cmpL_trans : ∀ a b c : List Int,cmpL a b=cmpL b c→cmpL a c=cmpL a b
 | [],[],[],_ => rfl
 | [],[],_ :: _,h => by simp [cmpL] at h
 | [],_ :: _,[],h => by simp [cmpL] at h
 | [],_ :: _,_ :: _,_ => rfl
 | _ :: _,[],[],h => by simp [cmpL] at h
 | _ :: _,[],_ :: _,h => by simp [cmpL] at h
 | x :: a,y :: b,[],h => by
  rw [h]
  rfl
 | x :: a,y :: b,z :: c,h => by
  have ih:=cmpL_trans a b c
  have r1:=cmpL_rng a b
  have r2:=cmpL_rng b c
  rw [cmpL,cmpL] at h
  rw [cmpL,cmpL]
  by_cases h1 : x < y
  ·rw [if_pos h1] at h ⊢
   by_cases h2 : y < z
   ·rw [if_pos (by omega)]
   ·rw [if_neg h2] at h
    by_cases h3 : y > z
    ·rw [if_pos h3] at h;omega
    ·rw [if_pos (by omega)]
  ·rw [if_neg h1] at h ⊢
   by_cases h4 : x > y
   ·rw [if_pos h4] at h ⊢
    by_cases h2 : y < z
    ·rw [if_pos h2] at h;omega
    ·rw [if_neg (by omega),if_pos (by omega)]
   ·rw [if_neg h4] at h ⊢
    by_cases h2 : y < z
    ·rw [if_pos h2] at h
     rw [if_pos (by omega)];omega
    ·rw [if_neg h2] at h
     rw [if_neg (by omega)]
     by_cases h3 : y > z
     ·rw [if_pos h3] at h
      rw [if_pos (by omega)];omega
     ·rw [if_neg h3] at h
      rw [if_neg (by omega)]
      exact ih h
def key (s : ByteArray) : List Int:=untL (decT s)
theorem dec_len (s : ByteArray) : (decT s).length≤s.size:=by
 unfold decT
 rw [List.length_map]
 exact pcs_len s s.size 0 (by omega) (by omega)
theorem key_len (s : ByteArray) : (key s).length≤2 * s.size:=by
 have h:=untL_take_len (decT s) (decT s).length
 rw [List.take_length] at h
 have:=dec_len s
 unfold key
 omega
theorem units_is (s : ByteArray) (hs : s.size≤16777216) : percent_units.f 2147483648 s=some (key s):=by
 have hl:=dec_len s
 unfold percent_units.f scalar_Decode.f
 rw [if_pos (by omega),Option.bind_some,Units_is (decT s) _ (StopAt.full (decT_scal s)) (by omega) _ (by omega)]
 unfold untA
 rw [if_pos rfl]
 rfl
theorem Compare_l0 (X Y : List Int) (hX : X.length≤1000000000) (hY : Y.length≤1000000000) : ∀ (n i k : Nat),X.length - i=n→i≤X.length→i≤Y.length→n + 1 < k→Zg.l0 k X Y X (X.length : Int) (i : Int)=some (cmpL (X.drop i) (Y.drop i)):=by
 intro n
 induction n with
 | zero =>
  intro i k h1 h2 h3 hk
  obtain ⟨k,rfl⟩ : ∃ m,k=m + 1:=⟨k - 1,by omega⟩
  obtain rfl : i=X.length:=by omega
  simp only [Zg.l0]
  rw [if_neg (by omega),List.drop_length,cmpL_end (Or.inl rfl),List.length_nil,List.length_drop]
  by_cases h : X.length < Y.length
  ·rw [if_pos (by omega),if_pos (by omega)]
  ·rw [if_neg (by omega),if_neg (by omega),if_neg (by omega)]
 | succ n ih =>
  intro i k h1 h2 h3 hk
  obtain ⟨k,rfl⟩ : ∃ m,k=m + 1:=⟨k - 1,by omega⟩
  simp only [Zg.l0]
  rw [if_pos (by omega),if_pos (by omega),if_pos (by omega)]
  by_cases h : Y.length≤i
  ·rw [if_pos (by omega),cmpL_end (Or.inr (List.drop_eq_nil_of_le h)),if_neg (by rw [List.length_drop,List.length_drop];omega),if_pos (by rw [List.length_drop,List.length_drop];omega)]
  ·rw [if_neg (by omega),if_pos (by omega),cmp16_is,Option.bind_some,cmpL_drop X Y i (by omega) (by omega)]
   by_cases h4 : rd X (i : Int) < rd Y (i : Int)
   ·rw [if_pos h4,if_pos h4,if_neg (by decide)]
   ·rw [if_neg h4,if_neg h4]
    by_cases h5 : rd X (i : Int) > rd Y (i : Int)
    ·rw [if_pos h5,if_pos h5,if_neg (by decide)]
    ·rw [if_neg h5,if_neg h5,if_pos rfl,show wrap64 ((i : Int) + 1)=((i + 1 : Nat) : Int) by unfold wrap64;omega]
     exact ih (i + 1) k (by omega) (by omega) (by omega) (by omega)
theorem Compare_is (X Y : List Int) (hX : X.length≤1000000000) (hY : Y.length≤1000000000) : Zg.f 2147483648 X Y=some (cmpL X Y):=by
 unfold Zg.f
 exact Compare_l0 X Y hX hY X.length 0 _ (by omega) (by omega) (by omega) (by omega)
theorem less_l0 (X Y : List Int) (hX : X.length≤1000000000) (hY : Y.length≤1000000000) : ∀ (n i k : Nat),X.length - i=n→i≤X.length→i≤Y.length→2 * n + 2 < k→Zh.l0 k X Y (i : Int)=some (decide (cmpL (X.drop i) (Y.drop i) < 0)):=by
 have fin : ∀ (i k : Nat),i≤X.length→i≤Y.length→(i=X.length ∨ i=Y.length)→Zh.j1 (k + 1) X Y (i : Int) false=some (decide (cmpL (X.drop i) (Y.drop i) < 0)):=by
  intro i k h1 h2 h3
  rw [Zh.j1,if_neg (by simp),cmpL_end (by rcases h3 with h3|h3;exact Or.inl (List.drop_of_length_le (by omega));exact Or.inr (List.drop_of_length_le (by omega))),List.length_drop,List.length_drop]
  congr 1
  by_cases g : (X.length : Int) < Y.length
  ·rw [if_pos (by omega),decide_eq_true g];rfl
  ·rw [if_neg (by omega),decide_eq_false g]
   split <;> rfl
 intro n
 induction n with
 | zero =>
  intro i k h1 h2 h3 hk
  obtain ⟨k,rfl⟩ : ∃ m,k=m + 2:=⟨k - 2,by omega⟩
  rw [Zh.l0,if_neg (by omega)]
  exact fin i k h2 h3 (Or.inl (by omega))
 | succ n ih =>
  intro i k h1 h2 h3 hk
  obtain ⟨k,rfl⟩ : ∃ m,k=m + 2:=⟨k - 2,by omega⟩
  rw [Zh.l0,if_pos (by omega)]
  by_cases h : Y.length≤i
  ·rw [decide_eq_false (by omega)]
   exact fin i k h2 h3 (Or.inr (by omega))
  ·rw [decide_eq_true (by omega),Zh.j1,if_pos rfl,if_pos (by omega),if_pos (by omega),if_pos (by omega),cmpL_drop X Y i (by omega) (by omega)]
   by_cases h4 : rd X (i : Int) < rd Y (i : Int)
   ·rw [if_neg (by omega),if_pos h4,decide_eq_true h4];rfl
   ·by_cases h5 : rd X (i : Int) > rd Y (i : Int)
    ·rw [if_neg (by omega),if_neg h4,if_pos h5,decide_eq_false h4];rfl
    ·rw [if_pos (by omega),if_neg h4,if_neg h5,show wrap64 ((i : Int) + 1)=((i + 1 : Nat) : Int) by unfold wrap64;omega]
     exact ih (i + 1) k (by omega) (by omega) (by omega) (by omega)
def ltK (a b : ByteArray) : Bool:=decide (cmpL (key a) (key b) < 0)
theorem less_is (a b : ByteArray) (ha : a.size≤16777216) (hb : b.size≤16777216) : Zh.f 2147483648 a b=some (ltK a b):=by
 have h1:=dec_len a
 have h2:=dec_len b
 have h3:=key_len a
 have h4:=key_len b
 unfold Zh.f Zj.f
 rw [if_pos (by omega),Option.bind_some,RUnits_is (decT a) _ (StopAt.full (decT_scal a)) (by omega) _ (by omega),Option.bind_some,if_pos (by omega),Option.bind_some,RUnits_is (decT b) _ (StopAt.full (decT_scal b)) (by omega) _ (by omega),Option.bind_some]
 unfold untA
 rw [if_pos rfl,if_pos rfl]
 exact less_l0 (key a) (key b) (by omega) (by omega) (key a).length 0 _ (by omega) (by omega) (by omega) (by omega)
theorem ltK_wo : Sr.WO ltK:=by
 have e : ∀ a b,ltK a b=true ↔ cmpL (key a) (key b)=-1:=fun a b => by
  unfold ltK
  rw [decide_eq_true_iff]
  have:=cmpL_rng (key a) (key b)
  omega
 refine ⟨fun x y z h1 h2 => ?_,fun x y z h => ?_,fun x y h => ?_⟩
 ·rw [e] at h1 h2 ⊢
  rw [cmpL_trans (key x) (key y) (key z) (by rw [h1,h2]),h1]
 ·by_cases h1 : ltK x y=true
  ·exact Or.inl h1
  ·refine Or.inr ?_
   rw [e] at h h1 ⊢
   have r1:=cmpL_rng (key x) (key y)
   have r2:=cmpL_rng (key y) (key z)
   have a1:=cmpL_anti (key x) (key y)
   have a2:=cmpL_anti (key y) (key z)
   have a3:=cmpL_anti (key x) (key z)
   rcases r1 with r1|r1|r1
   ·exact absurd r1 h1
   ·have:=(cmpL_zero (key x) (key y)).1 r1
    rw [← this]
    exact h
   ·rcases r2 with r2|r2|r2
    ·exact r2
    ·have:=(cmpL_zero (key y) (key z)).1 r2
     rw [← this] at h
     omega
    ·have:=cmpL_trans (key x) (key y) (key z) (by rw [r1,r2])
     omega
 ·rw [e] at h
  unfold ltK
  have:=cmpL_anti (key x) (key y)
  exact decide_eq_false (by omega)
end Ky
end Go.Proofs.YtfbgmlophkbejaaDoor
set_option linter.unusedVariables false
set_option linter.unusedSimpArgs false
namespace Go.Proofs.YtfbgmlophkbejaaDoor
open Go.RowKit Go.Proofs.YtfbgmlophkbejaaDoorW.PrintWords Go.Proofs.YtfbgmlophkbejaaDoorW.PrintLast
namespace FC
open Sr
def ltF (x y : Go.Proofs.YtfbgmlophkbejaaDoorQ.Pfa.S46) : Bool:=Ky.ltK x.f0 y.f0
def PF (x : Go.Proofs.YtfbgmlophkbejaaDoorQ.Pfa.S46) : Prop:=x.f0.size≤16777216
theorem ltF_wo : WO ltF:=⟨fun x y z => Ky.ltK_wo.trans _ _ _,fun x y z => Ky.ltK_wo.neg _ _ _,fun x y => Ky.ltK_wo.asym _ _⟩
theorem box_cell {W : World} {g : Nat} {t : TypeId} {x y : Value} (h : Blk W g t #[x,y]) : W.cell? ⟨g,0,none⟩=some x:=h.cell 0
set_option maxRecDepth 100000 in
set_option maxHeartbeats 4000000 in
theorem cmp_ok (w0 : World) (T : TabM w0) : CmpOk PF ltF w0:=by
 intro W x y hx hy hB
 have hk1:=Ky.key_len x.f0
 have hk2:=Ky.key_len y.f0
 unfold PF at hx hy
 have TW:=TabM_below T hB
 have u1:=fun W' (h : Below W.heap.size W W') => Go.Proofs.YtfbgmlophkbejaaDoorQ.Pas.percent_units.calls 2147483648 x.f0 _ W' (Ky.units_is x.f0 hx) (TabM_below TW h)
 have u2:=fun W' (h : Below W.heap.size W W') => Go.Proofs.YtfbgmlophkbejaaDoorQ.Pas.percent_units.calls 2147483648 y.f0 _ W' (Ky.units_is y.f0 hy) (TabM_below TW h)
 have hc:=Ky.Compare_is (Ky.key x.f0) (Ky.key y.f0) (by omega) (by omega)
 have hr : decide (Ky.cmpL (Ky.key x.f0) (Ky.key y.f0) < 0)=ltF x y:=rfl
 have U1:=Lib.hid u1
 have U2:=Lib.hid u2
 have HC:=Lib.hid hc
 have HR:=Lib.hid hr
 have hb0:=Zb (below_one W (.cells #[.string x.f0,.string x.f1] 46)) (.cells #[.string y.f0,.string y.f1] 46)
 have hB1 : Blk ((W.alloc (.cells #[.string x.f0,.string x.f1] 46)).alloc (.cells #[.string y.f0,.string y.f1] 46)) W.heap.size 46 #[.string x.f0,.string x.f1]:=(Blk.new _ _ _).alloc _
 have hB2 : Blk ((W.alloc (.cells #[.string x.f0,.string x.f1] 46)).alloc (.cells #[.string y.f0,.string y.f1] 46)) (W.heap.size + 1) 46 #[.string y.f0,.string y.f1]:=Blk.at_new (by simp)
 generalize Ky.cmpL (Ky.key x.f0) (Ky.key y.f0)=r at *
 generalize Ky.key x.f0=X at *
 generalize Ky.key y.f0=Y at *
 unfold valF
 clear u1 u2 hc hr hk1 hk2 T TW hB
 go_enter Tryd.func56,Tryd.ntmps56
 go_wp2_with fail
 refine start_ (n:=8) (S:=(fun w' => Blk w' W.heap.size 46 #[.string x.f0,.string x.f1]∧Blk w' (W.heap.size + 1) 46 #[.string y.f0,.string y.f1]∧Below W.heap.size W w')) (ds:=[]) #[false,false,false,false,false,false,false,false] (by kernel_rfl) rfl rfl ⟨hB1.drew,hB2.drew,Zc hb0⟩ (fun hHeld => ?_)
 refine pure_ (i:=0) (N:=some 5) (v:=?_) (a':=?_) #[true,false,false,false,false,false,false,false] rfl rfl (by kernel_rfl) (fun _ _ _ h => h) (Or.inl ⟨by rfl,?_⟩) ?_ ?_
 rotate_left
 ·intro w'
  go_simp
  with_reducible rfl
 rotate_left
 ·simp only [Act.put,List.setIfInBounds_toArray,List.set_cons_zero,List.set_cons_succ,i64_w,i32_w]
  rfl
 refine pure_ (i:=3) (N:=some 8) (v:=?_) (a':=?_) #[true,false,false,true,false,false,false,false] rfl rfl (by kernel_rfl) (fun _ _ _ h => h) (Or.inl ⟨by rfl,?_⟩) ?_ ?_
 rotate_left
 ·intro w'
  go_simp
  with_reducible rfl
 rotate_left
 ·simp only [Act.put,List.setIfInBounds_toArray,List.set_cons_zero,List.set_cons_succ,i64_w,i32_w]
  rfl
 refine take_ (i:=1) (N:=some 6) (v:=?_) (a':=?_) #[true,true,false,true,false,false,false,false] rfl rfl (by kernel_rfl) (fun _ _ _ h => h) (Or.inl ⟨by rfl,?_⟩) hHeld ?_ ?_
 rotate_left
 ·rintro w' ⟨s1,s2,s3⟩
  have d0:=box_cell s1
  have d1:=box_cell s2
  go_simp
  with_reducible rfl
 rotate_left
 ·simp only [Act.put,List.setIfInBounds_toArray,List.set_cons_zero,List.set_cons_succ,i64_w,i32_w]
  rfl
 refine take_ (i:=4) (N:=some 9) (v:=?_) (a':=?_) #[true,true,false,true,true,false,false,false] rfl rfl (by kernel_rfl) (fun _ _ _ h => h) (Or.inl ⟨by rfl,?_⟩) hHeld ?_ ?_
 rotate_left
 ·rintro w' ⟨s1,s2,s3⟩
  have d0:=box_cell s1
  have d1:=box_cell s2
  go_simp
  with_reducible rfl
 rotate_left
 ·simp only [Act.put,List.setIfInBounds_toArray,List.set_cons_zero,List.set_cons_succ,i64_w,i32_w]
  rfl
 refine one_ (i:=2) (N:=some 7) #[true,true,true,true,true,false,false,false] rfl rfl (by kernel_rfl) (by decide) (fun K hK => ?_)
 refine goes_ Tryd.func58 (by kernel_rfl) rfl #[.string x.f0] (by rfl) rfl rfl (by first|rfl|(simp only [List.map_toArray,List.map_cons,List.map_nil];done)|(simp only [List.map_toArray,List.map_cons,List.map_nil];rfl)) ?_
 refine (U1.out _ hHeld.2.2).mono ?_
 rintro _ w3 ⟨v3,rfl,hX3,hb3⟩
 refine ⟨_,rfl,?_⟩
 obtain ⟨A3,c3,rfl,hc3,hC3⟩:=Kd.R_reads hX3
 refine hK.out _ _ (⟨hHeld.1.after hb3,hHeld.2.1.after hb3,Zf hHeld.2.2 hb3⟩) (fun hHeld => ?_)
 clear hK K
 refine norm_ (a':=?_) ?_ ?_
 rotate_left
 ·show Act.put _ (some 7) _=_
  simp only [Act.put,List.setIfInBounds_toArray,List.set_cons_zero,List.set_cons_succ,i64_w,i32_w]
  rfl
 refine one_ (i:=5) (N:=some 10) #[true,true,true,true,true,true,false,false] rfl rfl (by kernel_rfl) (by decide) (fun K hK => ?_)
 refine goes_ Tryd.func58 (by kernel_rfl) rfl #[.string y.f0] (by rfl) rfl rfl (by first|rfl|(simp only [List.map_toArray,List.map_cons,List.map_nil];done)|(simp only [List.map_toArray,List.map_cons,List.map_nil];rfl)) ?_
 refine (U2.out _ hHeld.2.2).mono ?_
 rintro _ w4 ⟨v4,rfl,hX4,hb4⟩
 refine ⟨_,rfl,?_⟩
 obtain ⟨A4,c4,rfl,hc4,hC4⟩:=Kd.R_reads hX4
 have hC34:=Kd.C_below hC3 hb4
 refine hK.out _ _ (⟨hHeld.1.after hb4,hHeld.2.1.after hb4,Zf hHeld.2.2 hb4⟩) (fun hHeld => ?_)
 clear hK K
 refine norm_ (a':=?_) ?_ ?_
 rotate_left
 ·show Act.put _ (some 10) _=_
  simp only [Act.put,List.setIfInBounds_toArray,List.set_cons_zero,List.set_cons_succ,i64_w,i32_w]
  rfl
 refine one_ (i:=6) (N:=some 11) #[true,true,true,true,true,true,true,false] rfl rfl (by kernel_rfl) (by decide) (fun K hK => ?_)
 refine goes_ Tryd.func57 (by kernel_rfl) rfl #[.slice A3 X.length c3,.slice A4 Y.length c4] (by rfl) rfl rfl (by first|rfl|(simp only [List.map_toArray,List.map_cons,List.map_nil];done)|(simp only [List.map_toArray,List.map_cons,List.map_nil];rfl)) ?_
 refine (Go.Proofs.YtfbgmlophkbejaaDoorQ.Pas.Zg.calls 2147483648 A3 c3 X A4 c4 Y r _ hC34 hc3 hC4 hc4 HC.out).mono ?_
 rintro _ w5 ⟨rfl,n5⟩
 refine ⟨_,rfl,?_⟩
 refine hK.out _ _ (⟨hHeld.1.after n5.below,hHeld.2.1.after n5.below,Zf hHeld.2.2 n5.below⟩) (fun hHeld => ?_)
 clear hK K
 refine norm_ (a':=?_) ?_ ?_
 rotate_left
 ·show Act.put _ (some 11) _=_
  simp only [Act.put,List.setIfInBounds_toArray,List.set_cons_zero,List.set_cons_succ,i64_w,i32_w]
  rfl
 refine pure_ (i:=7) (N:=some 4) (v:=?_) (a':=?_) #[true,true,true,true,true,true,true,true] rfl rfl (by kernel_rfl) (fun _ _ _ h => h) (Or.inl ⟨by rfl,?_⟩) ?_ ?_
 rotate_left
 ·intro w'
  go_simp
  with_reducible rfl
 rotate_left
 ·simp only [Act.put,List.setIfInBounds_toArray,List.set_cons_zero,List.set_cons_succ,i64_w,i32_w]
  rfl
 refine done_ (by kernel_rfl) ?_
 go_wp2
 go_ret
 exact ⟨⟨r,rfl,HR.out⟩,hHeld.2.2⟩
set_option maxRecDepth 100000 in
theorem sortS_any (l : List Go.Proofs.YtfbgmlophkbejaaDoorQ.Pfa.S46) (L : Nat) (hL : l.length=L) (q c B : Nat) (w0 W0 : World) (hX : Cur w0 B q L c W0 l) (hq : w0.heap.size≤q) (T : TabM w0) (hP : ∀ z ∈ l,PF z) (hl : L≤1048576) :
  Calls Tryd.prog 55 #[.slice (some ⟨q,0,none⟩) L c,.func (.func 56) #[] #[]] W0 fun e w' => e=.returned (.tuple #[])∧Cur w0 B q L c w' (srt ltF l):=by
 have hs:=stab_any ltF_wo l L hL q c B w0 W0 hX hq (cmp_ok w0 T) hP hl
 have Hs:=Lib.hid hs
 clear hs hX hP
 go_enter Tryd.func55,Tryd.ntmps55
 go_wp2_with (go_at_call 80;((with_reducible refine (Hs.out).mono ?_);rintro e w2 ⟨rfl,hc2⟩))
 go_end0
 exact ⟨rfl,hc2⟩
set_option maxRecDepth 100000 in
theorem insS_nil (A : Option Addr) (c : Nat) (F : Value) (w : World) : Calls Tryd.prog 100 #[.slice A 0 c,.int .i64 0,.int .i64 0,F] w fun e w' => e=.returned (.tuple #[])∧w'=w:=by
 go_enter Tryd.func100,Tryd.ntmps100
 go_wp2
 go_loopw [8] (fun u wr => u=.int .i64 1∧wr=w) (fun _ _ => 0)
 case atStart => exact ⟨rfl,rfl⟩
 case round =>
  obtain ⟨rfl,rfl⟩:=hrel
  go_wp2
  go_end0
  exact ⟨rfl,rfl⟩
set_option maxRecDepth 100000 in
theorem stab_nil (A : Option Addr) (c : Nat) (F : Value) (w : World) : Calls Tryd.prog 80 #[.slice A 0 c,.int .i64 0,F] w fun e w' => e=.returned (.tuple #[])∧w'=w:=by
 go_enter Tryd.func80,Tryd.ntmps80
 go_wp2
 go_loopw [7,8] (fun u v wr => u=.int .i64 0∧v=.int .i64 20∧wr=w) (fun _ _ _ => 0)
 case atStart => exact ⟨rfl,rfl,rfl⟩
 case round =>
  obtain ⟨rfl,rfl,rfl⟩:=hrel
  go_wp2_with (go_at_call 100;((with_reducible refine (insS_nil _ _ _ _).mono ?_);rintro e w2 ⟨rfl,rfl⟩))
  go_loopw [6] (fun u wq => u=.int .i64 20∧wq=w2) (fun _ _ => 0)
  case atStart => exact ⟨rfl,rfl⟩
  case round =>
   obtain ⟨rfl,rfl⟩:=hrel
   go_wp2
   go_end0
   exact ⟨rfl,rfl⟩
set_option maxRecDepth 100000 in
theorem sortS_nil (A : Option Addr) (c : Nat) (F : Value) (w : World) : Calls Tryd.prog 55 #[.slice A 0 c,F] w fun e w' => e=.returned (.tuple #[])∧w'=w:=by
 go_enter Tryd.func55,Tryd.ntmps55
 go_wp2_with (go_at_call 80;((with_reducible refine (stab_nil _ _ _ _).mono ?_);rintro e w2 ⟨rfl,rfl⟩))
 go_end0
 exact ⟨rfl,rfl⟩
set_option maxRecDepth 100000 in
theorem Sorted_any (l : List Go.Proofs.YtfbgmlophkbejaaDoorQ.Pfa.S46) (A : Option Addr) (c : Nat) (w : World) (hC : Kd.C Go.Proofs.YtfbgmlophkbejaaDoorQ.Pfa.k46 w A l.length l) (hl : l.length≤1048576) (T : TabM w) (hP : ∀ z ∈ l,PF z) : Calls Tryd.prog 22 #[.slice A l.length c] w fun e w' => ∃ v,e=.returned v∧RowS w' w.heap.size v (srt ltF l)∧Below w.heap.size w w':=by
 have hc:=Clone_any l A c w hC (by omega)
 rcases Nat.eq_zero_or_pos l.length with h0|h0
 ·obtain rfl : l=[]:=List.eq_nil_of_length_eq_zero h0
  have hc2 : Calls Tryd.prog 52 #[.slice A 0 c] w fun e w' => ∃ v,e=.returned v∧RowS w' w.heap.size v []∧Below w.heap.size w w':=hc
  have HC:=Lib.hid hc2
  clear hc hC hc2
  show Calls Tryd.prog 22 #[.slice A 0 c] w _
  go_enter Tryd.func22,Tryd.ntmps22
  go_wp2_with (first
   | (go_at_call 52;((with_reducible refine (HC.out).mono ?_);rintro e w2 ⟨v2,rfl,hR2,hb2⟩;obtain ⟨A2,c2,he2,-,-⟩:=Kd.R_reads hR2;rw [List.length_nil] at he2;subst he2))
   | (go_at_call 55;((with_reducible refine (sortS_nil _ _ _ _).mono ?_);rintro e w3 ⟨rfl,rfl⟩)))
  go_ret
  exact ⟨_,rfl,hR2,hb2⟩
 ·have HC:=Lib.hid hc
  have HP:=Lib.hid hP
  clear hc hC hP
  go_enter Tryd.func22,Tryd.ntmps22
  go_wp2_with (first
   | (go_at_call 52;((with_reducible refine (HC.out).mono ?_);rintro e w2 ⟨v2,rfl,hR2,hb2⟩;obtain ⟨inner,ho⟩:=Kd.R_own hR2;obtain ⟨q,cap,hv,hBq,hlt⟩:=ho.form (by omega);subst hv;clear ho;have hs:=Lib.hid (sortS_any l l.length rfl q cap w.heap.size w w2 ⟨hR2,hb2⟩ hBq T HP.out hl);clear hR2))
   | (go_at_call 55;((with_reducible refine (hs.out).mono ?_);rintro e w3 ⟨rfl,hc3⟩)))
  go_ret
  exact ⟨_,rfl,(srt_len (lt:=ltF) l).symm ▸ hc3.1,hc3.2⟩
end FC
end Go.Proofs.YtfbgmlophkbejaaDoor
set_option linter.unusedVariables false
set_option linter.unusedSimpArgs false
namespace Go.Proofs.YtfbgmlophkbejaaDoor
open Go.RowKit Go.Proofs.YtfbgmlophkbejaaDoorW.PrintWords Go.Proofs.YtfbgmlophkbejaaDoorW.PrintLast Go.Proofs.YtfbgmlophkbejaaDoorQ.Pfa
namespace FC
def cR (x : S46) : S35:=⟨x.f0,x.f1⟩
theorem rd_cR (X : List S46) (i : Nat) (h : i < X.length) : rd_T35 (X.map cR) (i : Int)=cR X[i]:=by
 unfold rd_T35
 rw [Int.toNat_natCast,List.getD_eq_getElem?_getD,List.getElem?_map,List.getElem?_eq_getElem h]
 rfl
theorem isN_iff (name : ByteArray) (x : S46) : x.f0.toList=name.toList ↔ isN name x=true:=by
 rw [← isN_eq]
 exact beq_iff_eq.symm
def setFrom (name value : ByteArray) : Bool→List S46→List S46
 | b,[] => if b then [] else [⟨name,value⟩]
 | b,x :: r => if isN name x then (if b then setFrom name value b r else ⟨name,value⟩ :: setFrom name value true r) else x :: setFrom name value b r
theorem setFrom_true (name value : ByteArray) (l : List S46) : setFrom name value true l=l.filter fun x => !isN name x:=by
 induction l with
 | nil => rfl
 | cons x r ih =>
  unfold setFrom
  rw [List.filter_cons,ih]
  cases h : isN name x <;> simp
theorem setFrom_false (name value : ByteArray) (l : List S46) : setFrom name value false l=setF name value l:=by
 induction l with
 | nil => rfl
 | cons x r ih =>
  unfold setFrom setF
  rw [List.findIdx?_cons]
  cases h : isN name x with
  | true => simp [setFrom_true]
  | false =>
   simp only [Bool.false_eq_true,if_false]
   rw [ih]
   unfold setF
   cases hf : r.findIdx? (isN name) with
   | none => simp
   | some k => simp
theorem RSet_l0 (X : List S46) (hX : X.length≤1073741824) (name value : ByteArray) : ∀ (n k i : Nat) (acc : List S35) (b : Bool),X.length - i=n→i≤X.length→n + 1 < k→acc.length≤i →
  Zn.l0 k (X.map cR) name value acc b (i : Int)=some (acc++(setFrom name value b (X.drop i)).map cR):=by
 intro n
 induction n with
 | zero =>
  intro k i acc b h1 h2 hk ha
  obtain ⟨k,rfl⟩ : ∃ m,k=m + 1:=⟨k - 1,by omega⟩
  simp only [Zn.l0]
  rw [List.length_map,if_neg (by omega),List.drop_eq_nil_of_le (by omega)]
  cases b with
  | true => rw [if_pos rfl];simp [setFrom]
  | false => rw [if_neg (by simp),if_pos (by omega)];simp [setFrom,cR]
 | succ n ih =>
  intro k i acc b h1 h2 hk ha
  obtain ⟨k,rfl⟩ : ∃ m,k=m + 1:=⟨k - 1,by omega⟩
  have hi : i < X.length:=by omega
  have hw : wrap64 ((i : Int) + 1)=((i + 1 : Nat) : Int):=by unfold wrap64;omega
  simp only [Zn.l0]
  rw [List.length_map,if_pos (by omega),if_pos (by omega),rd_cR X i hi,hw,List.drop_eq_getElem_cons hi]
  show (if X[i].f0.toList=name.toList then _ else _)=_
  unfold setFrom
  by_cases hn : isN name X[i]=true
  ·rw [if_pos ((isN_iff name X[i]).2 hn),if_pos hn]
   cases b with
   | true => rw [if_pos rfl,if_pos rfl,ih k (i + 1) acc true (by omega) (by omega) (by omega) (by omega)]
   | false =>
    rw [if_neg (show ¬ (false=true) by simp),if_neg (show ¬ (false=true) by simp),if_pos (by omega),ih k (i + 1) _ true (by omega) (by omega) (by omega) (by rw [List.length_append,List.length_singleton];omega)]
    simp [cR]
  ·rw [if_neg (fun e => hn ((isN_iff name X[i]).1 e)),if_neg hn,if_pos (by omega),ih k (i + 1) _ b (by omega) (by omega) (by omega) (by rw [List.length_append,List.length_singleton];omega)]
   simp [cR]
theorem RSet_is (X : List S46) (hX : X.length≤1073741824) (name value : ByteArray) : Zn.f 2147483648 (X.map cR) name value=some ((setF name value X).map cR):=by
 unfold Zn.f
 have:=RSet_l0 X hX name value X.length 2147483648 0 [] false (by omega) (by omega) (by omega) (by simp)
 rw [List.drop_zero,List.nil_append,setFrom_false] at this
 exact this
theorem RWithout_l0 (X : List S46) (hX : X.length≤1073741824) (name : ByteArray) : ∀ (n k i : Nat) (acc : List S35),X.length - i=n→i≤X.length→n + 1 < k→acc.length≤i →
  Zk.l0 k (X.map cR) name acc (i : Int)=some (acc++((X.drop i).filter fun x => !isN name x).map cR):=by
 intro n
 induction n with
 | zero =>
  intro k i acc h1 h2 hk ha
  obtain ⟨k,rfl⟩ : ∃ m,k=m + 1:=⟨k - 1,by omega⟩
  simp only [Zk.l0]
  rw [List.length_map,if_neg (by omega),List.drop_eq_nil_of_le (by omega)]
  simp
 | succ n ih =>
  intro k i acc h1 h2 hk ha
  obtain ⟨k,rfl⟩ : ∃ m,k=m + 1:=⟨k - 1,by omega⟩
  have hi : i < X.length:=by omega
  have hw : wrap64 ((i : Int) + 1)=((i + 1 : Nat) : Int):=by unfold wrap64;omega
  simp only [Zk.l0]
  rw [List.length_map,if_pos (by omega),if_pos (by omega),rd_cR X i hi,hw,List.drop_eq_getElem_cons hi,List.filter_cons]
  show (if X[i].f0.toList=name.toList then _ else _)=_
  by_cases hn : isN name X[i]=true
  ·rw [if_pos ((isN_iff name X[i]).2 hn),if_neg (by rw [hn];simp),ih k (i + 1) acc (by omega) (by omega) (by omega) (by omega)]
  ·rw [if_neg (fun e => hn ((isN_iff name X[i]).1 e)),if_pos (show (!isN name X[i])=true by simpa using hn),if_pos (by omega),ih k (i + 1) _ (by omega) (by omega) (by omega) (by rw [List.length_append,List.length_singleton];omega)]
   simp [cR]
theorem RWithout_is (X : List S46) (hX : X.length≤1073741824) (name : ByteArray) : Zk.f 2147483648 (X.map cR) name=some ((X.filter fun x => !isN name x).map cR):=by
 unfold Zk.f
 have:=RWithout_l0 X hX name X.length 2147483648 0 [] (by omega) (by omega) (by omega) (by simp)
 rw [List.drop_zero,List.nil_append] at this
 exact this
def allF (name : ByteArray) (l : List S46) : List ByteArray:=(l.filter (isN name)).map (·.f1)
theorem All_l0 (X : List S46) (hX : X.length≤1073741824) (name : ByteArray) : ∀ (n k i : Nat) (acc : List ByteArray),X.length - i=n→i≤X.length→n + 1 < k→acc.length≤i →
  percent_All.l0 k name acc X (X.length : Int) (i : Int)=some (acc++allF name (X.drop i)):=by
 intro n
 induction n with
 | zero =>
  intro k i acc h1 h2 hk ha
  obtain ⟨k,rfl⟩ : ∃ m,k=m + 1:=⟨k - 1,by omega⟩
  simp only [percent_All.l0]
  rw [if_neg (by omega),List.drop_eq_nil_of_le (by omega)]
  simp [allF]
 | succ n ih =>
  intro k i acc h1 h2 hk ha
  obtain ⟨k,rfl⟩ : ∃ m,k=m + 1:=⟨k - 1,by omega⟩
  have hi : i < X.length:=by omega
  have hw : wrap64 ((i : Int) + 1)=((i + 1 : Nat) : Int):=by unfold wrap64;omega
  have hr : Zq X (i : Int)=X[i]:=by unfold Zq;rw [Int.toNat_natCast,List.getD_eq_getElem?_getD,List.getElem?_eq_getElem hi];rfl
  simp only [percent_All.l0]
  rw [if_pos (by omega),if_pos (by omega),if_pos (by omega),hr,hw,List.drop_eq_getElem_cons hi]
  by_cases hn : isN name X[i]=true
  ·rw [if_pos ((isN_iff name X[i]).2 hn),if_pos (by omega),ih k (i + 1) _ (by omega) (by omega) (by omega) (by rw [List.length_append,List.length_singleton];omega)]
   unfold allF
   rw [List.filter_cons,if_pos hn]
   simp
  ·rw [if_neg (fun e => hn ((isN_iff name X[i]).1 e)),ih k (i + 1) acc (by omega) (by omega) (by omega) (by omega)]
   unfold allF
   rw [List.filter_cons,if_neg hn]
theorem All_is (X : List S46) (hX : X.length≤1073741824) (name : ByteArray) : percent_All.f 2147483648 X name=some (allF name X):=by
 unfold percent_All.f
 have:=All_l0 X hX name X.length 2147483648 0 [] (by omega) (by omega) (by omega) (by simp)
 rw [List.drop_zero,List.nil_append] at this
 exact this
end FC
end Go.Proofs.YtfbgmlophkbejaaDoor
set_option linter.unusedVariables false
set_option linter.unusedSimpArgs false
namespace Go.Proofs.YtfbgmlophkbejaaDoor
open Go.RowKit Go.Proofs.YtfbgmlophkbejaaDoorW.PrintWords Go.Proofs.YtfbgmlophkbejaaDoorW.PrintLast Go.Proofs.YtfbgmlophkbejaaDoorQ.Pfa
namespace FC
open Sr
theorem ins_at {α : Type} {lt : α → α → Bool} (w : WO lt) (x : α) (out : List α) (ho : Ord lt out) (k : Nat) (hk : k ≤ out.length) (h1 : ∀ hk2 : 0 < k, lt x (out[k - 1]'(by omega)) = false) (h2 : ∀ q ∈ out.drop k, lt x q = true) : ins lt x out = out.take k ++ x :: out.drop k := by
 have hP : ∀ p ∈ out.take k,lt x p=false:=by
  rcases Nat.eq_zero_or_pos k with h0|h0
  ·subst h0;intro p hp;simp at hp
  ·have e : out.take k = out.take (k - 1) ++ [out[k - 1]'(by omega)] := by
    have:=List.take_succ_eq_append_getElem (l:=out) (i:=k - 1) (by omega)
    rw [show k - 1 + 1=k by omega] at this
    exact this
   rw [e]
   exact ord_last w x _ _ (e ▸ List.Pairwise.sublist (List.take_sublist _ _) ho) (h1 h0)
 have:=ins_split (lt:=lt) x (out.take k) (out.drop k) hP (fun q r hq => h2 q (by rw [hq];simp))
 rw [List.take_append_drop] at this
 exact this
def ltR (x y : S35) : Bool:=Ky.ltK x.f0 y.f0
theorem ltR_wo : WO ltR:=⟨fun x y z => Ky.ltK_wo.trans _ _ _,fun x y z => Ky.ltK_wo.neg _ _ _,fun x y => Ky.ltK_wo.asym _ _⟩
def RowT (W : World) (B : Nat) (v : Value) (X : List S35) : Prop:=Kd.R k35 35 W B (fun _ => True) v X
theorem rd_atR (X : List S35) (k : Nat) (h : k < X.length) : rd_T35 X (k : Int)=X[k]:=by unfold rd_T35;rw [Int.toNat_natCast,List.getD_eq_getElem?_getD,List.getElem?_eq_getElem h];rfl
theorem RowT.base {W : World} {B : Nat} {v : Value} {X : List S35} (h : RowT W B v X) : ∀ q,v.ownBlock=some q→B≤q∧q < W.heap.size:=fun q hq => by
 obtain ⟨inner,ho⟩:=Kd.R_own h
 exact ⟨own_base ho q hq,own_lt ho q hq⟩
theorem RowT.sharp {W : World} {B : Nat} {v : Value} {X : List S35} (h : RowT W B v X) : Kd.R k35 35 W B (fun k => v.ownBlock=some k) v X :=
 ⟨fun k hk => hk,h.2.imp_ (fun x c hp => by rw [k35_openM hp];exact k35_mkM _ _ _ x)⟩
theorem RowT.other {W W' : World} {B : Nat} {v : Value} {X : List S35} {row : Option Nat} (h : RowT W B v X) (hg : W.grownBy W' row) (hne : ∀ q,v.ownBlock=some q→some q ≠ row) : RowT W' B v X :=
 Kd.R_mono (Kd.R_grown h.sharp hg hne) (fun _ _ => trivial)
theorem RowT.below {W W' : World} {B : Nat} {v : Value} {X : List S35} (h : RowT W B v X) (hb : Below W.heap.size W W') : RowT W' B v X:=Kd.R_below h hb
theorem RowT.apart {W : World} {B : Nat} {u v : Value} {X : List S35} (h : RowT W B v X) (n : ∃ b,u.ownBlock=some b∧W.heap.size≤b) : ∀ q,v.ownBlock=some q→some q ≠ u.ownBlock:=fun q hq e => by
 obtain ⟨b,h1,h2⟩:=n
 have:=(h.base q hq).2
 rw [h1] at e
 injection e with e
 omega
theorem RowT.apart2 {W : World} {B : Nat} {u v : Value} {X : List S35} (h : RowT W B v X) (n : ∃ b,u.ownBlock=some b∧W.heap.size≤b) : ∀ q,u.ownBlock=some q→some q ≠ v.ownBlock:=fun q hq e => by
 exact h.apart n q e.symm hq.symm
theorem info_rfl : (Tryd.prog.info? 35).map (fun i => (i.zero,i.size,i.bytes))=some (some (.agg #[.string ByteArray.empty,.string ByteArray.empty]),2,32):=by kernel_rfl
theorem exec_cut_to {P : Program} {o : Oper} {a : Act} {w : World} (t e : TypeId) (ht : P.underlying t=some (.slice e)) (x y : Operand) (ho : o.op=.slice t x none (some y) none) (v u : Value) (hx : a.eval x=v) (j : Int) (hy : a.eval y=.int .i64 j)
  (h : (Instr.slice t v none (some (.int .i64 j)) none).run P w=.ok u w) : (execOp a.eval o).run P w=.ok (.value u) w:=by
 unfold execOp
 simp only [ho,hx,hy,Option.map_some,Option.map_none,Instr.sliceAt,Sem.run_bind,run_underlying ht,Result.andThen_ok,h,Sem.run_pure]
theorem exec_cut_from {P : Program} {o : Oper} {a : Act} {w : World} (t e : TypeId) (ht : P.underlying t=some (.slice e)) (x y : Operand) (ho : o.op=.slice t x (some y) none none) (v u : Value) (hx : a.eval x=v) (j : Int) (hy : a.eval y=.int .i64 j)
  (h : (Instr.slice t v (some (.int .i64 j)) none none).run P w=.ok u w) : (execOp a.eval o).run P w=.ok (.value u) w:=by
 unfold execOp
 simp only [ho,hx,hy,Option.map_some,Option.map_none,Instr.sliceAt,Sem.run_bind,run_underlying ht,Result.andThen_ok,h,Sem.run_pure]
section
variable {ops : Array Oper} {o : Oper} {a : Act} {Q : Exit→Act→World→Prop} {Kc : Act→World→Prop}
theorem appT_ {W : World} (B : Nat) (hw : Region.wanted o (yielded ops a.tmps)=true) (s x : Operand)
  (ho : o.op=.call { callee:=.builtin .append,args:=#[s,x],argTypes:=#[31,31] })
  (v : Value) (X Z : List S35) (A1 : Option Addr) (m c : Nat) (hs : a.eval s=v) (hx : a.eval x=.slice A1 m c) (HO : RowT W B v X) (HR : Kd.C k35 W A1 m Z) (hB : B≤W.heap.size) (hl : X.length + m≤1099511627776)
  (h : ∀ v1 w1,RowT w1 B v1 (X++Z)→Below B W w1→W.grownBy w1 v.ownBlock→(v1.ownBlock=v.ownBlock ∨ ∃ b,v1.ownBlock=some b∧W.heap.size≤b)→Kc (a.put o.dst v1) w1) :
  if Region.wanted o (yielded ops a.tmps)=true then Oper.wp Tryd.prog o a W Kc Q else Kc (a.put o.dst undef) W :=
 Kd.R_append_rows_step k35 (Rr:=k35.K W) (w0:=W) B hw s x 31 35 _ 32 ho Tryd.underlying31 info_rfl rfl (by decide) (by decide) v X Z A1 m c (fun _ => True) (fun _ => False) hs hx HO HR (fun y cs hC => by rw [k35_open hC];exact k35_mkM _ _ _ y) (fun _ hk => hk.elim) (fun _ _ => trivial) (Below.refl _ _) hB (by omega) h
theorem nilT_ {W : World} (B : Nat) (hw : Region.wanted o (yielded ops a.tmps)=true) {N : Tmp} (hd : o.dst=some N) (hB : B≤W.heap.size)
  (hrun : (execOp a.eval o).run Tryd.prog W=.ok (.value (.slice (some ⟨W.heap.size,0,none⟩) 0 0)) (W.alloc (.cells #[] 35)))
  (h : ∀ v1 w1,RowT w1 B v1 []→Below W.heap.size W w1→(∃ b,v1.ownBlock=some b∧W.heap.size≤b)→Kc (a.put o.dst v1) w1) :
  if Region.wanted o (yielded ops a.tmps)=true then Oper.wp Tryd.prog o a W Kc Q else Kc (a.put o.dst undef) W :=
 Kd.R_lit_step k35 (w0:=W) W.heap.size 35 hw hd (xs:=([] : List S35)) (inner:=[]) (ok:=fun _ => True) (okp:=fun _ => True) hrun (Reps.none _ _) (fun _ hk => hk) trivial (Below.refl _ _) (Nat.le_refl _) (by simp) (fun v1 w1 h1 h2 h3 h4 => h v1 w1 (Kd.R_lower h1 hB) h2 h4)
theorem oneT_ {W : World} (B : Nat) (hw : Region.wanted o (yielded ops a.tmps)=true) {N : Tmp} (hd : o.dst=some N) (x : S35) (hB : B≤W.heap.size)
  (hrun : (execOp a.eval o).run Tryd.prog W=.ok (.value (.slice (some ⟨W.heap.size,0,none⟩) 1 1)) (W.alloc (.cells #[.string x.f0,.string x.f1] 35)))
  (h : ∀ v1 w1,RowT w1 B v1 [x]→Below W.heap.size W w1→(∃ b,v1.ownBlock=some b∧W.heap.size≤b)→Kc (a.put o.dst v1) w1) :
  if Region.wanted o (yielded ops a.tmps)=true then Oper.wp Tryd.prog o a W Kc Q else Kc (a.put o.dst undef) W :=
 Kd.R_lit_step k35 (w0:=W) W.heap.size 35 hw hd (xs:=[x]) (inner:=[.string x.f0,.string x.f1]) (ok:=fun _ => True) (okp:=fun _ => True) hrun ((Reps.none _ _).snoc (k35_mkM _ _ _ x) rfl) (fun _ hk => hk) trivial (Below.refl _ _) (Nat.le_refl _) (by simp) (fun v1 w1 h1 h2 h3 h4 => h v1 w1 (Kd.R_lower h1 hB) h2 h4)
end
set_option maxRecDepth 100000 in
set_option maxHeartbeats 40000000 in
theorem RSorted_any (l : List S35) (A : Option Addr) (c : Nat) (w : World) (hC : Kd.C k35 w A l.length l) (hcc : l.length≤c) (hl : l.length≤1048576) (hP : ∀ z ∈ l,z.f0.size≤16777216) : Calls Tryd.prog 26 #[.slice A l.length c] w fun e w' => ∃ v,e=.returned v∧RowT w' w.heap.size v (srt ltR l)∧Below w.heap.size w w':=by
 have HC:=Lib.hid hC
 have HP:=Lib.hid hP
 clear hC hP
 have hb0:=below_one w (.cells #[] 35)
 have hr0 : Hid (RowT (w.alloc (.cells #[] 35)) w.heap.size (.slice (some ⟨w.heap.size,0,none⟩) 0 0) (srt ltR (l.take 0))):=Lib.hid ⟨fun _ _ => trivial,[],World.ownsRow_made w #[] 0 (Nat.le_refl _) (Nat.zero_le _) rfl,Reps.none _ _⟩
 go_enter Tryd.func26,Tryd.ntmps26
 go_wp2
 go_loopw [3,4] (fun u v wr => ∃ (i : Nat),v=.int .i64 (i : Int)∧i≤l.length∧Hid (RowT wr w.heap.size u (srt ltR (l.take i)))∧Hid (Below w.heap.size w wr)) (fun _ v _ => l.length - (intOf v).toNat)
 case atStart => exact ⟨0,rfl,by omega,hr0,Lib.hid hb0⟩
 case round =>
  clear hr0 hb0
  obtain ⟨i,rfl,hi,hR,hB⟩:=hrel
  obtain ⟨out,hout⟩ : ∃ out,out=srt ltR (l.take i):=⟨_,rfl⟩
  rw [← hout] at hR
  have holen : out.length=i:=by rw [hout,srt_len,List.length_take];omega
  obtain ⟨A2,c2,rfl,hc2,-⟩:=Kd.R_reads hR.out
  by_cases hlt : i < l.length
  ·obtain ⟨x,hx⟩ : ∃ x,x=l[i]:=⟨_,rfl⟩
   have Hfin : Hid (∀ p,p≤i→(∀ h : 0 < p,∀ y,out[p - 1]?=some y→ltR x y=false)→(∀ q ∈ out.drop p,ltR x q=true)→out.take p++[x]++out.drop p=srt ltR (l.take (i + 1))):=Lib.hid fun p hp h1 h2 => by
    have e1 : l.take (i + 1)=l.take i++[x]:=by rw [List.take_succ_eq_append_getElem hlt,hx]
    have h3:=ins_at ltR_wo x out (by rw [hout];exact srt_ord ltR_wo _) p (by omega) (fun h => h1 h _ (List.getElem?_eq_getElem _)) h2
    rw [e1,srt_snoc,← hout,h3]
    simp
   have hpx : x.f0.size≤16777216:=by rw [hx];exact HP.out _ (List.getElem_mem _)
   have c1 : ∀ W,Below w.heap.size w W→∃ ad,A=some ad∧W.cell? (ad.add (i * 2))=some (.string x.f0)∧W.cell? ⟨(ad.add (i * 2)).block,(ad.add (i * 2)).off + 1,none⟩=some (.string x.f1):=fun W hW => by
    obtain ⟨ad,e,p0,p1⟩:=at_T35 (Kd.C_below HC.out hW) (i : Int) (by omega) (by omega)
    rw [rd_atR l i hlt,← hx,Int.toNat_natCast] at p0 p1
    exact ⟨ad,e,p0,p1⟩
   obtain ⟨ad1,rfl,-⟩:=c1 _ hB.out
   have C1 : Hid (∀ W,Below w.heap.size w W→W.cell? (ad1.add (i * 2))=some (.string x.f0)):=Lib.hid fun W hW => by obtain ⟨ad,e,h,_⟩:=c1 W hW;obtain rfl:=Option.some.inj e;exact h
   have C1b : Hid (∀ W,Below w.heap.size w W→W.cell? ⟨(ad1.add (i * 2)).block,(ad1.add (i * 2)).off + 1,none⟩=some (.string x.f1)):=Lib.hid fun W hW => by obtain ⟨ad,e,_,h⟩:=c1 W hW;obtain rfl:=Option.some.inj e;exact h
   have Hmem : Hid (∀ y ∈ out,y.f0.size≤16777216):=Lib.hid fun y hy => by
    rw [hout] at hy
    exact HP.out y (List.mem_of_mem_take ((srt_mem (lt:=ltR) _ y).1 hy))
   rw [holen] at hR hc2 ⊢
   have Holen:=Lib.hid holen
   have hi1 : wrap64 ((i : Int) + 1)=((i + 1 : Nat) : Int):=by unfold wrap64;omega
   clear hout hx holen c1
   go_wp2
   go_loopw [5] (fun u wq => ∃ (k : Nat),u=.int .i64 (k : Int)∧k≤i∧Hid (∀ q ∈ out.drop k,ltR x q=true)∧Hid (RowT wq w.heap.size (.slice A2 i c2) out)∧Hid (Below w.heap.size w wq)) (fun u _ => (intOf u).toNat)
   case atStart => exact ⟨i,rfl,by omega,Lib.hid (fun q hq => by rw [List.drop_eq_nil_of_le (by have:=Holen.out;omega)] at hq;cases hq),hR,hB⟩
   case round =>
    clear hR hB
    obtain ⟨k,rfl,hki,hK,hR,hB⟩:=hrel
    cases k with
    | zero =>
     have hpi : 0≤i:=Nat.zero_le _
     have Hend:=Lib.hid (Hfin.out 0 hpi (fun h => absurd h (by omega)) hK.out)
     go_wp2_with fail
     go_quiet (fail)
     obtain ⟨wz,hwz⟩ : ∃ wz,wz=wr.drewN nq:=⟨_,rfl⟩
     have hR2 : Hid (RowT wz w.heap.size (.slice A2 i c2) out):=Lib.hid (hwz ▸ Kd.Zl hR.out nq)
     have hB2 : Hid (Below w.heap.size w wz):=Lib.hid (hwz ▸ below_drewN hB.out nq)
     rw [← hwz]
     clear hwz hR hB hK
     have hcc2:=(Kd.R_reads' hR2.out).2.1
     have HC3 : Hid (Kd.C k35 wz A2 out.length out):=Lib.hid (Kd.R_reads' hR2.out).2.2
     have HCt : Hid (Kd.C k35 wz A2 0 (out.take 0)):=Lib.hid (by have:=Kd.C_take HC3.out (m:=0) (by rw [Holen.out];exact hpi);rwa [show (out.take 0).length=0 by rw [List.length_take,Holen.out];omega] at this)
     obtain ⟨A3,hA3⟩ : ∃ A3,A3=(if c2=0 then A2 else A2.map (·.add (0 * 2))):=⟨_,rfl⟩
     have HCd : Hid (Kd.C k35 wz A3 (i - 0) (out.drop 0)):=Lib.hid (by have h:=Kd.C_drop (c:=c2) HC3.out (m:=0) (by rw [Holen.out];exact hpi) (by rw [Holen.out];exact hcc2);rw [show (out.drop 0).length=i - 0 by rw [List.length_drop,Holen.out]] at h;rw [hA3];exact h)
     obtain ⟨i0,hi0,hzz⟩:=Option.map_eq_some_iff.1 info_rfl
     simp only [Prod.mk.injEq] at hzz
     have hto : Hid (∀ W : World,(Instr.slice 31 (.slice A2 i c2) none (some (.int .i64 ((0 : Nat) : Int))) none).run Tryd.prog W=.ok (.slice A2 0 c2) W):=Lib.hid (by have h:=cut_to 31 35 .i64 Tryd.underlying31 hi0 A2 i c2 ((0 : Nat) : Int) (by omega) (by omega) hcc2;rw [show (((0 : Nat) : Int)).toNat=0 from by omega] at h;exact h)
     have hfrom : Hid (∀ W : World,(Instr.slice 31 (.slice A2 i c2) (some (.int .i64 ((0 : Nat) : Int))) none none).run Tryd.prog W=.ok (.slice A3 (i - 0) (c2 - 0)) W):=Lib.hid (by have h:=cut_from 31 35 .i64 Tryd.underlying31 hi0 2 hzz.2.1 A2 i c2 ((0 : Nat) : Int) (by omega) (by omega);rw [show (((0 : Nat) : Int)).toNat=0 from by omega,← hA3] at h;exact h)
     clear hA3 hi0 hzz HC3
     go_wp2_with fail
     refine start_ (n:=16) (S:=(fun w' => Below wz.heap.size wz w')) (ds:=[]) #[false,false,false,false,false,false,false,false,false,false,false,false,false,false,false,false] (by kernel_rfl) rfl rfl (Zc (Below.refl _ _)) (fun hHeld => ?_)
     refine pure_ (i:=1) (N:=some 34) (v:=?_) (a':=?_) #[false,true,false,false,false,false,false,false,false,false,false,false,false,false,false,false] rfl rfl (by kernel_rfl) (fun _ _ _ h => h) (Or.inl ⟨by rfl,?_⟩) ?_ ?_
     rotate_left
     ·intro w'
      go_simp
      with_reducible rfl
     rotate_left
     ·simp only [Act.put,List.setIfInBounds_toArray,List.set_cons_zero,List.set_cons_succ,i64_w,i32_w]
      rfl
     refine pure_ (i:=2) (N:=some 35) (v:=?_) (a':=?_) #[false,true,true,false,false,false,false,false,false,false,false,false,false,false,false,false] rfl rfl (by kernel_rfl) (fun _ _ _ h => h) (Or.inl ⟨by rfl,?_⟩) ?_ ?_
     rotate_left
     ·intro w'
      go_simp
      with_reducible rfl
     rotate_left
     ·simp only [Act.put,List.setIfInBounds_toArray,List.set_cons_zero,List.set_cons_succ,i64_w,i32_w]
      rfl
     refine pure_ (i:=5) (N:=some 38) (v:=?_) (a':=?_) #[false,true,true,false,false,true,false,false,false,false,false,false,false,false,false,false] rfl rfl (by kernel_rfl) (fun _ _ _ h => h) (Or.inl ⟨by rfl,?_⟩) ?_ ?_
     rotate_left
     ·intro w'
      go_simp
      with_reducible rfl
     rotate_left
     ·simp only [Act.put,List.setIfInBounds_toArray,List.set_cons_zero,List.set_cons_succ,i64_w,i32_w]
      rfl
     refine pure_ (i:=6) (N:=some 39) (v:=?_) (a':=?_) #[false,true,true,false,false,true,true,false,false,false,false,false,false,false,false,false] rfl rfl (by kernel_rfl) (fun _ _ _ h => h) (Or.inl ⟨by rfl,?_⟩) ?_ ?_
     rotate_left
     ·intro w'
      go_simp
      with_reducible rfl
     rotate_left
     ·simp only [Act.put,List.setIfInBounds_toArray,List.set_cons_zero,List.set_cons_succ,i64_w,i32_w]
      rfl
     refine pure_ (i:=7) (N:=some 40) (v:=?_) (a':=?_) #[false,true,true,false,false,true,true,true,false,false,false,false,false,false,false,false] rfl rfl (by kernel_rfl) (fun _ _ _ h => h) (Or.inl ⟨by rfl,?_⟩) ?_ ?_
     rotate_left
     ·intro w'
      go_simp
      with_reducible rfl
     rotate_left
     ·simp only [Act.put,List.setIfInBounds_toArray,List.set_cons_zero,List.set_cons_succ,i64_w,i32_w]
      rfl
     refine pure_ (i:=11) (N:=some 44) (v:=?_) (a':=?_) #[false,true,true,false,false,true,true,true,false,false,false,true,false,false,false,false] rfl rfl (by kernel_rfl) (fun _ _ _ h => h) (Or.inl ⟨by rfl,?_⟩) ?_ ?_
     rotate_left
     ·intro w'
      go_simp
      with_reducible rfl
     rotate_left
     ·simp only [Act.put,List.setIfInBounds_toArray,List.set_cons_zero,List.set_cons_succ,i64_w,i32_w]
      rfl
     refine pure_ (i:=12) (N:=some 45) (v:=?_) (a':=?_) #[false,true,true,false,false,true,true,true,false,false,false,true,true,false,false,false] rfl rfl (by kernel_rfl) (fun _ _ _ h => h) (Or.inl ⟨by rfl,?_⟩) ?_ ?_
     rotate_left
     ·intro w'
      go_simp
      with_reducible rfl
     rotate_left
     ·simp only [Act.put,List.setIfInBounds_toArray,List.set_cons_zero,List.set_cons_succ,i64_w,i32_w]
      rfl
     refine take_ (i:=3) (N:=some 36) (v:=?_) (a':=?_) #[false,true,true,true,false,true,true,true,false,false,false,true,true,false,false,false] rfl rfl (by kernel_rfl) (fun _ _ _ h => h) (Or.inl ⟨by rfl,?_⟩) hHeld ?_ ?_
     rotate_left
     ·rintro w' s1
      refine (exec_cut_to 31 35 Tryd.underlying31 (.tmp 34) (.tmp 35) rfl (.slice A2 i c2) _ rfl ((0 : Nat) : Int) rfl (hto.out _)).trans ?_
      with_reducible rfl
     rotate_left
     ·simp only [Act.put,List.setIfInBounds_toArray,List.set_cons_zero,List.set_cons_succ,i64_w,i32_w]
      rfl
     refine take_ (i:=8) (N:=some 41) (v:=?_) (a':=?_) #[false,true,true,true,false,true,true,true,true,false,false,true,true,false,false,false] rfl rfl (by kernel_rfl) (fun _ _ _ h => h) (Or.inl ⟨by rfl,?_⟩) hHeld ?_ ?_
     rotate_left
     ·rintro w' s1
      have d0:=C1.out _ (Zf hB2.out s1)
      have d1:=C1b.out _ (Zf hB2.out s1)
      go_simp
      with_reducible rfl
     rotate_left
     ·simp only [Act.put,List.setIfInBounds_toArray,List.set_cons_zero,List.set_cons_succ,i64_w,i32_w]
      rfl
     refine take_ (i:=13) (N:=some 46) (v:=?_) (a':=?_) #[false,true,true,true,false,true,true,true,true,false,false,true,true,true,false,false] rfl rfl (by kernel_rfl) (fun _ _ _ h => h) (Or.inl ⟨by rfl,?_⟩) hHeld ?_ ?_
     rotate_left
     ·rintro w' s1
      refine (exec_cut_from 31 35 Tryd.underlying31 (.tmp 44) (.tmp 45) rfl (.slice A2 i c2) _ rfl ((0 : Nat) : Int) rfl (hfrom.out _)).trans ?_
      with_reducible rfl
     rotate_left
     ·simp only [Act.put,List.setIfInBounds_toArray,List.set_cons_zero,List.set_cons_succ,i64_w,i32_w]
      rfl
     refine join_ (σ:=Value × Value × Value) 3 #[true,true,true,true,true,true,true,true,true,true,false,true,true,true,false,false] (fun s => [(33,s.1),(37,s.2.1),(42,s.2.2)]) (fun s w' => Below wz.heap.size wz w'∧RowT w' wz.heap.size s.2.1 (out.take 0)∧RowT w' wz.heap.size s.2.2 [x]) ?_ ?_
     rotate_left
     ·intro hJ
      refine two_ (i:=0) (j:=9) (Ni:=some 33) (Nj:=some 42) #[true,true,true,true,false,true,true,true,true,false,false,true,true,true,false,false] #[false,true,true,true,false,true,true,true,true,true,false,true,true,true,false,false] rfl rfl rfl rfl (by kernel_rfl) (by decide) (by decide) (fun K hK => ?_) (fun K hK => ?_)
      ·skip
       refine nilT_ wz.heap.size (by rfl) (N:=33) rfl hHeld.size (by first|(go_simp;done)|(go_simp;rfl)) ?_
       intro v0 w0a r0 k0 n0
       try have ne:=RowT.apart r9 n0
       try replace r9:=RowT.below r9 k0
       refine hK.out _ _ (Zf hHeld k0) (fun hHeld => ?_)
       clear hK K
       refine norm_ (a':=?_) ?_ ?_
       rotate_left
       ·show Act.put _ (some 33) _=_
        simp only [Act.put,List.setIfInBounds_toArray,List.set_cons_zero,List.set_cons_succ,i64_w,i32_w]
        rfl
       refine two_ (i:=4) (j:=9) (Ni:=some 37) (Nj:=some 42) #[true,true,true,true,true,true,true,true,true,false,false,true,true,true,false,false] #[true,true,true,true,false,true,true,true,true,true,false,true,true,true,false,false] rfl rfl rfl rfl (by kernel_rfl) (by decide) (by decide) (fun K hK => ?_) (fun K hK => ?_)
       ·skip
        refine appT_ wz.heap.size (by rfl) (.tmp 33) (.tmp 36) rfl v0 [] (out.take 0) A2 0 c2 rfl rfl r0 (Kd.C_below HCt.out hHeld) hHeld.size (by have:=hpi;have:=hl;have:=Holen.out;simp only [List.length_append,List.length_take,List.length_drop,List.length_nil,List.length_cons];omega) ?_
        intro v4 w4 r4 k4 g4 n4
        try replace B0:=B0.after hbc
        rw [List.nil_append] at r4
        try replace r9:=RowT.other r9 g4 ne
        refine hK.out _ _ (hHeld.trans k4) (fun hHeld => ?_)
        clear hK K
        refine norm_ (a':=?_) ?_ ?_
        rotate_left
        ·show Act.put _ (some 37) _=_
         simp only [Act.put,List.setIfInBounds_toArray,List.set_cons_zero,List.set_cons_succ,i64_w,i32_w]
         rfl
        refine one_ (i:=9) (N:=some 42) #[true,true,true,true,true,true,true,true,true,true,false,true,true,true,false,false] rfl rfl (by kernel_rfl) (by decide) (fun K hK => ?_)
        refine oneT_ wz.heap.size (by rfl) (N:=42) rfl x hHeld.size (by first|(go_simp;done)|(go_simp;rfl)) ?_
        intro v9 w9 r9 k9 n9
        try replace B0:=B0.after hbc
        try replace B4:=B4.after hbc
        try have ne:=RowT.apart2 r0 n9
        try replace r4:=RowT.below r4 k9
        try replace r0:=RowT.below r0 k9
        refine hK.out _ _ (Zf hHeld k9) (fun hHeld => ?_)
        clear hK K
        refine norm_ (a':=?_) ?_ ?_
        rotate_left
        ·show Act.put _ (some 42) _=_
         simp only [Act.put,List.setIfInBounds_toArray,List.set_cons_zero,List.set_cons_succ,i64_w,i32_w]
         rfl
        exact norm_ (by simp only [putAll,Act.put,List.setIfInBounds_toArray,List.set_cons_zero,List.set_cons_succ]) (hJ (v0,v4,v9) _ ⟨hHeld,r4,r9⟩)
       ·skip
        refine oneT_ wz.heap.size (by rfl) (N:=42) rfl x hHeld.size (by first|(go_simp;done)|(go_simp;rfl)) ?_
        intro v9 w9 r9 k9 n9
        try replace B0:=B0.after hbc
        try have ne:=RowT.apart2 r0 n9
        try replace r4:=RowT.below r4 k9
        try replace r0:=RowT.below r0 k9
        refine hK.out _ _ (Zf hHeld k9) (fun hHeld => ?_)
        clear hK K
        refine norm_ (a':=?_) ?_ ?_
        rotate_left
        ·show Act.put _ (some 42) _=_
         simp only [Act.put,List.setIfInBounds_toArray,List.set_cons_zero,List.set_cons_succ,i64_w,i32_w]
         rfl
        refine one_ (i:=4) (N:=some 37) #[true,true,true,true,true,true,true,true,true,true,false,true,true,true,false,false] rfl rfl (by kernel_rfl) (by decide) (fun K hK => ?_)
        refine appT_ wz.heap.size (by rfl) (.tmp 33) (.tmp 36) rfl v0 [] (out.take 0) A2 0 c2 rfl rfl r0 (Kd.C_below HCt.out hHeld) hHeld.size (by have:=hpi;have:=hl;have:=Holen.out;simp only [List.length_append,List.length_take,List.length_drop,List.length_nil,List.length_cons];omega) ?_
        intro v4 w4 r4 k4 g4 n4
        try replace B0:=B0.after hbc
        try replace B9:=B9.after hbc
        rw [List.nil_append] at r4
        try replace r9:=RowT.other r9 g4 ne
        refine hK.out _ _ (hHeld.trans k4) (fun hHeld => ?_)
        clear hK K
        refine norm_ (a':=?_) ?_ ?_
        rotate_left
        ·show Act.put _ (some 37) _=_
         simp only [Act.put,List.setIfInBounds_toArray,List.set_cons_zero,List.set_cons_succ,i64_w,i32_w]
         rfl
        exact norm_ (by simp only [putAll,Act.put,List.setIfInBounds_toArray,List.set_cons_zero,List.set_cons_succ]) (hJ (v0,v4,v9) _ ⟨hHeld,r4,r9⟩)
      ·skip
       refine oneT_ wz.heap.size (by rfl) (N:=42) rfl x hHeld.size (by first|(go_simp;done)|(go_simp;rfl)) ?_
       intro v9 w9 r9 k9 n9
       try have ne:=RowT.apart2 r0 n9
       try replace r4:=RowT.below r4 k9
       try replace r0:=RowT.below r0 k9
       refine hK.out _ _ (Zf hHeld k9) (fun hHeld => ?_)
       clear hK K
       refine norm_ (a':=?_) ?_ ?_
       rotate_left
       ·show Act.put _ (some 42) _=_
        simp only [Act.put,List.setIfInBounds_toArray,List.set_cons_zero,List.set_cons_succ,i64_w,i32_w]
        rfl
       refine one_ (i:=0) (N:=some 33) #[true,true,true,true,false,true,true,true,true,true,false,true,true,true,false,false] rfl rfl (by kernel_rfl) (by decide) (fun K hK => ?_)
       refine nilT_ wz.heap.size (by rfl) (N:=33) rfl hHeld.size (by first|(go_simp;done)|(go_simp;rfl)) ?_
       intro v0 w0a r0 k0 n0
       try replace B9:=B9.after hbc
       try have ne:=RowT.apart r9 n0
       try replace r9:=RowT.below r9 k0
       refine hK.out _ _ (Zf hHeld k0) (fun hHeld => ?_)
       clear hK K
       refine norm_ (a':=?_) ?_ ?_
       rotate_left
       ·show Act.put _ (some 33) _=_
        simp only [Act.put,List.setIfInBounds_toArray,List.set_cons_zero,List.set_cons_succ,i64_w,i32_w]
        rfl
       refine one_ (i:=4) (N:=some 37) #[true,true,true,true,true,true,true,true,true,true,false,true,true,true,false,false] rfl rfl (by kernel_rfl) (by decide) (fun K hK => ?_)
       refine appT_ wz.heap.size (by rfl) (.tmp 33) (.tmp 36) rfl v0 [] (out.take 0) A2 0 c2 rfl rfl r0 (Kd.C_below HCt.out hHeld) hHeld.size (by have:=hpi;have:=hl;have:=Holen.out;simp only [List.length_append,List.length_take,List.length_drop,List.length_nil,List.length_cons];omega) ?_
       intro v4 w4 r4 k4 g4 n4
       try replace B9:=B9.after hbc
       try replace B0:=B0.after hbc
       rw [List.nil_append] at r4
       try replace r9:=RowT.other r9 g4 ne
       refine hK.out _ _ (hHeld.trans k4) (fun hHeld => ?_)
       clear hK K
       refine norm_ (a':=?_) ?_ ?_
       rotate_left
       ·show Act.put _ (some 37) _=_
        simp only [Act.put,List.setIfInBounds_toArray,List.set_cons_zero,List.set_cons_succ,i64_w,i32_w]
        rfl
       exact norm_ (by simp only [putAll,Act.put,List.setIfInBounds_toArray,List.set_cons_zero,List.set_cons_succ]) (hJ (v0,v4,v9) _ ⟨hHeld,r4,r9⟩)
     rintro ⟨v0,v4,v9⟩ wf ⟨hHeld,r4,r9⟩
     dsimp only at r4 r9
     obtain ⟨A9,c9,rfl,-,hC9⟩:=Kd.R_reads r9
     refine norm_ (a':=?_) ?_ ?_
     rotate_left
     ·simp only [putAll,Act.put,List.setIfInBounds_toArray,List.set_cons_zero,List.set_cons_succ]
      rfl
     refine one_ (i:=10) (N:=some 43) #[true,true,true,true,true,true,true,true,true,true,true,true,true,true,false,false] rfl rfl (by kernel_rfl) (by decide) (fun K hK => ?_)
     refine appT_ wz.heap.size (by rfl) (.tmp 37) (.tmp 42) rfl v4 (out.take 0) [x] A9 1 c9 rfl rfl r4 hC9 hHeld.size (by have:=hpi;have:=hl;have:=Holen.out;simp only [List.length_append,List.length_take,List.length_drop,List.length_nil,List.length_cons];omega) ?_
     intro v10 w10 r10 k10 g10 n10
     refine hK.out _ _ (hHeld.trans k10) (fun hHeld => ?_)
     clear hK K
     refine norm_ (a':=?_) ?_ ?_
     rotate_left
     ·show Act.put _ (some 43) _=_
      simp only [Act.put,List.setIfInBounds_toArray,List.set_cons_zero,List.set_cons_succ,i64_w,i32_w]
      rfl
     refine one_ (i:=14) (N:=some 47) #[true,true,true,true,true,true,true,true,true,true,true,true,true,true,true,false] rfl rfl (by kernel_rfl) (by decide) (fun K hK => ?_)
     refine appT_ wz.heap.size (by rfl) (.tmp 43) (.tmp 46) rfl v10 (out.take 0++[x]) (out.drop 0) A3 (i - 0) (c2 - 0) rfl rfl r10 (Kd.C_below HCd.out hHeld) hHeld.size (by have:=hpi;have:=hl;have:=Holen.out;simp only [List.length_append,List.length_take,List.length_drop,List.length_nil,List.length_cons];omega) ?_
     intro v14 w14 r14 k14 g14 n14
     refine hK.out _ _ (hHeld.trans k14) (fun hHeld => ?_)
     clear hK K
     refine norm_ (a':=?_) ?_ ?_
     rotate_left
     ·show Act.put _ (some 47) _=_
      simp only [Act.put,List.setIfInBounds_toArray,List.set_cons_zero,List.set_cons_succ,i64_w,i32_w]
      rfl
     refine pure_ (i:=15) (N:=some 3) (v:=?_) (a':=?_) #[true,true,true,true,true,true,true,true,true,true,true,true,true,true,true,true] rfl rfl (by kernel_rfl) (fun _ _ _ h => h) (Or.inl ⟨by rfl,?_⟩) ?_ ?_
     rotate_left
     ·intro w'
      go_simp
      with_reducible rfl
     rotate_left
     ·simp only [Act.put,List.setIfInBounds_toArray,List.set_cons_zero,List.set_cons_succ,i64_w,i32_w]
      rfl
     refine done_ (by kernel_rfl) ?_
     have hr3:=Lib.hid (Kd.R_lower (Hend.out ▸ r14) hB2.out.size)
     have hb3:=Lib.hid (Zf hB2.out hHeld)
     clear r14 k14 g14 n14 hHeld hR2 hB2
     go_wp2
     exact ⟨⟨i + 1,by first|rfl|(congr 1;done)|(congr 1;omega),by omega,hr3,hb3⟩,by simp [intOf];omega⟩
    | succ k =>
     have hkl : k < out.length:=by have:=Holen.out;omega
     obtain ⟨y,hy⟩ : ∃ y,y=out[k]:=⟨_,rfl⟩
     obtain ⟨p,hp⟩ : ∃ p : Nat,p=k + 1:=⟨_,rfl⟩
     have hjw : wrap64 ((p : Int) - 1)=(k : Int):=by unfold wrap64;omega
     have hjw2 : IntKind.i64.wrap ((p : Int) - 1)=(k : Int):=(i64_w _).trans hjw
     have hd2 : decide ((p : Int) > (0 : Int))=true:=decide_eq_true (by omega)
     have hil : i < l.length:=hlt
     have hki2 : k < i:=by omega
     have hpi : p≤i:=by omega
     have c2x : ∀ W,RowT W w.heap.size (.slice A2 i c2) out→∃ ad,A2=some ad∧W.cell? (ad.add (k * 2))=some (.string y.f0):=fun W hW => by
      obtain ⟨h1,h2,h3⟩:=Kd.R_reads' hW
      obtain ⟨ad,e,p0,p1⟩:=at_T35 h3 (k : Int) (by omega) (by omega)
      rw [rd_atR out k hkl,← hy,Int.toNat_natCast] at p0
      exact ⟨ad,e,p0⟩
     obtain ⟨ad2,rfl,-⟩:=c2x _ hR.out
     have C2 : Hid (∀ W,RowT W w.heap.size (.slice (some ad2) i c2) out→W.cell? (ad2.add (k * 2))=some (.string y.f0)):=Lib.hid fun W hW => by obtain ⟨ad,e,h⟩:=c2x W hW;obtain rfl:=Option.some.inj e;exact h
     have hpy : y.f0.size≤16777216:=Hmem.out y (by rw [hy];exact List.getElem_mem _)
     have Hle:=Lib.hid (Ky.less_is x.f0 y.f0 hpx hpy)
     have Hno : Hid (ltR x y=false→out.take p++[x]++out.drop p=srt ltR (l.take (i + 1))):=Lib.hid fun h => Hfin.out p hpi (fun _ z hz => by
      rw [hp,Nat.add_sub_cancel,List.getElem?_eq_getElem hkl] at hz
      obtain rfl:=Option.some.inj hz
      rw [← hy];exact h) (by rw [hp];exact hK.out)
     have Hyes : Hid (ltR x y=true→∀ q ∈ out.drop k,ltR x q=true):=Lib.hid fun h q hq => by
      rw [List.drop_eq_getElem_cons hkl] at hq
      rcases List.mem_cons.1 hq with rfl|hq
      ·rw [← hy];exact h
      ·exact hK.out q hq
     have hjs : ((k + 1 : Nat) : Int)=(p : Int):=by omega
     have Hp:=Lib.hid hp
     rw [hjs]
     clear c2x hy hp hjs hpx hpy hK
     go_wp2_with fail
     refine start_ (n:=16) (S:=(fun w' => RowT w' w.heap.size (.slice (some ad2) i c2) out∧Below w.heap.size w w')) (ds:=[]) #[false,false,false,false,false,false,false,false,false,false,false,false,false,false,false,false] (by kernel_rfl) rfl rfl ⟨Kd.Zt hR.out,Zc hB.out⟩ (fun hHeld => ?_)
     refine pure_ (i:=0) (N:=some 15) (v:=?_) (a':=?_) #[true,false,false,false,false,false,false,false,false,false,false,false,false,false,false,false] rfl rfl (by kernel_rfl) (fun _ _ _ h => h) (Or.inl ⟨by rfl,?_⟩) ?_ ?_
     rotate_left
     ·intro w'
      go_simp
      with_reducible rfl
     rotate_left
     ·simp only [Act.put,List.setIfInBounds_toArray,List.set_cons_zero,List.set_cons_succ,i64_w,i32_w]
      rfl
     refine take_ (i:=1) (N:=some 16) (v:=?_) (a':=?_) #[true,true,false,false,false,false,false,false,false,false,false,false,false,false,false,false] rfl rfl (by kernel_rfl) (fun _ _ _ h => h) (Or.inl ⟨by rfl,?_⟩) hHeld ?_ ?_
     rotate_left
     ·rintro w' ⟨s1,s2⟩
      refine (exec_gtr 3 3 (.tmp 15) (.const (.int .i64 0)) (p : Int) (0 : Int) rfl rfl rfl hd2).trans ?_
      with_reducible rfl
     rotate_left
     ·simp only [Act.put,List.setIfInBounds_toArray,List.set_cons_zero,List.set_cons_succ,i64_w,i32_w]
      rfl
     refine pure_ (i:=2) (N:=some 17) (v:=?_) (a':=?_) #[true,true,true,false,false,false,false,false,false,false,false,false,false,false,false,false] rfl rfl (by kernel_rfl) (fun _ _ _ h => h) (Or.inl ⟨by rfl,?_⟩) ?_ ?_
     rotate_left
     ·intro w'
      go_simp
      with_reducible rfl
     rotate_left
     ·simp only [Act.put,List.setIfInBounds_toArray,List.set_cons_zero,List.set_cons_succ,i64_w,i32_w]
      rfl
     refine pure_ (i:=3) (N:=some 18) (v:=?_) (a':=?_) #[true,true,true,true,false,false,false,false,false,false,false,false,false,false,false,false] rfl rfl (by kernel_rfl) (fun _ _ _ h => h) (Or.inl ⟨by rfl,?_⟩) ?_ ?_
     rotate_left
     ·intro w'
      go_simp
      with_reducible rfl
     rotate_left
     ·simp only [Act.put,List.setIfInBounds_toArray,List.set_cons_zero,List.set_cons_succ,i64_w,i32_w]
      rfl
     refine pure_ (i:=4) (N:=some 19) (v:=?_) (a':=?_) #[true,true,true,true,true,false,false,false,false,false,false,false,false,false,false,false] rfl rfl (by kernel_rfl) (fun _ _ _ h => h) (Or.inl ⟨by rfl,?_⟩) ?_ ?_
     rotate_left
     ·intro w'
      go_simp
      with_reducible rfl
     rotate_left
     ·simp only [Act.put,List.setIfInBounds_toArray,List.set_cons_zero,List.set_cons_succ,i64_w,i32_w]
      rfl
     refine pure_ (i:=5) (N:=some 20) (v:=?_) (a':=?_) #[true,true,true,true,true,true,false,false,false,false,false,false,false,false,false,false] rfl rfl (by kernel_rfl) (fun _ _ _ h => h) (Or.inl ⟨by rfl,?_⟩) ?_ ?_
     rotate_left
     ·intro w'
      go_simp
      with_reducible rfl
     rotate_left
     ·simp only [Act.put,List.setIfInBounds_toArray,List.set_cons_zero,List.set_cons_succ,i64_w,i32_w]
      rfl
     refine pure_ (i:=6) (N:=some 21) (v:=?_) (a':=?_) #[true,true,true,true,true,true,true,false,false,false,false,false,false,false,false,false] rfl rfl (by kernel_rfl) (fun _ _ _ h => h) (Or.inl ⟨by rfl,?_⟩) ?_ ?_
     rotate_left
     ·intro w'
      go_simp
      with_reducible rfl
     rotate_left
     ·simp only [Act.put,List.setIfInBounds_toArray,List.set_cons_zero,List.set_cons_succ,i64_w,i32_w]
      rfl
     refine pure_ (i:=8) (N:=some 23) (v:=?_) (a':=?_) #[true,true,true,true,true,true,true,false,true,false,false,false,false,false,false,false] rfl rfl (by kernel_rfl) (fun _ _ _ h => h) (Or.inl ⟨by rfl,?_⟩) ?_ ?_
     rotate_left
     ·intro w'
      go_simp
      with_reducible rfl
     rotate_left
     ·simp only [Act.put,List.setIfInBounds_toArray,List.set_cons_zero,List.set_cons_succ,i64_w,i32_w]
      rfl
     refine pure_ (i:=9) (N:=some 24) (v:=?_) (a':=?_) #[true,true,true,true,true,true,true,false,true,true,false,false,false,false,false,false] rfl rfl (by kernel_rfl) (fun _ _ _ h => h) (Or.inl ⟨by rfl,?_⟩) ?_ ?_
     rotate_left
     ·intro w'
      go_simp
      with_reducible rfl
     rotate_left
     ·simp only [Act.put,List.setIfInBounds_toArray,List.set_cons_zero,List.set_cons_succ,i64_w,i32_w]
      rfl
     refine pure_ (i:=10) (N:=some 25) (v:=?_) (a':=?_) #[true,true,true,true,true,true,true,false,true,true,true,false,false,false,false,false] rfl rfl (by kernel_rfl) (fun _ _ _ h => h) (Or.inl ⟨by rfl,?_⟩) ?_ ?_
     rotate_left
     ·intro w'
      go_simp
      with_reducible rfl
     rotate_left
     ·simp only [Act.put,List.setIfInBounds_toArray,List.set_cons_zero,List.set_cons_succ,i64_w,i32_w]
      rfl
     refine pure_ (i:=11) (N:=some 26) (v:=?_) (a':=?_) #[true,true,true,true,true,true,true,false,true,true,true,true,false,false,false,false] rfl rfl (by kernel_rfl) (fun _ _ _ h => h) (Or.inl ⟨by rfl,?_⟩) ?_ ?_
     rotate_left
     ·intro w'
      go_simp
      with_reducible rfl
     rotate_left
     ·simp only [Act.put,List.setIfInBounds_toArray,List.set_cons_zero,List.set_cons_succ,i64_w,i32_w]
      rfl
     refine pure_ (i:=12) (N:=some 27) (v:=?_) (a':=?_) #[true,true,true,true,true,true,true,false,true,true,true,true,true,false,false,false] rfl rfl (by kernel_rfl) (fun _ _ _ h => h) (Or.inl ⟨by rfl,?_⟩) ?_ ?_
     rotate_left
     ·intro w'
      go_simp
      with_reducible rfl
     rotate_left
     ·simp only [Act.put,List.setIfInBounds_toArray,List.set_cons_zero,List.set_cons_succ,i64_w,i32_w]
      rfl
     refine take_ (i:=7) (N:=some 22) (v:=?_) (a':=?_) #[true,true,true,true,true,true,true,true,true,true,true,true,true,false,false,false] rfl rfl (by kernel_rfl) (fun _ _ _ h => h) (Or.inl ⟨by rfl,?_⟩) hHeld ?_ ?_
     rotate_left
     ·rintro w' ⟨s1,s2⟩
      have d0:=C1.out _ s2
      have e0:=C2.out _ s1
      go_simp
      with_reducible rfl
     rotate_left
     ·simp only [Act.put,List.setIfInBounds_toArray,List.set_cons_zero,List.set_cons_succ,i64_w,i32_w]
      rfl
     refine take_ (i:=13) (N:=some 28) (v:=?_) (a':=?_) #[true,true,true,true,true,true,true,true,true,true,true,true,true,true,false,false] rfl rfl (by kernel_rfl) (fun _ _ _ h => h) (Or.inl ⟨by rfl,?_⟩) hHeld ?_ ?_
     rotate_left
     ·rintro w' ⟨s1,s2⟩
      have d0:=C1.out _ s2
      have e0:=C2.out _ s1
      go_simp
      with_reducible rfl
     rotate_left
     ·simp only [Act.put,List.setIfInBounds_toArray,List.set_cons_zero,List.set_cons_succ,i64_w,i32_w]
      rfl
     refine one_ (i:=14) (N:=some 29) #[true,true,true,true,true,true,true,true,true,true,true,true,true,true,true,false] rfl rfl (by kernel_rfl) (by decide) (fun K hK => ?_)
     refine goes_ Tryd.func59 (by kernel_rfl) rfl #[.string x.f0,.string y.f0] (by rfl) rfl rfl (by first|rfl|(simp only [List.map_toArray,List.map_cons,List.map_nil];done)|(simp only [List.map_toArray,List.map_cons,List.map_nil];rfl)) ?_
     refine (Go.Proofs.YtfbgmlophkbejaaDoorQ.Pas.Zh.calls 2147483648 x.f0 y.f0 _ _ Hle.out).mono ?_
     rintro _ w3 ⟨rfl,hb3⟩
     refine ⟨_,rfl,?_⟩
     refine hK.out _ _ (⟨Kd.R_below hHeld.1 hb3,Zf hHeld.2 hb3⟩) (fun hHeld => ?_)
     clear hK K
     refine norm_ (a':=?_) ?_ ?_
     rotate_left
     ·show Act.put _ (some 29) _=_
      simp only [Act.put,List.setIfInBounds_toArray,List.set_cons_zero,List.set_cons_succ,i64_w,i32_w]
      rfl
     refine pure_ (i:=15) (N:=some 30) (v:=?_) (a':=?_) #[true,true,true,true,true,true,true,true,true,true,true,true,true,true,true,true] rfl rfl (by kernel_rfl) (fun _ _ _ h => h) (Or.inl ⟨by rfl,?_⟩) ?_ ?_
     rotate_left
     ·intro w'
      go_simp
      with_reducible rfl
     rotate_left
     ·simp only [Act.put,List.setIfInBounds_toArray,List.set_cons_zero,List.set_cons_succ,i64_w,i32_w]
      rfl
     refine done_ (by kernel_rfl) ?_
     have hR2:=Lib.hid hHeld.1
     have hB2:=Lib.hid hHeld.2
     cases hc : Ky.ltK x.f0 y.f0 with
     | true =>
      have hy2:=Lib.hid (Hyes.out hc)
      clear hc hHeld hR hB Hyes Hno
      go_wp2
      exact ⟨⟨k,rfl,by omega,hy2,hR2,hB2⟩,by have:=Hp.out;simp [intOf];omega⟩
     | false =>
      have Hend:=Lib.hid (Hno.out hc)
      clear hc hHeld hR hB Hyes Hno
      go_wp2_with fail
      have hcc2:=(Kd.R_reads' hR2.out).2.1
      have HC3 : Hid (Kd.C k35 w3 (some ad2) out.length out):=Lib.hid (Kd.R_reads' hR2.out).2.2
      have HCt : Hid (Kd.C k35 w3 (some ad2) p (out.take p)):=Lib.hid (by have:=Kd.C_take HC3.out (m:=p) (by rw [Holen.out];exact hpi);rwa [show (out.take p).length=p by rw [List.length_take,Holen.out];omega] at this)
      obtain ⟨A3,hA3⟩ : ∃ A3,A3=(if c2=p then (some ad2) else (some ad2).map (·.add (p * 2))):=⟨_,rfl⟩
      have HCd : Hid (Kd.C k35 w3 A3 (i - p) (out.drop p)):=Lib.hid (by have h:=Kd.C_drop (c:=c2) HC3.out (m:=p) (by rw [Holen.out];exact hpi) (by rw [Holen.out];exact hcc2);rw [show (out.drop p).length=i - p by rw [List.length_drop,Holen.out]] at h;rw [hA3];exact h)
      obtain ⟨i0,hi0,hzz⟩:=Option.map_eq_some_iff.1 info_rfl
      simp only [Prod.mk.injEq] at hzz
      have hto : Hid (∀ W : World,(Instr.slice 31 (.slice (some ad2) i c2) none (some (.int .i64 (p : Int))) none).run Tryd.prog W=.ok (.slice (some ad2) p c2) W):=Lib.hid (by have h:=cut_to 31 35 .i64 Tryd.underlying31 hi0 (some ad2) i c2 (p : Int) (by omega) (by omega) hcc2;rw [show ((p : Int)).toNat=p from by omega] at h;exact h)
      have hfrom : Hid (∀ W : World,(Instr.slice 31 (.slice (some ad2) i c2) (some (.int .i64 (p : Int))) none none).run Tryd.prog W=.ok (.slice A3 (i - p) (c2 - p)) W):=Lib.hid (by have h:=cut_from 31 35 .i64 Tryd.underlying31 hi0 2 hzz.2.1 (some ad2) i c2 (p : Int) (by omega) (by omega);rw [show ((p : Int)).toNat=p from by omega,← hA3] at h;exact h)
      clear hA3 hi0 hzz HC3
      go_wp2_with fail
      refine start_ (n:=16) (S:=(fun w' => Below w3.heap.size w3 w')) (ds:=[]) #[false,false,false,false,false,false,false,false,false,false,false,false,false,false,false,false] (by kernel_rfl) rfl rfl (Zc (Below.refl _ _)) (fun hHeld => ?_)
      refine pure_ (i:=1) (N:=some 34) (v:=?_) (a':=?_) #[false,true,false,false,false,false,false,false,false,false,false,false,false,false,false,false] rfl rfl (by kernel_rfl) (fun _ _ _ h => h) (Or.inl ⟨by rfl,?_⟩) ?_ ?_
      rotate_left
      ·intro w'
       go_simp
       with_reducible rfl
      rotate_left
      ·simp only [Act.put,List.setIfInBounds_toArray,List.set_cons_zero,List.set_cons_succ,i64_w,i32_w]
       rfl
      refine pure_ (i:=2) (N:=some 35) (v:=?_) (a':=?_) #[false,true,true,false,false,false,false,false,false,false,false,false,false,false,false,false] rfl rfl (by kernel_rfl) (fun _ _ _ h => h) (Or.inl ⟨by rfl,?_⟩) ?_ ?_
      rotate_left
      ·intro w'
       go_simp
       with_reducible rfl
      rotate_left
      ·simp only [Act.put,List.setIfInBounds_toArray,List.set_cons_zero,List.set_cons_succ,i64_w,i32_w]
       rfl
      refine pure_ (i:=5) (N:=some 38) (v:=?_) (a':=?_) #[false,true,true,false,false,true,false,false,false,false,false,false,false,false,false,false] rfl rfl (by kernel_rfl) (fun _ _ _ h => h) (Or.inl ⟨by rfl,?_⟩) ?_ ?_
      rotate_left
      ·intro w'
       go_simp
       with_reducible rfl
      rotate_left
      ·simp only [Act.put,List.setIfInBounds_toArray,List.set_cons_zero,List.set_cons_succ,i64_w,i32_w]
       rfl
      refine pure_ (i:=6) (N:=some 39) (v:=?_) (a':=?_) #[false,true,true,false,false,true,true,false,false,false,false,false,false,false,false,false] rfl rfl (by kernel_rfl) (fun _ _ _ h => h) (Or.inl ⟨by rfl,?_⟩) ?_ ?_
      rotate_left
      ·intro w'
       go_simp
       with_reducible rfl
      rotate_left
      ·simp only [Act.put,List.setIfInBounds_toArray,List.set_cons_zero,List.set_cons_succ,i64_w,i32_w]
       rfl
      refine pure_ (i:=7) (N:=some 40) (v:=?_) (a':=?_) #[false,true,true,false,false,true,true,true,false,false,false,false,false,false,false,false] rfl rfl (by kernel_rfl) (fun _ _ _ h => h) (Or.inl ⟨by rfl,?_⟩) ?_ ?_
      rotate_left
      ·intro w'
       go_simp
       with_reducible rfl
      rotate_left
      ·simp only [Act.put,List.setIfInBounds_toArray,List.set_cons_zero,List.set_cons_succ,i64_w,i32_w]
       rfl
      refine pure_ (i:=11) (N:=some 44) (v:=?_) (a':=?_) #[false,true,true,false,false,true,true,true,false,false,false,true,false,false,false,false] rfl rfl (by kernel_rfl) (fun _ _ _ h => h) (Or.inl ⟨by rfl,?_⟩) ?_ ?_
      rotate_left
      ·intro w'
       go_simp
       with_reducible rfl
      rotate_left
      ·simp only [Act.put,List.setIfInBounds_toArray,List.set_cons_zero,List.set_cons_succ,i64_w,i32_w]
       rfl
      refine pure_ (i:=12) (N:=some 45) (v:=?_) (a':=?_) #[false,true,true,false,false,true,true,true,false,false,false,true,true,false,false,false] rfl rfl (by kernel_rfl) (fun _ _ _ h => h) (Or.inl ⟨by rfl,?_⟩) ?_ ?_
      rotate_left
      ·intro w'
       go_simp
       with_reducible rfl
      rotate_left
      ·simp only [Act.put,List.setIfInBounds_toArray,List.set_cons_zero,List.set_cons_succ,i64_w,i32_w]
       rfl
      refine take_ (i:=3) (N:=some 36) (v:=?_) (a':=?_) #[false,true,true,true,false,true,true,true,false,false,false,true,true,false,false,false] rfl rfl (by kernel_rfl) (fun _ _ _ h => h) (Or.inl ⟨by rfl,?_⟩) hHeld ?_ ?_
      rotate_left
      ·rintro w' s1
       refine (exec_cut_to 31 35 Tryd.underlying31 (.tmp 34) (.tmp 35) rfl (.slice (some ad2) i c2) _ rfl (p : Int) rfl (hto.out _)).trans ?_
       with_reducible rfl
      rotate_left
      ·simp only [Act.put,List.setIfInBounds_toArray,List.set_cons_zero,List.set_cons_succ,i64_w,i32_w]
       rfl
      refine take_ (i:=8) (N:=some 41) (v:=?_) (a':=?_) #[false,true,true,true,false,true,true,true,true,false,false,true,true,false,false,false] rfl rfl (by kernel_rfl) (fun _ _ _ h => h) (Or.inl ⟨by rfl,?_⟩) hHeld ?_ ?_
      rotate_left
      ·rintro w' s1
       have d0:=C1.out _ (Zf hB2.out s1)
       have d1:=C1b.out _ (Zf hB2.out s1)
       go_simp
       with_reducible rfl
      rotate_left
      ·simp only [Act.put,List.setIfInBounds_toArray,List.set_cons_zero,List.set_cons_succ,i64_w,i32_w]
       rfl
      refine take_ (i:=13) (N:=some 46) (v:=?_) (a':=?_) #[false,true,true,true,false,true,true,true,true,false,false,true,true,true,false,false] rfl rfl (by kernel_rfl) (fun _ _ _ h => h) (Or.inl ⟨by rfl,?_⟩) hHeld ?_ ?_
      rotate_left
      ·rintro w' s1
       refine (exec_cut_from 31 35 Tryd.underlying31 (.tmp 44) (.tmp 45) rfl (.slice (some ad2) i c2) _ rfl (p : Int) rfl (hfrom.out _)).trans ?_
       with_reducible rfl
      rotate_left
      ·simp only [Act.put,List.setIfInBounds_toArray,List.set_cons_zero,List.set_cons_succ,i64_w,i32_w]
       rfl
      refine join_ (σ:=Value × Value × Value) 3 #[true,true,true,true,true,true,true,true,true,true,false,true,true,true,false,false] (fun s => [(33,s.1),(37,s.2.1),(42,s.2.2)]) (fun s w' => Below w3.heap.size w3 w'∧RowT w' w3.heap.size s.2.1 (out.take p)∧RowT w' w3.heap.size s.2.2 [x]) ?_ ?_
      rotate_left
      ·intro hJ
       refine two_ (i:=0) (j:=9) (Ni:=some 33) (Nj:=some 42) #[true,true,true,true,false,true,true,true,true,false,false,true,true,true,false,false] #[false,true,true,true,false,true,true,true,true,true,false,true,true,true,false,false] rfl rfl rfl rfl (by kernel_rfl) (by decide) (by decide) (fun K hK => ?_) (fun K hK => ?_)
       ·skip
        refine nilT_ w3.heap.size (by rfl) (N:=33) rfl hHeld.size (by first|(go_simp;done)|(go_simp;rfl)) ?_
        intro v0 w0a r0 k0 n0
        try have ne:=RowT.apart r9 n0
        try replace r9:=RowT.below r9 k0
        refine hK.out _ _ (Zf hHeld k0) (fun hHeld => ?_)
        clear hK K
        refine norm_ (a':=?_) ?_ ?_
        rotate_left
        ·show Act.put _ (some 33) _=_
         simp only [Act.put,List.setIfInBounds_toArray,List.set_cons_zero,List.set_cons_succ,i64_w,i32_w]
         rfl
        refine two_ (i:=4) (j:=9) (Ni:=some 37) (Nj:=some 42) #[true,true,true,true,true,true,true,true,true,false,false,true,true,true,false,false] #[true,true,true,true,false,true,true,true,true,true,false,true,true,true,false,false] rfl rfl rfl rfl (by kernel_rfl) (by decide) (by decide) (fun K hK => ?_) (fun K hK => ?_)
        ·skip
         refine appT_ w3.heap.size (by rfl) (.tmp 33) (.tmp 36) rfl v0 [] (out.take p) (some ad2) p c2 rfl rfl r0 (Kd.C_below HCt.out hHeld) hHeld.size (by have:=hpi;have:=hl;have:=Holen.out;simp only [List.length_append,List.length_take,List.length_drop,List.length_nil,List.length_cons];omega) ?_
         intro v4 w4 r4 k4 g4 n4
         try replace B0:=B0.after hbc
         rw [List.nil_append] at r4
         try replace r9:=RowT.other r9 g4 ne
         refine hK.out _ _ (hHeld.trans k4) (fun hHeld => ?_)
         clear hK K
         refine norm_ (a':=?_) ?_ ?_
         rotate_left
         ·show Act.put _ (some 37) _=_
          simp only [Act.put,List.setIfInBounds_toArray,List.set_cons_zero,List.set_cons_succ,i64_w,i32_w]
          rfl
         refine one_ (i:=9) (N:=some 42) #[true,true,true,true,true,true,true,true,true,true,false,true,true,true,false,false] rfl rfl (by kernel_rfl) (by decide) (fun K hK => ?_)
         refine oneT_ w3.heap.size (by rfl) (N:=42) rfl x hHeld.size (by first|(go_simp;done)|(go_simp;rfl)) ?_
         intro v9 w9 r9 k9 n9
         try replace B0:=B0.after hbc
         try replace B4:=B4.after hbc
         try have ne:=RowT.apart2 r0 n9
         try replace r4:=RowT.below r4 k9
         try replace r0:=RowT.below r0 k9
         refine hK.out _ _ (Zf hHeld k9) (fun hHeld => ?_)
         clear hK K
         refine norm_ (a':=?_) ?_ ?_
         rotate_left
         ·show Act.put _ (some 42) _=_
          simp only [Act.put,List.setIfInBounds_toArray,List.set_cons_zero,List.set_cons_succ,i64_w,i32_w]
          rfl
         exact norm_ (by simp only [putAll,Act.put,List.setIfInBounds_toArray,List.set_cons_zero,List.set_cons_succ]) (hJ (v0,v4,v9) _ ⟨hHeld,r4,r9⟩)
        ·skip
         refine oneT_ w3.heap.size (by rfl) (N:=42) rfl x hHeld.size (by first|(go_simp;done)|(go_simp;rfl)) ?_
         intro v9 w9 r9 k9 n9
         try replace B0:=B0.after hbc
         try have ne:=RowT.apart2 r0 n9
         try replace r4:=RowT.below r4 k9
         try replace r0:=RowT.below r0 k9
         refine hK.out _ _ (Zf hHeld k9) (fun hHeld => ?_)
         clear hK K
         refine norm_ (a':=?_) ?_ ?_
         rotate_left
         ·show Act.put _ (some 42) _=_
          simp only [Act.put,List.setIfInBounds_toArray,List.set_cons_zero,List.set_cons_succ,i64_w,i32_w]
          rfl
         refine one_ (i:=4) (N:=some 37) #[true,true,true,true,true,true,true,true,true,true,false,true,true,true,false,false] rfl rfl (by kernel_rfl) (by decide) (fun K hK => ?_)
         refine appT_ w3.heap.size (by rfl) (.tmp 33) (.tmp 36) rfl v0 [] (out.take p) (some ad2) p c2 rfl rfl r0 (Kd.C_below HCt.out hHeld) hHeld.size (by have:=hpi;have:=hl;have:=Holen.out;simp only [List.length_append,List.length_take,List.length_drop,List.length_nil,List.length_cons];omega) ?_
         intro v4 w4 r4 k4 g4 n4
         try replace B0:=B0.after hbc
         try replace B9:=B9.after hbc
         rw [List.nil_append] at r4
         try replace r9:=RowT.other r9 g4 ne
         refine hK.out _ _ (hHeld.trans k4) (fun hHeld => ?_)
         clear hK K
         refine norm_ (a':=?_) ?_ ?_
         rotate_left
         ·show Act.put _ (some 37) _=_
          simp only [Act.put,List.setIfInBounds_toArray,List.set_cons_zero,List.set_cons_succ,i64_w,i32_w]
          rfl
         exact norm_ (by simp only [putAll,Act.put,List.setIfInBounds_toArray,List.set_cons_zero,List.set_cons_succ]) (hJ (v0,v4,v9) _ ⟨hHeld,r4,r9⟩)
       ·skip
        refine oneT_ w3.heap.size (by rfl) (N:=42) rfl x hHeld.size (by first|(go_simp;done)|(go_simp;rfl)) ?_
        intro v9 w9 r9 k9 n9
        try have ne:=RowT.apart2 r0 n9
        try replace r4:=RowT.below r4 k9
        try replace r0:=RowT.below r0 k9
        refine hK.out _ _ (Zf hHeld k9) (fun hHeld => ?_)
        clear hK K
        refine norm_ (a':=?_) ?_ ?_
        rotate_left
        ·show Act.put _ (some 42) _=_
         simp only [Act.put,List.setIfInBounds_toArray,List.set_cons_zero,List.set_cons_succ,i64_w,i32_w]
         rfl
        refine one_ (i:=0) (N:=some 33) #[true,true,true,true,false,true,true,true,true,true,false,true,true,true,false,false] rfl rfl (by kernel_rfl) (by decide) (fun K hK => ?_)
        refine nilT_ w3.heap.size (by rfl) (N:=33) rfl hHeld.size (by first|(go_simp;done)|(go_simp;rfl)) ?_
        intro v0 w0a r0 k0 n0
        try replace B9:=B9.after hbc
        try have ne:=RowT.apart r9 n0
        try replace r9:=RowT.below r9 k0
        refine hK.out _ _ (Zf hHeld k0) (fun hHeld => ?_)
        clear hK K
        refine norm_ (a':=?_) ?_ ?_
        rotate_left
        ·show Act.put _ (some 33) _=_
         simp only [Act.put,List.setIfInBounds_toArray,List.set_cons_zero,List.set_cons_succ,i64_w,i32_w]
         rfl
        refine one_ (i:=4) (N:=some 37) #[true,true,true,true,true,true,true,true,true,true,false,true,true,true,false,false] rfl rfl (by kernel_rfl) (by decide) (fun K hK => ?_)
        refine appT_ w3.heap.size (by rfl) (.tmp 33) (.tmp 36) rfl v0 [] (out.take p) (some ad2) p c2 rfl rfl r0 (Kd.C_below HCt.out hHeld) hHeld.size (by have:=hpi;have:=hl;have:=Holen.out;simp only [List.length_append,List.length_take,List.length_drop,List.length_nil,List.length_cons];omega) ?_
        intro v4 w4 r4 k4 g4 n4
        try replace B9:=B9.after hbc
        try replace B0:=B0.after hbc
        rw [List.nil_append] at r4
        try replace r9:=RowT.other r9 g4 ne
        refine hK.out _ _ (hHeld.trans k4) (fun hHeld => ?_)
        clear hK K
        refine norm_ (a':=?_) ?_ ?_
        rotate_left
        ·show Act.put _ (some 37) _=_
         simp only [Act.put,List.setIfInBounds_toArray,List.set_cons_zero,List.set_cons_succ,i64_w,i32_w]
         rfl
        exact norm_ (by simp only [putAll,Act.put,List.setIfInBounds_toArray,List.set_cons_zero,List.set_cons_succ]) (hJ (v0,v4,v9) _ ⟨hHeld,r4,r9⟩)
      rintro ⟨v0,v4,v9⟩ wf ⟨hHeld,r4,r9⟩
      dsimp only at r4 r9
      obtain ⟨A9,c9,rfl,-,hC9⟩:=Kd.R_reads r9
      refine norm_ (a':=?_) ?_ ?_
      rotate_left
      ·simp only [putAll,Act.put,List.setIfInBounds_toArray,List.set_cons_zero,List.set_cons_succ]
       rfl
      refine one_ (i:=10) (N:=some 43) #[true,true,true,true,true,true,true,true,true,true,true,true,true,true,false,false] rfl rfl (by kernel_rfl) (by decide) (fun K hK => ?_)
      refine appT_ w3.heap.size (by rfl) (.tmp 37) (.tmp 42) rfl v4 (out.take p) [x] A9 1 c9 rfl rfl r4 hC9 hHeld.size (by have:=hpi;have:=hl;have:=Holen.out;simp only [List.length_append,List.length_take,List.length_drop,List.length_nil,List.length_cons];omega) ?_
      intro v10 w10 r10 k10 g10 n10
      refine hK.out _ _ (hHeld.trans k10) (fun hHeld => ?_)
      clear hK K
      refine norm_ (a':=?_) ?_ ?_
      rotate_left
      ·show Act.put _ (some 43) _=_
       simp only [Act.put,List.setIfInBounds_toArray,List.set_cons_zero,List.set_cons_succ,i64_w,i32_w]
       rfl
      refine one_ (i:=14) (N:=some 47) #[true,true,true,true,true,true,true,true,true,true,true,true,true,true,true,false] rfl rfl (by kernel_rfl) (by decide) (fun K hK => ?_)
      refine appT_ w3.heap.size (by rfl) (.tmp 43) (.tmp 46) rfl v10 (out.take p++[x]) (out.drop p) A3 (i - p) (c2 - p) rfl rfl r10 (Kd.C_below HCd.out hHeld) hHeld.size (by have:=hpi;have:=hl;have:=Holen.out;simp only [List.length_append,List.length_take,List.length_drop,List.length_nil,List.length_cons];omega) ?_
      intro v14 w14 r14 k14 g14 n14
      refine hK.out _ _ (hHeld.trans k14) (fun hHeld => ?_)
      clear hK K
      refine norm_ (a':=?_) ?_ ?_
      rotate_left
      ·show Act.put _ (some 47) _=_
       simp only [Act.put,List.setIfInBounds_toArray,List.set_cons_zero,List.set_cons_succ,i64_w,i32_w]
       rfl
      refine pure_ (i:=15) (N:=some 3) (v:=?_) (a':=?_) #[true,true,true,true,true,true,true,true,true,true,true,true,true,true,true,true] rfl rfl (by kernel_rfl) (fun _ _ _ h => h) (Or.inl ⟨by rfl,?_⟩) ?_ ?_
      rotate_left
      ·intro w'
       go_simp
       with_reducible rfl
      rotate_left
      ·simp only [Act.put,List.setIfInBounds_toArray,List.set_cons_zero,List.set_cons_succ,i64_w,i32_w]
       rfl
      refine done_ (by kernel_rfl) ?_
      have hr3:=Lib.hid (Kd.R_lower (Hend.out ▸ r14) hB2.out.size)
      have hb3:=Lib.hid (Zf hB2.out hHeld)
      clear r14 k14 g14 n14 hHeld hR2 hB2
      go_wp2
      exact ⟨⟨i + 1,by first|rfl|(congr 1;done)|(congr 1;omega),by omega,hr3,hb3⟩,by simp [intOf];omega⟩
  ·obtain rfl : i=l.length:=by omega
   have ho2 : out=srt ltR l:=by rw [hout,List.take_length]
   have hd1 : decide ((l.length : Int) < (l.length : Int))=false:=decide_eq_false (by omega)
   clear hout holen
   go_wp2
   go_ret
   exact ⟨_,rfl,ho2 ▸ hR.out,hB.out⟩
end FC
end Go.Proofs.YtfbgmlophkbejaaDoor
set_option linter.unusedVariables false
set_option linter.unusedSimpArgs false
namespace Go.Proofs.YtfbgmlophkbejaaDoor
open Go.RowKit Go.Proofs.YtfbgmlophkbejaaDoorW.PrintWords Go.Proofs.YtfbgmlophkbejaaDoorW.PrintLast Go.Proofs.YtfbgmlophkbejaaDoorQ.Pfa
namespace FC
open Sr
def pF (p : ByteArray × ByteArray) : S46:=⟨p.1,p.2⟩
theorem C_prs {w : World} {A : Option Addr} {l : List (ByteArray × ByteArray)} (h : Pairs w A l) : Kd.C k46 w A l.length (l.map pF):=by
 refine ⟨by rw [List.length_map],h.2.1,fun hn => ?_⟩
 obtain ⟨ad,e,hc⟩:=h.2.2 hn
 refine ⟨ad,e,fun j p hj => ?_⟩
 rw [List.getElem?_map] at hj
 obtain ⟨q,hq,rfl⟩:=Option.map_eq_some_iff.1 hj
 obtain ⟨c,h1,h2,h3⟩:=hc j q hq
 refine ⟨c,h1,?_,h3⟩
 rw [h2]
 exact k46_mk w (pF q)
theorem prs_size (l : List (ByteArray × ByteArray)) : ∀ z ∈ l.map pF,z.f0.size≤pairsSize l:=by
 induction l with
 | nil => intro z hz;cases hz
 | cons p r ih =>
  intro z hz
  rcases List.mem_cons.1 hz with rfl|hz
  ·simp only [pF,pairsSize,List.map_cons,List.sum_cons];omega
  ·have:=ih z hz
   simp only [pairsSize,List.map_cons,List.sum_cons] at this ⊢
   omega
theorem givenL_l0 (l : List S46) (hl : l.length≤1073741824) : ∀ (n k i : Nat),l.length - i=n→i≤l.length→n + 1 < k →
  Zi.l0 k l ((l.take i).map cR) (i : Int)=some (l.map cR):=by
 intro n
 induction n with
 | zero =>
  intro k i h1 h2 hk
  obtain ⟨k,rfl⟩ : ∃ m,k=m + 1:=⟨k - 1,by omega⟩
  simp only [Zi.l0]
  rw [if_neg (by omega),List.take_of_length_le (by omega)]
 | succ n ih =>
  intro k i h1 h2 hk
  obtain ⟨k,rfl⟩ : ∃ m,k=m + 1:=⟨k - 1,by omega⟩
  have hi : i < l.length:=by omega
  simp only [Zi.l0]
  rw [if_pos (by omega),if_pos (by omega),if_pos (by rw [List.length_map,List.length_take];omega),show wrap64 ((i : Int) + 1)=((i + 1 : Nat) : Int) by unfold wrap64;omega,rd_at l i hi]
  have:=ih k (i + 1) (by omega) (by omega) (by omega)
  rw [List.take_succ_eq_append_getElem hi,List.map_append] at this
  exact this
theorem given_isL (l : List S46) (hl : l.length≤1073741824) : Zi.f 2147483648 l=some (l.map cR):=by
 unfold Zi.f
 exact givenL_l0 l hl l.length 2147483648 0 (by omega) (by omega) (by omega)
theorem fieldsL_l0 (l : List S46) (hl : l.length≤1073741824) : ∀ (n k i : Nat),l.length - i=n→i≤l.length→n + 1 < k →
  Zr.l0 k l (l.map cR) (i : Int)=some true:=by
 intro n
 induction n with
 | zero =>
  intro k i h1 h2 hk
  obtain ⟨k,rfl⟩ : ∃ m,k=m + 1:=⟨k - 1,by omega⟩
  simp only [Zr.l0]
  rw [if_neg (by omega)]
 | succ n ih =>
  intro k i h1 h2 hk
  obtain ⟨k,rfl⟩ : ∃ m,k=m + 1:=⟨k - 1,by omega⟩
  have hi : i < l.length:=by omega
  simp only [Zr.l0]
  rw [List.length_map,if_pos (by omega),if_pos (by omega),if_pos (by omega),rd_at l i hi,rd_cR l i hi,if_pos (show l[i].f0.toList=(cR l[i]).f0.toList from rfl),if_pos (show l[i].f1.toList=(cR l[i]).f1.toList from rfl),show wrap64 ((i : Int) + 1)=((i + 1 : Nat) : Int) by unfold wrap64;omega]
  exact ih k (i + 1) (by omega) (by omega) (by omega)
theorem fields_isL (l : List S46) (hl : l.length≤1073741824) : Zr.f 2147483648 l (l.map cR)=some true:=by
 unfold Zr.f
 rw [if_pos (by rw [List.length_map])]
 exact fieldsL_l0 l hl l.length 2147483648 0 (by omega) (by omega) (by omega)
theorem getF_snoc (name : ByteArray) (P : List S46) (x : S46) : getF name (P++[x])=if (getF name P).2=true then getF name P else if isN name x=true then (x.f1,true) else getF name P:=by
 unfold getF
 rw [List.find?_append]
 cases h : P.find? (isN name) with
 | some y => simp
 | none =>
  cases hx : isN name x <;> simp [hx]
theorem allF_snoc (name : ByteArray) (P : List S46) (x : S46) : allF name (P++[x])=if isN name x=true then allF name P++[x.f1] else allF name P:=by
 unfold allF
 rw [List.filter_append,List.map_append]
 cases hx : isN name x <;> simp [hx]
theorem allF_len (name : ByteArray) (P : List S46) : (allF name P).length≤P.length:=by
 unfold allF
 rw [List.length_map]
 exact List.length_filter_le _ _
theorem ins_map {α β : Type} {lt : α→α→Bool} {lt2 : β→β→Bool} (f : α→β) (h : ∀ x y,lt2 (f x) (f y)=lt x y) (x : α) (l : List α) : (ins lt x l).map f=ins lt2 (f x) (l.map f):=by
 induction l with
 | nil => rfl
 | cons y r ih =>
  show (ins lt x (y :: r)).map f=ins lt2 (f x) (f y :: r.map f)
  simp only [ins,h]
  cases lt x y <;> simp [ih]
theorem srt_map {α β : Type} {lt : α→α→Bool} {lt2 : β→β→Bool} (f : α→β) (h : ∀ x y,lt2 (f x) (f y)=lt x y) (l : List α) : (srt lt l).map f=srt lt2 (l.map f):=by
 have key : ∀ n,∀ l : List α,l.length=n→(srt lt l).map f=srt lt2 (l.map f):=by
  intro n
  induction n with
  | zero => intro l hl;obtain rfl:=List.eq_nil_of_length_eq_zero hl;rfl
  | succ n ih =>
   intro l hl
   rcases List.eq_nil_or_concat l with rfl|⟨P,x,rfl⟩
   ·simp at hl
   ·rw [List.concat_eq_append] at hl ⊢
    rw [srt_snoc,ins_map f h,List.map_append,List.map_cons,List.map_nil,srt_snoc,ih P (by simp at hl;omega)]
 exact key _ l rfl
theorem srt_cR (l : List S46) : (srt ltF l).map cR=srt ltR (l.map cR):=srt_map (lt:=ltF) (lt2:=ltR) cR (fun _ _ => rfl) l
theorem strAt {W : World} {A : Option Addr} {n : Nat} {X : List ByteArray} (h : Kd.C Kd.string W A n X) (i : Nat) (hi : i < X.length) : ∃ ad,A=some ad∧W.cell? (ad.add i)=some (.string X[i]):=by
 obtain ⟨ad,c,e,hl,hK,hc⟩:=Kd.C_get h (⟨#[]⟩ : ByteArray) (i : Int) (by omega) (by have:=h.1;omega)
 have hK2 : c=[.string (X.getD i ⟨#[]⟩)]:=by have : c=[.string (X.getD (i : Int).toNat ⟨#[]⟩)]:=hK;rw [Int.toNat_natCast] at this;exact this
 have:=hc 0 _ (by rw [hK2];rfl)
 rw [Int.toNat_natCast,List.getD_eq_getElem?_getD,List.getElem?_eq_getElem hi] at this
 refine ⟨ad,e,?_⟩
 have e2 : i * Kd.string.sz + 0=i:=by show i * 1 + 0=i;omega
 rw [e2] at this
 exact this
/-! ### rows side by side -/
def Ap (u v : Value) : Prop:=∀ q,u.ownBlock=some q→v.ownBlock ≠ some q
theorem RowS.sharp {W : World} {B : Nat} {v : Value} {X : List S46} (h : RowS W B v X) : Kd.R k46 46 W B (fun k => v.ownBlock=some k) v X :=
 ⟨fun k hk => hk,h.2.imp_ (fun x c hp => by rw [k46_openM hp];exact k46_mkM _ _ _ x)⟩
theorem RowS.other {W W' : World} {B : Nat} {v : Value} {X : List S46} {row : Option Nat} (h : RowS W B v X) (hg : W.grownBy W' row) (hne : ∀ q,v.ownBlock=some q→some q ≠ row) : RowS W' B v X :=
 Kd.R_mono (Kd.R_grown h.sharp hg hne) (fun _ _ => trivial)
theorem RowT.lower {W : World} {B B' : Nat} {v : Value} {X : List S35} (h : RowT W B v X) (hb : B'≤B) : RowT W B' v X:=Kd.R_lower h hb
structure Bun (w : World) (T : List S35) (X Y Z : List S46) (vt vx vy vz : Value) (W : World) : Prop where
 b : Below w.heap.size w W
 t : RowT W w.heap.size vt T
 x : RowS W w.heap.size vx X
 y : RowS W w.heap.size vy Y
 z : RowS W w.heap.size vz Z
variable {w W W' : World} {T : List S35} {X Y Z : List S46} {vt vx vy vz : Value}
theorem Bun.below (h : Bun w T X Y Z vt vx vy vz W) (hb : Below W.heap.size W W') : Bun w T X Y Z vt vx vy vz W':=⟨Zf h.b hb,h.t.below hb,h.x.below hb,h.y.below hb,h.z.below hb⟩
theorem own_mem {q n cap : Nat} : (Value.slice (some ⟨q,0,none⟩) n cap).ownBlock=some q:=rfl
theorem mark_put {B q n cap : Nat} (h : RowS W B (.slice (some ⟨q,0,none⟩) n cap) X) (i : Nat) (hi : i < n) (s : ByteArray) :
  (RowS (W.setCell ⟨q,i * 2,none⟩ (.string s)) B (.slice (some ⟨q,0,none⟩) n cap) (X.set i ⟨s,(Zq X (i : Int)).f1⟩)∧W.grownBy (W.setCell ⟨q,i * 2,none⟩ (.string s)) (some q)) ∧
  (RowS (W.setCell ⟨q,i * 2 + 1,none⟩ (.string s)) B (.slice (some ⟨q,0,none⟩) n cap) (X.set i ⟨(Zq X (i : Int)).f0,s⟩)∧W.grownBy (W.setCell ⟨q,i * 2 + 1,none⟩ (.string s)) (some q)):=by
 obtain ⟨d0,d1,_,_⟩:=h.cell i hi
 have hcell : ∀ (j : Nat) (u : Value),[Value.string (Zq X (i : Int)).f0,.string (Zq X (i : Int)).f1][j]?=some u→W.cell? ⟨q,(i : Int).toNat * k46.sz + j,none⟩=some u:=fun j u hj => by
  match j,hj with
  | 0,hj => exact (Option.some.inj hj) ▸ d0
  | 1,hj => exact (Option.some.inj hj) ▸ d1
 exact ⟨Kd.R_seg (d:=k46) (okp:=fun _ => False) (x':=⟨s,(Zq X (i : Int)).f1⟩) (j:=0) (seg:=[.string s]) h (i:=(i : Int)) (by omega) (by omega) rfl hcell (by show 0 + 1≤2;omega) (k46_mkM _ _ _ _) (fun _ h => h.elim),
  Kd.R_seg (d:=k46) (okp:=fun _ => False) (x':=⟨(Zq X (i : Int)).f0,s⟩) (j:=1) (seg:=[.string s]) h (i:=(i : Int)) (by omega) (by omega) rfl hcell (by show 1 + 1≤2;omega) (k46_mkM _ _ _ _) (fun _ h => h.elim)⟩
theorem Bun.putX {q n cap : Nat} (h : Bun w T X Y Z vt (.slice (some ⟨q,0,none⟩) n cap) vy vz W) (ht : Ap vt (.slice (some ⟨q,0,none⟩) n cap)) (hy : Ap vy (.slice (some ⟨q,0,none⟩) n cap)) (hz : Ap vz (.slice (some ⟨q,0,none⟩) n cap)) (i : Nat) (hi : i < n) (s : ByteArray) :
  Bun w T (X.set i ⟨s,(Zq X (i : Int)).f1⟩) Y Z vt (.slice (some ⟨q,0,none⟩) n cap) vy vz (W.setCell ⟨q,i * 2,none⟩ (.string s)):=by
 obtain ⟨⟨h1,hg⟩,_⟩:=mark_put h.x i hi s
 have hq : w.heap.size≤q:=Kd.R_base h.x q rfl
 exact ⟨below_grow h.b hg hq,h.t.other hg (fun k hk e => ht k hk (by rw [own_mem];exact e.symm)),h1,h.y.other hg (fun k hk e => hy k hk (by rw [own_mem];exact e.symm)),h.z.other hg (fun k hk e => hz k hk (by rw [own_mem];exact e.symm))⟩
theorem Bun.putZ {q n cap : Nat} (h : Bun w T X Y Z vt vx vy (.slice (some ⟨q,0,none⟩) n cap) W) (ht : Ap vt (.slice (some ⟨q,0,none⟩) n cap)) (hx : Ap vx (.slice (some ⟨q,0,none⟩) n cap)) (hy : Ap vy (.slice (some ⟨q,0,none⟩) n cap)) (i : Nat) (hi : i < n) (s : ByteArray) :
  Bun w T X Y (Z.set i ⟨(Zq Z (i : Int)).f0,s⟩) vt vx vy (.slice (some ⟨q,0,none⟩) n cap) (W.setCell ⟨q,i * 2 + 1,none⟩ (.string s)):=by
 obtain ⟨_,h1,hg⟩:=mark_put h.z i hi s
 have hq : w.heap.size≤q:=Kd.R_base h.z q rfl
 exact ⟨below_grow h.b hg hq,h.t.other hg (fun k hk e => ht k hk (by rw [own_mem];exact e.symm)),h.x.other hg (fun k hk e => hx k hk (by rw [own_mem];exact e.symm)),h.y.other hg (fun k hk e => hy k hk (by rw [own_mem];exact e.symm)),h1⟩
end FC
end Go.Proofs.YtfbgmlophkbejaaDoor
set_option linter.unusedVariables false
set_option linter.unusedSimpArgs false
namespace Go.Proofs.YtfbgmlophkbejaaDoor
open Go.RowKit Go.Proofs.YtfbgmlophkbejaaDoorW.PrintWords Go.Proofs.YtfbgmlophkbejaaDoorW.PrintLast Go.Proofs.YtfbgmlophkbejaaDoorQ.Pfa
namespace FC
open Sr
theorem info_str : (Tryd.prog.info? 9).map (fun i => (i.zero,i.size,i.bytes))=some (some (.string ⟨#[]⟩),1,16):=by kernel_rfl
def RowU (W : World) (B : Nat) (v : Value) (X : List ByteArray) : Prop:=Kd.R Kd.string 9 W B (fun _ => True) v X
theorem RowU.made (W : World) (B : Nat) (hB : B=W.heap.size) : RowU (W.alloc (.cells #[] 9)) B (.slice (some ⟨B,0,none⟩) 0 0) []:=by
 subst hB
 exact ⟨fun _ _ => trivial,[],World.ownsRow_made W #[] 0 (Nat.le_refl _) (Nat.zero_le _) rfl,Reps.none _ _⟩
theorem same_L (X : List S46) (hl : X.length≤1073741824) (Aa Ab : Option Addr) (ca cb : Nat) (W : World) (ha : Kd.C k46 W Aa X.length X) (hca : X.length≤ca) (hb : Kd.C k35 W Ab X.length (X.map cR)) (hcb : X.length≤cb) :
  Calls Tryd.prog 23 #[.slice Aa X.length ca,.slice Ab X.length cb] W fun e w' => e=.returned (.bool true)∧Zp W w':=by
 have h:=Zr.calls 2147483648 Aa ca X Ab cb (X.map cR) true W ha hca (by rw [List.length_map];exact hb) (by rw [List.length_map];exact hcb) (fields_isL X hl)
 rw [List.length_map] at h
 exact h
theorem setF_len (name value : ByteArray) (l : List S46) : (setF name value l).length≤l.length + 1:=by
 unfold setF
 cases hf : l.findIdx? (isN name) with
 | none => simp
 | some k =>
  obtain ⟨hk,h1,h2⟩:=List.findIdx?_eq_some_iff_getElem.1 hf
  have:=List.length_filter_le (fun x => !isN name x) (l.drop (k + 1))
  simp only [List.length_append,List.length_take,List.length_singleton]
  rw [List.length_drop] at this
  omega
theorem RowS.lt {W : World} {B : Nat} {v : Value} {X : List S46} (h : RowS W B v X) : ∀ q,v.ownBlock=some q→B≤q∧q < W.heap.size:=fun q hq => by
 obtain ⟨inner,ho⟩:=Kd.R_own h
 exact ⟨own_base ho q hq,own_lt ho q hq⟩
theorem Ap.le {W W1 W' : World} {B : Nat} {u v : Value} (hu : ∀ q,u.ownBlock=some q→B≤q∧q < W.heap.size) (hv : ∀ q,v.ownBlock=some q→W1.heap.size≤q∧q < W'.heap.size) (h : W.heap.size≤W1.heap.size) : Ap u v∧Ap v u :=
 ⟨fun q hq e => by have:=hu q hq;have:=hv q e;omega,fun q hq e => by have:=hv q hq;have:=hu q e;omega⟩
theorem cut_of {W : World} {B n c : Nat} {A : Option Addr} {X : List S46} (h : RowS W B (.slice A n c) X) : n=X.length∧n≤c∧Kd.C k46 W A X.length X:=Kd.R_reads' h
theorem addr_of {W : World} {B n c : Nat} {A : Option Addr} {X : List S46} (h : RowS W B (.slice A n c) X) (hn : 0 < n) : ∃ q,A=some ⟨q,0,none⟩:=by
 obtain ⟨e,_,_⟩:=Kd.R_reads' h
 obtain ⟨ad,c',e2⟩:=Kd.R_slice1 h (by omega)
 injection e2 with e2 _ _
 subst e2
 obtain ⟨g,rfl⟩:=Kd.R_head h
 exact ⟨g,rfl⟩
theorem rowT_of {W : World} {B : Nat} {v : Value} {X : List S46} (h : RowT W B v (X.map cR)) : ∃ A c,v=.slice A X.length c∧X.length≤c∧Kd.C k35 W A X.length (X.map cR):=by
 have:=Kd.R_reads h
 rw [List.length_map] at this
 exact this
set_option maxRecDepth 100000 in
set_option maxHeartbeats 40000000 in
theorem asks_core (X : List S46) (name value : ByteArray) (A : Option Addr) (c : Nat) (w : World) (hC : Kd.C k46 w A X.length X) (hc : X.length≤c) (hl : X.length≤1048576) (hP : ∀ z ∈ X,z.f0.size≤16777216) (T : TabM w) :
  Calls Tryd.prog 5 #[.slice A X.length c,.string name,.string value] w fun e w' => e=.returned (.bool true)∧Below w.heap.size w w':=by
 have HC:=Lib.hid (fun W (hb : Below w.heap.size w W) => Kd.C_below hC hb)
 have HT:=Lib.hid T
 have HP:=Lib.hid hP
 have Hc:=Lib.hid hc
 clear hC T hP hc
 go_enter Tryd.func5,Tryd.ntmps5
 go_wp2_with (go_at_call 17;((with_reducible refine (Zi.calls 2147483648 A c X _ _ (HC.out _ (Below.refl _ _)) Hc.out (given_isL X (by omega))).mono ?_);rintro e w1 ⟨v7,rfl,hT1,hb1⟩))
 have hT1 : RowT w1 w.heap.size v7 (X.map cR):=hT1
 have hs0 : RowU (w1.alloc (.cells #[] 9)) w1.heap.size (.slice (some ⟨w1.heap.size,0,none⟩) 0 0) []:=RowU.made w1 _ rfl
 have hB0 : Below w1.heap.size w1 (w1.alloc (.cells #[] 9)):=below_one _ _
 obtain ⟨A7,c7,rfl,hc7,hC7⟩:=rowT_of hT1
 have HT1:=Lib.hid hT1
 have Hb1:=Lib.hid hb1
 have Hc7:=Lib.hid hc7
 have HC7:=Lib.hid (fun W (hb : Below w1.heap.size w1 W) => Kd.C_below hC7 hb)
 have S0:=Lib.hid hs0
 have B0:=Lib.hid hB0
 clear hT1 hb1 hc7 hC7 hs0 hB0
 have hnl : (X.map cR).length=X.length:=List.length_map ..
 go_loopw [8,9,10,11] (fun u1 u2 v10 u4 wr => ∃ (k : Nat) (s1 : ByteArray) (b1 : Bool),u4=.int .i64 (k : Int)∧k≤X.length∧u1=.string s1∧u2=.bool b1∧Hid (getF name (X.take k)=(s1,b1))∧Hid (RowU wr w1.heap.size v10 (allF name (X.take k)))∧Hid (Below w1.heap.size w1 wr)) (fun _ _ _ u _ => X.length - (intOf u).toNat)
 case atStart => exact ⟨0,_,_,rfl,by omega,rfl,rfl,Lib.hid (by rw [List.take_zero];rfl),S0,B0⟩
 case round =>
  clear S0 B0
  obtain ⟨k,s1,b1,rfl,hk,rfl,rfl,hG,hU,hB⟩:=hrel
  by_cases hlt : k < X.length
  ·obtain ⟨x,hx⟩ : ∃ x,x=X[k]:=⟨_,rfl⟩
   obtain ⟨ad,rfl,p0,p1⟩:=at_T35 (HC7.out _ hB.out) (k : Int) (by omega) (by omega)
   rw [rd_cR X k hlt,← hx] at p0 p1
   simp only [cR,Int.toNat_natCast] at p0 p1
   have Hgs : Hid (getF name (X.take (k + 1))=if b1=true then (s1,b1) else if isN name x=true then (x.f1,true) else (s1,b1)):=Lib.hid (by rw [List.take_succ_eq_append_getElem hlt,getF_snoc,hG.out,hx])
   have Has : Hid (allF name (X.take (k + 1))=if isN name x=true then allF name (X.take k)++[x.f1] else allF name (X.take k)):=Lib.hid (by rw [List.take_succ_eq_append_getElem hlt,allF_snoc,hx])
   have Hlen : (allF name (X.take k)).length≤X.length:=Nat.le_trans (allF_len name _) (by rw [List.length_take];omega)
   have hcmp:=isN_eq name x
   clear hx hG
   have hsz:=Lib.hid (hB.out.size)
   cases hn : isN name x with
   | false =>
    rw [hn] at hcmp
    rw [hn] at Hgs Has
    go_wp2
    exact ⟨⟨k + 1,s1,b1,by simp,by omega,rfl,rfl,Lib.hid (by rw [Hgs.out];cases b1 <;> rfl),Lib.hid (by rw [Has.out];exact hU.out),hB⟩,by simp [intOf];omega⟩
   | true =>
    rw [hn] at hcmp
    rw [hn] at Hgs Has
    have hne : (x.f0.toList != name.toList)=false:=by rw [bne,hcmp];rfl
    cases b1 with
    | true =>
     go_wp2_with (at_builtin;refine Kd.R_append Kd.string (w0:=w1) w1.heap.size rfl (.tmp 44) (.tmp 50) 33 9 (.string ⟨#[]⟩) 16 rfl Tryd.underlying33 info_str rfl (by decide) (by decide) _ (allF name (X.take k)) x.f1 [.string x.f1] (fun _ => True) (fun _ => False) rfl (by first|(go_simp;done)|(go_simp;rfl)) rfl (fun _ hk => hk.elim) (fun _ _ => trivial) hU.out hB.out hsz.out (by omega) ?_;intro va w2 ho hb hg hat)
     exact ⟨⟨k + 1,s1,true,by simp,by omega,rfl,rfl,Lib.hid (by rw [Hgs.out];rfl),Lib.hid (by rw [Has.out];exact ho),Lib.hid hb⟩,by simp [intOf];omega⟩
    | false =>
     go_wp2_with (at_builtin;refine Kd.R_append Kd.string (w0:=w1) w1.heap.size rfl (.tmp 44) (.tmp 50) 33 9 (.string ⟨#[]⟩) 16 rfl Tryd.underlying33 info_str rfl (by decide) (by decide) _ (allF name (X.take k)) x.f1 [.string x.f1] (fun _ => True) (fun _ => False) rfl (by first|(go_simp;done)|(go_simp;rfl)) rfl (fun _ hk => hk.elim) (fun _ _ => trivial) hU.out hB.out hsz.out (by omega) ?_;intro va w2 ho hb hg hat)
     exact ⟨⟨k + 1,x.f1,true,by simp,by omega,rfl,rfl,Lib.hid (by rw [Hgs.out];rfl),Lib.hid (by rw [Has.out];exact ho),Lib.hid hb⟩,by simp [intOf];omega⟩
  ·obtain rfl : k=X.length:=by omega
   have hG2:=hG.out
   have hU2:=hU.out
   rw [List.take_length] at hG2 hU2
   have hbw : Below w.heap.size w wr:=Zf Hb1.out hB.out
   obtain ⟨Q,hQ⟩ : ∃ Q,Q=allF name X:=⟨_,rfl⟩
   have hAll:=All_is X (by omega) name
   rw [← hQ] at hU2 hAll
   have hQl : Q.length≤X.length:=by rw [hQ];exact allF_len name X
   obtain ⟨Aa,ca,rfl,hca,hCa⟩:=Kd.R_reads hU2
   have HG2:=Lib.hid hG2
   have HAll:=Lib.hid hAll
   have HCa:=Lib.hid (fun W (hb : Below wr.heap.size wr W) => Kd.C_below hCa hb)
   clear hG hU hG2 hU2 hQ hAll hCa
   have hs1 : (s1.toList != s1.toList)=false:=by simp
   have hs2 : (b1 != b1)=false:=by simp
   go_wp2_with (first
    | (go_at_call 18;((with_reducible refine (Get_any name X A c _ (HC.out _ hbw)).mono ?_);rw [HG2.out];rintro e w3 ⟨rfl,hb3⟩;have hL3:=Zf hbw hb3))
    | (go_at_call 19;((with_reducible refine (percent_All.calls 2147483648 A c X name Q _ (HC.out _ hL3) Hc.out HAll.out).mono ?_);rintro e w4 ⟨v4,rfl,hR4,hb4⟩;obtain ⟨A4,c4,rfl,hc4,hC4⟩:=Kd.R_reads hR4;have hL4:=Zf hL3 hb4))
    | (go_at_call 9;((with_reducible refine (posternlaw03_awake.calls true _ rfl).mono ?_);rintro e w5 ⟨rfl,hb5⟩;have hL5:=Zf hL4 hb5)))
   have hbr : Below wr.heap.size wr w5:=Zf (Zf hb3 hb4) hb5
   have hb15 : Below w1.heap.size w1 w5:=Zf hB.out hbr
   have HCt:=Lib.hid (fun W (hb : Below w5.heap.size w5 W) => Kd.C_below (Kd.C_below hC4 hb5) hb)
   have HCu:=Lib.hid (fun W (hb : Below w5.heap.size w5 W) => HCa.out W (Zf hbr hb))
   have HB15:=Lib.hid hb15
   have HL5:=Lib.hid hL5
   clear hR4 hC4 hb3 hb4 hb5 hL3 hL4 hbr hb15 HCa hbw hL5
   go_loopw [15] (fun u wr => ∃ (k : Nat),u=.int .i64 (k : Int)∧k≤Q.length∧Hid (Below w5.heap.size w5 wr)) (fun u _ => Q.length - (intOf u).toNat)
   case atStart => exact ⟨0,rfl,by omega,Lib.hid (Below.refl _ _)⟩
   case round =>
    obtain ⟨k,rfl,hk,hB5⟩:=hrel
    by_cases hlt : k < Q.length
    ·obtain ⟨ad,rfl,p0⟩:=strAt (HCt.out _ hB5.out) k hlt
     obtain ⟨bd,rfl,q0⟩:=strAt (HCu.out _ hB5.out) k hlt
     generalize Q[k]=x at *
     have hxx : (x.toList != x.toList)=false:=by simp
     go_wp2_with fail
     go_region
     all_goals go_wp2
     exact ⟨⟨k + 1,by simp,by omega,Lib.hid (by first|exact below_drewN hB5.out _|exact Zc hB5.out)⟩,by simp [intOf];omega⟩
    ·obtain rfl : k=Q.length:=by omega
     have hL6 : Below w.heap.size w wr:=Zf HL5.out hB5.out
     have hT6 : Below w1.heap.size w1 wr:=Zf HB15.out hB5.out
     clear hB5
     have hs:=fun W (hb : Below w.heap.size w W) => Set_any name value X A c W (HC.out W hb) Hc.out (by omega)
     have hw:=fun W (hb : Below w.heap.size w W) => Without_any name X A c W (HC.out W hb) (by omega)
     have hz:=fun W (hb : Below w.heap.size w W) => Sorted_any X A c W (HC.out W hb) hl (TabM_below HT.out hb) HP.out
     have hrs:=fun W (hb : Below w1.heap.size w1 W) => Zn.calls 2147483648 A7 c7 (X.map cR) name value _ W (by rw [hnl];exact HC7.out W hb) (by rw [hnl];exact Hc7.out) (RSet_is X (by omega) name value)
     have hrw:=fun W (hC : Kd.C k35 W A7 X.length (X.map cR)) => Zk.calls 2147483648 A7 c7 (X.map cR) name _ W (by rw [hnl];exact hC) (by rw [hnl];exact Hc7.out) (RWithout_is X (by omega) name)
     have hrz:=fun W (hb : Below w1.heap.size w1 W) => RSorted_any (X.map cR) A7 c7 W (by rw [hnl];exact HC7.out W hb) (by rw [hnl];exact Hc7.out) (by rw [hnl];exact hl) (fun z hz => by obtain ⟨y,hy,rfl⟩:=List.mem_map.1 hz;exact HP.out y hy)
     rw [hnl] at hrs hrw hrz
     obtain ⟨Xs,hXs⟩ : ∃ Xs,Xs=setF name value X:=⟨_,rfl⟩
     obtain ⟨Ys,hYs⟩ : ∃ Ys,Ys=X.filter fun x => !isN name x:=⟨_,rfl⟩
     obtain ⟨Zs,hZs⟩ : ∃ Zs,Zs=srt ltF X:=⟨_,rfl⟩
     have hlx : Xs.length≤X.length + 1:=by rw [hXs];exact setF_len name value X
     have hly : Ys.length≤X.length:=by rw [hYs];exact List.length_filter_le _ _
     have hlz : Zs.length≤X.length:=by rw [hZs];exact Nat.le_of_eq (srt_len _)
     rw [← hXs] at hs hrs
     rw [← hYs] at hw hrw
     rw [← hZs] at hz
     rw [← srt_cR,← hZs] at hrz
     have HS:=Lib.hid hs
     have HW:=Lib.hid hw
     have HZ:=Lib.hid hz
     have HRS:=Lib.hid hrs
     have HRW:=Lib.hid hrw
     have HRZ:=Lib.hid hrz
     clear hs hw hz hrs hrw hrz hXs hYs hZs HCt HCu HB15 HL5
     go_wp2_with (first
      | (go_at_call 20;((with_reducible refine (HS.out _ hL6).mono ?_);rintro e wx ⟨v16,rfl,hx,hbx⟩;have hLx:=Zf hL6 hbx))
      | (go_at_call 21;((with_reducible refine (HW.out _ hLx).mono ?_);rintro e wy ⟨v17,rfl,hy,hby⟩;have hLy:=Zf hLx hby))
      | (go_at_call 22;((with_reducible refine (HZ.out _ hLy).mono ?_);rintro e wz ⟨v18,rfl,hzz,hbz⟩;have hLz:=Zf hLy hbz)))
     have hrx:=hx.lt
     have hry:=hy.lt
     have hrz:=hzz.lt
     have hrt:=RowT.base HT1.out
     have sx:=hbx.size
     have sy:=hby.size
     have sz:=hbz.size
     have st:=hT6.size
     have atx:=Ap.le hrt hrx st
     have aty:=Ap.le hrt hry (Nat.le_trans st sx)
     have atz:=Ap.le hrt hrz (Nat.le_trans (Nat.le_trans st sx) sy)
     have axy:=Ap.le hrx hry (Nat.le_refl _)
     have axz:=Ap.le hrx hrz sy
     have ayz:=Ap.le hry hrz (Nat.le_refl _)
     have hbun : Bun w (X.map cR) Xs Ys Zs (.slice A7 X.length c7) v16 v17 v18 wz:=⟨hLz,RowT.below HT1.out (Zf (Zf (Zf hT6 hbx) hby) hbz),(Kd.R_lower (hx.below (Zf hby hbz)) hL6.size),(Kd.R_lower (hy.below hbz) hLx.size),(Kd.R_lower hzz hLy.size)⟩
     have hT1z : Below w1.heap.size w1 wz:=Zf (Zf (Zf hT6 hbx) hby) hbz
     obtain ⟨A16,c16,rfl,hc16,-⟩:=Kd.R_reads hx
     obtain ⟨A17,c17,rfl,hc17,-⟩:=Kd.R_reads hy
     obtain ⟨A18,c18,rfl,hc18,-⟩:=Kd.R_reads hzz
     have ATX:=Lib.hid atx
     have ATY:=Lib.hid aty
     have ATZ:=Lib.hid atz
     have AXY:=Lib.hid axy
     have AXZ:=Lib.hid axz
     have AYZ:=Lib.hid ayz
     have BUN:=Lib.hid hbun
     have HT1Z:=Lib.hid hT1z
     clear hrx hry hrz hrt sx sy sz st atx aty atz axy axz ayz hbun hT1z hx hy hzz hbx hby hbz hLx hLy hL6 hT6 hLz
     go_wp2_with (first
      | (go_at_call 24;((with_reducible refine (HRS.out _ HT1Z.out).mono ?_);rintro e w21 ⟨v21,rfl,hR21,hb21⟩;obtain ⟨A21,c21,rfl,hc21,hC21⟩:=rowT_of hR21;have bun21:=BUN.out.below hb21;have t21:=Zf HT1Z.out hb21))
      | (go_at_call 23;((with_reducible refine (same_L Xs (by omega) _ _ _ _ _ (cut_of bun21.x).2.2 hc16 hC21 hc21).mono ?_);rintro e w22 ⟨rfl,n22⟩;have bun22:=bun21.below n22.below;have t22:=Zf t21 n22.below))
      | (go_at_call 25;((with_reducible refine (HRW.out _ (HC7.out _ t22)).mono ?_);rintro e w23 ⟨v23,rfl,hR23,hb23⟩;obtain ⟨A23,c23,rfl,hc23,hC23⟩:=rowT_of hR23;have bun23:=bun22.below hb23;have t23:=Zf t22 hb23))
      | (go_at_call 23;((with_reducible refine (same_L Ys (by omega) _ _ _ _ _ (cut_of bun23.y).2.2 hc17 hC23 hc23).mono ?_);rintro e w24 ⟨rfl,n24⟩;have bun24:=bun23.below n24.below;have t24:=Zf t23 n24.below))
      | (go_at_call 26;((with_reducible refine (HRZ.out _ t24).mono ?_);rintro e w25 ⟨v25,rfl,hR25,hb25⟩;obtain ⟨A25,c25,rfl,hc25,hC25⟩:=rowT_of hR25;have bun25:=bun24.below hb25;have t25:=Zf t24 hb25))
      | (go_at_call 23;((with_reducible refine (same_L Zs (by omega) _ _ _ _ _ (cut_of bun25.z).2.2 hc18 hC25 hc25).mono ?_);rintro e w26 ⟨rfl,n26⟩;have bun26:=bun25.below n26.below;have t26:=Zf t25 n26.below)))
     have BUN6:=Lib.hid bun26
     have T26:=Lib.hid t26
     clear BUN HT1Z hR21 hb21 hC21 hc21 bun21 t21 n22 bun22 t22 hR23 hb23 hC23 hc23 bun23 t23 n24 bun24 t24 hR25 hb25 hC25 hc25 bun25 t25 n26 bun26 t26 HS HW HZ HRS HRZ
     go_loopw [19] (fun u wr => ∃ (k : Nat) (X' : List S46),u=.int .i64 (k : Int)∧k≤Xs.length∧Hid (Bun w (X.map cR) X' Ys Zs (.slice A7 X.length c7) (.slice A16 Xs.length c16) (.slice A17 Ys.length c17) (.slice A18 Zs.length c18) wr)) (fun u _ => Xs.length - (intOf u).toNat)
     case atStart => exact ⟨0,Xs,rfl,by omega,BUN6⟩
     case round =>
      clear BUN6 T26
      obtain ⟨k,X',rfl,hk,hBn⟩:=hrel
      by_cases hlt : k < Xs.length
      ·obtain ⟨q,rfl⟩:=addr_of hBn.out.x (by omega)
       obtain ⟨d0,d1,f0,f1⟩:=hBn.out.x.cell k hlt
       have hnew:=Lib.hid (hBn.out.putX ATX.out.1 AXY.out.2 AXZ.out.2 k hlt ⟨#[109,97,114,107]⟩)
       go_wp2
       exact ⟨⟨k + 1,_,by simp,by omega,hnew⟩,by simp [intOf];omega⟩
      ·obtain rfl : k=Xs.length:=by omega
       go_wp2
       go_loopw [20] (fun u wr => ∃ (k : Nat) (Z' : List S46),u=.int .i64 (k : Int)∧k≤Zs.length∧Hid (Bun w (X.map cR) X' Ys Z' (.slice A7 X.length c7) (.slice A16 Xs.length c16) (.slice A17 Ys.length c17) (.slice A18 Zs.length c18) wr)) (fun u _ => Zs.length - (intOf u).toNat)
       case atStart => exact ⟨0,Zs,rfl,by omega,hBn⟩
       case round =>
        clear hBn
        obtain ⟨k,Z',rfl,hk,hBn⟩:=hrel
        by_cases hlt : k < Zs.length
        ·obtain ⟨q,rfl⟩:=addr_of hBn.out.z (by omega)
         obtain ⟨d0,d1,f0,f1⟩:=hBn.out.z.cell k hlt
         have hnew:=Lib.hid (hBn.out.putZ ATZ.out.1 AXZ.out.1 AYZ.out.1 k hlt ⟨#[109,97,114,107]⟩)
         go_wp2
         exact ⟨⟨k + 1,_,by simp,by omega,hnew⟩,by simp [intOf];omega⟩
        ·obtain rfl : k=Zs.length:=by omega
         have hct : ∀ W,Bun w (X.map cR) X' Ys Z' (.slice A7 X.length c7) (.slice A16 Xs.length c16) (.slice A17 Ys.length c17) (.slice A18 Zs.length c18) W→Kd.C k35 W A7 X.length (X.map cR):=fun W h => by
          have:=(Kd.R_reads' h.t).2.2
          rwa [hnl] at this
         have HCT:=Lib.hid hct
         have b30:=hBn.out
         clear hct hBn
         go_wp2_with (first
          | (go_at_call 23;((with_reducible refine (same_L X (by omega) _ _ _ _ _ (HC.out _ b30.b) Hc.out (HCT.out _ b30) Hc7.out).mono ?_);rintro e w31 ⟨rfl,n31⟩;have b31:=b30.below n31.below))
          | (go_at_call 25;((with_reducible refine (HRW.out _ (HCT.out _ b31)).mono ?_);rintro e w32 ⟨v32,rfl,hR32,hb32⟩;obtain ⟨A32,c32,rfl,hc32,hC32⟩:=rowT_of hR32;have b32:=b31.below hb32))
          | (go_at_call 23;((with_reducible refine (same_L Ys (by omega) _ _ _ _ _ (cut_of b32.y).2.2 hc17 hC32 hc32).mono ?_);rintro e w33 ⟨rfl,n33⟩;have b33:=b32.below n33.below)))
         go_ret
         exact ⟨rfl,b33.b⟩
theorem percentAsks_any (l : List (ByteArray × ByteArray)) (name value : ByteArray) (A : Option Addr) (c : Nat) (w : World) (hR : Pairs w A l) (hc : l.length≤c) (hl : pairsSize l + 3 * l.length≤1048576) (T : TabM w) :
  Calls Tryd.prog 5 #[.slice A l.length c,.string name,.string value] w fun e w' => e=.returned (.bool true)∧Below w.heap.size w w':=by
 have hl2 : (l.map pF).length=l.length:=List.length_map ..
 have:=asks_core (l.map pF) name value A c w (by rw [hl2];exact C_prs hR) (by omega) (by omega) (fun z hz => by have:=prs_size l z hz;omega) T
 rwa [hl2] at this
end FC
end Go.Proofs.YtfbgmlophkbejaaDoor
