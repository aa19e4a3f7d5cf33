/- Scalar: what a text says, in plain Lean: the first piece of a text, and all of them. Scalar: a whole sequence, decoded by Go's library, says what the document's sums say. Plain. Scalar: scalar values, written and read again. Plain. Scalar: pieces of a beginning, of what is left, of a text that grows. Plain. Scalar: what scalar values are written as is read as just these. Plain. Scalar: units of UTF-16; the first number of a list that is no scalar value. Plain. -/
import Derived.Test.YtfbgmlophkbejaaDoorBas
import Derived.Shelf.Unicode.DecodeSlow
import Derived.Lib.DecodeN
set_option linter.unusedVariables false
set_option linter.unusedSimpArgs false
namespace Go.Proofs.YtfbgmlophkbejaaDoor
open Go.RowKit Go.Proofs.YtfbgmlophkbejaaDoorW.PrintWords Go.Proofs.YtfbgmlophkbejaaDoorW.PrintLast
def bgN (c : Int) : Int:=if c < 128 then 1 else if c < 194 then 0 else if c < 224 then 2 else if c < 240 then 3 else if c < 245 then 4 else 0
def bgLo (c : Int) : Int:=if c < 194 then 0 else if c=224 then 160 else if c=240 then 144 else if c < 245 then 128 else 0
def bgHi (c : Int) : Int:=if c < 194 then 0 else if c=237 then 159 else if c=244 then 143 else if c < 245 then 191 else 0
theorem bgN_range (c : Int) : 0≤bgN c∧bgN c≤4:=by
 unfold bgN
 repeat' split
 all_goals omega
def okB (t : ByteArray) (i : Int) : Prop:=(i=1∧bgLo (bt t 0)≤bt t 1∧bt t 1≤bgHi (bt t 0)) ∨ (i ≠ 1∧128≤bt t i∧bt t i≤191)
instance (t : ByteArray) (i : Int) : Decidable (okB t i):=by unfold okB;infer_instance
structure RunIs (t : ByteArray) (n : Int) : Prop where
 one : 1≤n
 ok : ∀ i,1≤i→i < n→okB t i
 size : n≤t.size
 most : n≤1 ∨ n≤bgN (bt t 0)
 stop : bgN (bt t 0)≤n ∨ n=t.size ∨ ¬ okB t n
theorem RunIs.le {t : ByteArray} {n m : Int} (h : RunIs t n) (k : RunIs t m) : m≤n:=by
 refine Int.not_lt.1 fun hlt => ?_
 have h1:=h.one;have h2:=k.size;have h3:=k.most
 rcases h.stop with g|g|g
 ·omega
 ·omega
 ·exact g (k.ok n h1 hlt)
theorem RunIs.uniq {t : ByteArray} {n m : Int} (h : RunIs t n) (k : RunIs t m) : n=m:=by
 have:=h.le k;have:=k.le h;omega
def runT (t : ByteArray) : Int :=
 if bgN (bt t 0) < 2 then 1 else if (t.size : Int) < 2 ∨ ¬ okB t 1 then 1
 else if bgN (bt t 0) < 3 then 2 else if (t.size : Int) < 3 ∨ ¬ okB t 2 then 2
 else if bgN (bt t 0) < 4 then 3 else if (t.size : Int) < 4 ∨ ¬ okB t 3 then 3 else 4
theorem runT_is (t : ByteArray) (h : 0 < t.size) : RunIs t (runT t):=by
 have hr:=bgN_range (bt t 0)
 unfold runT
 by_cases c1 : bgN (bt t 0) < 2
 ·rw [if_pos c1];exact ⟨by omega,fun i _ _ => by omega,by omega,Or.inl (by omega),by omega⟩
 rw [if_neg c1]
 by_cases c2 : (t.size : Int) < 2 ∨ ¬ okB t 1
 ·rw [if_pos c2];exact ⟨by omega,fun i _ _ => by omega,by omega,Or.inl (by omega),by rcases c2 with g|g;exact Or.inr (Or.inl (by omega));exact Or.inr (Or.inr g)⟩
 rw [if_neg c2]
 have d2:=not_or.1 c2
 have o1:=Decidable.not_not.1 d2.2
 by_cases c3 : bgN (bt t 0) < 3
 ·rw [if_pos c3];exact ⟨by omega,fun i _ _ => by obtain rfl : i=1:=(by omega);exact o1,by omega,Or.inr (by omega),by omega⟩
 rw [if_neg c3]
 by_cases c4 : (t.size : Int) < 3 ∨ ¬ okB t 2
 ·rw [if_pos c4];exact ⟨by omega,fun i _ _ => by obtain rfl : i=1:=(by omega);exact o1,by omega,Or.inr (by omega),by rcases c4 with g|g;exact Or.inr (Or.inl (by omega));exact Or.inr (Or.inr g)⟩
 rw [if_neg c4]
 have d4:=not_or.1 c4
 have o2:=Decidable.not_not.1 d4.2
 have o12 : ∀ i : Int,1≤i→i < 3→okB t i:=fun i _ _ => by
  rcases (show i=1 ∨ i=2 by omega) with rfl|rfl
  ·exact o1
  ·exact o2
 by_cases c5 : bgN (bt t 0) < 4
 ·rw [if_pos c5];exact ⟨by omega,o12,by omega,Or.inr (by omega),by omega⟩
 rw [if_neg c5]
 by_cases c6 : (t.size : Int) < 4 ∨ ¬ okB t 3
 ·rw [if_pos c6];exact ⟨by omega,o12,by omega,Or.inr (by omega),by rcases c6 with g|g;exact Or.inr (Or.inl (by omega));exact Or.inr (Or.inr g)⟩
 rw [if_neg c6]
 have d6:=not_or.1 c6
 have o3:=Decidable.not_not.1 d6.2
 exact ⟨by omega,fun i _ _ => by
  rcases (show i < 3 ∨ i=3 by omega) with g|rfl
  ·exact o12 i (by omega) g
  ·exact o3,by omega,Or.inr (by omega),by omega⟩
theorem RunIs.eq {t : ByteArray} {n : Int} (h : RunIs t n) (ht : 0 < t.size) : n=runT t:=h.uniq (runT_is t ht)
def lead (c : Int) : Int:=if c < 128 then c else if c < 224 then c - 192 else if c < 240 then c - 224 else c - 240
def valT (t : ByteArray) (n : Int) : Int :=
 if n=1 then lead (bt t 0) else if n=2 then 64 * lead (bt t 0) + bt t 1 - 128
 else if n=3 then 64 * (64 * lead (bt t 0) + bt t 1 - 128) + bt t 2 - 128
 else 64 * (64 * (64 * lead (bt t 0) + bt t 1 - 128) + bt t 2 - 128) + bt t 3 - 128
structure Pc where
 size : Int
 rune : Int
 bad : Bool
def fstT (t : ByteArray) : Pc:=if runT t=bgN (bt t 0) then ⟨runT t,valT t (runT t),false⟩ else ⟨runT t,65533,true⟩
theorem fstT_size (t : ByteArray) : (fstT t).size=runT t:=by
 unfold fstT
 split <;> rfl
def opnT (t : ByteArray) : Bool:=decide (runT t < bgN (bt t 0)∧runT t=t.size)
def tail (s : ByteArray) (a : Int) : ByteArray:=s.extract a.toNat s.size
theorem tail_size (s : ByteArray) (a : Int) (h0 : 0≤a) (h : a≤s.size) : ((tail s a).size : Int)=s.size - a:=by
 unfold tail
 rw [ByteArray.size_extract]
 omega
def pcsF (s : ByteArray) : Nat→Int→List (Int × Pc)
 | 0,_ => []
 | k + 1,a => if a < s.size then (a,fstT (tail s a)) :: pcsF s k (a + (fstT (tail s a)).size) else []
theorem fst_step (s : ByteArray) (a : Int) (h0 : 0≤a) (h : a < s.size) : 1≤(fstT (tail s a)).size∧a + (fstT (tail s a)).size≤s.size:=by
 have hz:=tail_size s a h0 (by omega)
 have hr:=runT_is (tail s a) (by omega)
 rw [fstT_size]
 exact ⟨hr.one,by have:=hr.size;omega⟩
theorem pcsF_fuel (s : ByteArray) : ∀ (k j : Nat) (a : Int),0≤a→(s.size : Int) - a≤k→(s.size : Int) - a≤j→pcsF s k a=pcsF s j a:=by
 intro k
 induction k with
 | zero =>
  intro j a h0 hk hj
  cases j with
  | zero => rfl
  | succ j => simp only [pcsF];rw [if_neg (by omega)]
 | succ k ih =>
  intro j a h0 hk hj
  cases j with
  | zero => simp only [pcsF];rw [if_neg (by omega)]
  | succ j =>
   simp only [pcsF]
   by_cases h : a < s.size
   ·have:=fst_step s a h0 h
    rw [if_pos h,if_pos h,ih j _ (by omega) (by omega) (by omega)]
   ·rw [if_neg h,if_neg h]
def pcs (s : ByteArray) (a : Int) : List (Int × Pc):=pcsF s s.size a
theorem pcs_go (s : ByteArray) (a : Int) (h0 : 0≤a) (h : a < s.size) : pcs s a=(a,fstT (tail s a)) :: pcs s (a + (fstT (tail s a)).size):=by
 have hs:=fst_step s a h0 h
 unfold pcs
 obtain ⟨k,hk⟩ : ∃ k,s.size=k + 1:=⟨s.size - 1,by omega⟩
 conv => lhs;rw [hk]
 simp only [pcsF]
 rw [if_pos h,pcsF_fuel s k s.size _ (by omega) (by omega) (by omega)]
theorem pcs_end (s : ByteArray) (a : Int) (h : (s.size : Int)≤a) : pcs s a=[]:=by
 unfold pcs
 cases hk : s.size with
 | zero => rfl
 | succ k => simp only [pcsF];rw [if_neg (by omega)]
theorem pcs_len (s : ByteArray) (n : Nat) : ∀ a : Int,0≤a→(s.size : Int) - a=n→(pcs s a).length≤n:=by
 induction n using Nat.strongRecOn with
 | ind n ih =>
  intro a h0 hn
  by_cases h : a < s.size
  ·have hs:=fst_step s a h0 h
   rw [pcs_go s a h0 h,List.length_cons]
   have:=ih ((s.size : Int) - (a + (fstT (tail s a)).size)).toNat (by omega) (a + (fstT (tail s a)).size) (by omega) (by omega)
   omega
  ·rw [pcs_end s a (by omega)];simp
def decT (s : ByteArray) : List Int:=(pcs s 0).map (·.2.rune)
end Go.Proofs.YtfbgmlophkbejaaDoor
set_option linter.unusedVariables false
set_option linter.unusedSimpArgs false
namespace Go.Proofs.YtfbgmlophkbejaaDoor
open Go.RowKit Go.Proofs.YtfbgmlophkbejaaDoorW.PrintWords Go.Proofs.YtfbgmlophkbejaaDoorW.PrintLast
theorem get_bt (s : ByteArray) (i : Nat) (h : i < s.size) : (((s.get! i).toNat : Nat) : Int)=bt s i:=by
 unfold bt
 rw [dif_pos (by simpa using h)]
 simp only [Int.toNat_natCast]
 rw [Utf8W.get!_of_lt s i h]
theorem bgN_two {c : Int} (h : bgN c=2) : 194≤c∧c≤223:=by
 unfold bgN at h
 repeat' split at h
 all_goals omega
theorem bgN_three {c : Int} (h : bgN c=3) : 224≤c∧c≤239:=by
 unfold bgN at h
 repeat' split at h
 all_goals omega
theorem bgN_four {c : Int} (h : bgN c=4) : 240≤c∧c≤244:=by
 unfold bgN at h
 repeat' split at h
 all_goals omega
theorem bgN_one {c : Int} (h : bgN c=1) : c≤127:=by
 unfold bgN at h
 repeat' split at h
 all_goals omega
theorem bgN_ge {c : Int} (h : 2≤bgN c) : 194≤c∧c≤244:=by
 unfold bgN at h
 repeat' split at h
 all_goals omega
theorem second_is {t : ByteArray} (h : okB t 1) (h2 : 2≤bgN (bt t 0)) : 128≤bt t 1∧bt t 1≤191∧(bt t 0=224→160≤bt t 1)∧(bt t 0=237→bt t 1≤159)∧(bt t 0=240→144≤bt t 1)∧(bt t 0=244→bt t 1≤143):=by
 have hc:=bgN_ge h2
 rcases h with h|h
 ·obtain ⟨-,h1,h2⟩:=h
  generalize bt t 0=c at *
  generalize bt t 1=b at *
  unfold bgLo at h1
  unfold bgHi at h2
  repeat' split at h1
  all_goals repeat' split at h2
  all_goals omega
 ·exact absurd rfl h.1
theorem third_is {t : ByteArray} {i : Int} (h : okB t i) (hi : 1 < i) : 128≤bt t i∧bt t i≤191:=by
 rcases h with h|h
 ·omega
 ·exact h.2
structure WholeIs (t : ByteArray) (n : Int) : Prop where
 size : n≤t.size
 kind : (n=1∧bt t 0≤127) ∨
  (n=2∧194≤bt t 0∧bt t 0≤223∧128≤bt t 1∧bt t 1≤191) ∨
  (n=3∧224≤bt t 0∧bt t 0≤239∧128≤bt t 1∧bt t 1≤191∧(bt t 0=224→160≤bt t 1)∧(bt t 0=237→bt t 1≤159)∧128≤bt t 2∧bt t 2≤191) ∨
  (n=4∧240≤bt t 0∧bt t 0≤244∧128≤bt t 1∧bt t 1≤191∧(bt t 0=240→144≤bt t 1)∧(bt t 0=244→bt t 1≤143)∧128≤bt t 2∧bt t 2≤191∧128≤bt t 3∧bt t 3≤191)
theorem whole_is {t : ByteArray} (ht : 0 < t.size) (h : runT t=bgN (bt t 0)) : WholeIs t (runT t):=by
 have hr:=runT_is t ht
 refine ⟨hr.size,?_⟩
 have h1:=hr.one
 have hg:=bgN_range (bt t 0)
 have hb:=bt_range t 0
 rw [h] at hr h1 ⊢
 rcases (show bgN (bt t 0)=1 ∨ bgN (bt t 0)=2 ∨ bgN (bt t 0)=3 ∨ bgN (bt t 0)=4 by omega) with g|g|g|g
 ·exact Or.inl ⟨g,bgN_one g⟩
 ·have:=bgN_two g
  have:=second_is (hr.ok 1 (by omega) (by omega)) (by omega)
  exact Or.inr (Or.inl (by omega))
 ·have:=bgN_three g
  have:=second_is (hr.ok 1 (by omega) (by omega)) (by omega)
  have:=third_is (hr.ok 2 (by omega) (by omega)) (by omega)
  exact Or.inr (Or.inr (Or.inl ⟨g,by omega⟩))
 ·have:=bgN_four g
  have:=second_is (hr.ok 1 (by omega) (by omega)) (by omega)
  have:=third_is (hr.ok 2 (by omega) (by omega)) (by omega)
  have:=third_is (hr.ok 3 (by omega) (by omega)) (by omega)
  exact Or.inr (Or.inr (Or.inr ⟨g,by omega⟩))
theorem decode_whole (t : ByteArray) (ht : 0 < t.size) (h : runT t=bgN (bt t 0)) (h2 : 2≤runT t) : ((Lib.decodeGo (t.extract 0 (runT t).toNat)).1 : Int)=valT t (runT t):=by
 have hw:=whole_is ht h
 generalize runT t=n at *
 obtain ⟨hs,hk⟩:=hw
 have hz:=size_ext t 0 n.toNat (by omega)
 obtain ⟨u,hu⟩ : ∃ u,t.extract 0 n.toNat=u:=⟨_,rfl⟩
 have hb : ∀ i : Nat,(i : Int) < n→(((u.get! i).toNat : Nat) : Int)=bt t i:=fun i hi => by
  rw [get_bt u i (by rw [← hu];omega),← hu,bt_ext t 0 n.toNat (by omega) _ (by omega),if_pos (by omega)]
  congr 1
  omega
 rw [hu] at hz ⊢
 have e : Lib.decodeGo u=Lib.decodeN u.size (u.get! 0).toNat (u.get! 1).toNat (u.get! 2).toNat (u.get! 3).toNat:=by
  unfold Lib.decodeGo
  rw [if_neg (by omega),Lib.decode_at]
  simp
 rw [e,hz]
 have b0 : (((u.get! 0).toNat : Nat) : Int)=bt t 0:=hb 0 (by omega)
 have b1 : (((u.get! 1).toNat : Nat) : Int)=bt t 1:=hb 1 (by omega)
 clear e hz
 have valE : valT t n=if n=2 then 64 * (bt t 0 - 192) + bt t 1 - 128 else if n=3 then 64 * (64 * (bt t 0 - 224) + bt t 1 - 128) + bt t 2 - 128 else 64 * (64 * (64 * (bt t 0 - 240) + bt t 1 - 128) + bt t 2 - 128) + bt t 3 - 128:=by
  unfold valT lead
  repeat' split
  all_goals omega
 rw [valE]
 rcases hk with hk|hk|hk|hk
 ·omega
 ·obtain ⟨rfl,hk⟩:=hk
  generalize (u.get! 0).toNat=c0 at *
  generalize (u.get! 1).toNat=c1 at *
  unfold Lib.decodeN
  rw [if_neg (by omega),if_pos (by omega),if_pos (by omega),if_pos rfl]
  simp only
  omega
 ·obtain ⟨rfl,hk⟩:=hk
  have b2 : (((u.get! 2).toNat : Nat) : Int)=bt t 2:=hb 2 (by omega)
  generalize (u.get! 0).toNat=c0 at *
  generalize (u.get! 1).toNat=c1 at *
  generalize (u.get! 2).toNat=c2 at *
  unfold Lib.decodeN
  rw [if_neg (by omega),if_neg (by omega),if_pos (by omega),if_pos (by omega),if_neg (by omega),if_pos rfl]
  simp only
  omega
 ·obtain ⟨rfl,hk⟩:=hk
  have b2 : (((u.get! 2).toNat : Nat) : Int)=bt t 2:=hb 2 (by omega)
  have b3 : (((u.get! 3).toNat : Nat) : Int)=bt t 3:=hb 3 (by omega)
  generalize (u.get! 0).toNat=c0 at *
  generalize (u.get! 1).toNat=c1 at *
  generalize (u.get! 2).toNat=c2 at *
  generalize (u.get! 3).toNat=c3 at *
  unfold Lib.decodeN
  rw [if_neg (by omega),if_neg (by omega),if_neg (by omega),if_pos (by omega),if_pos (by omega),if_neg (by omega),if_neg (by omega)]
  simp only
  omega
end Go.Proofs.YtfbgmlophkbejaaDoor
set_option linter.unusedVariables false
set_option linter.unusedSimpArgs false
namespace Go.Proofs.YtfbgmlophkbejaaDoor
open Go.RowKit Go.Proofs.YtfbgmlophkbejaaDoorW.PrintWords Go.Proofs.YtfbgmlophkbejaaDoorW.PrintLast
def scal (r : Int) : Bool:=decide ((0≤r∧r < 55296) ∨ (57343 < r∧r≤1114111))
def wid (r : Int) : Int:=if scal r then (if r < 128 then 1 else if r < 2048 then 2 else if r < 65536 then 3 else 4) else 0
theorem scal_iff (r : Int) : scal r=true ↔ ((0≤r∧r < 55296) ∨ (57343 < r∧r≤1114111)):=by unfold scal;exact decide_eq_true_iff
theorem whole_scal {t : ByteArray} {n : Int} (h : WholeIs t n) (h1 : n ≠ 1 ∨ 0≤bt t 0) : scal (valT t n)=true∧wid (valT t n)=n:=by
 obtain ⟨hs,hk⟩:=h
 have hb:=bt_range t 0
 have key : scal (valT t n)=true:=by
  rw [scal_iff]
  unfold valT lead
  rcases hk with hk|hk|hk|hk
  ·obtain ⟨rfl,hk⟩:=hk
   rw [if_pos rfl,if_pos (by omega)];omega
  ·obtain ⟨rfl,hk⟩:=hk
   rw [if_neg (by omega),if_pos rfl,if_neg (by omega),if_pos (by omega)];omega
  ·obtain ⟨rfl,hk⟩:=hk
   rw [if_neg (by omega),if_neg (by omega),if_pos rfl,if_neg (by omega),if_neg (by omega),if_pos (by omega)];omega
  ·obtain ⟨rfl,hk⟩:=hk
   rw [if_neg (by omega),if_neg (by omega),if_neg (by omega),if_neg (by omega),if_neg (by omega),if_neg (by omega)];omega
 refine ⟨key,?_⟩
 unfold wid
 rw [if_pos key]
 rcases hk with hk|hk|hk|hk
 ·obtain ⟨rfl,hk⟩:=hk
  have hv : valT t 1=bt t 0:=by
   unfold valT lead
   rw [if_pos rfl,if_pos (by omega)]
  rw [hv,if_pos (by omega)]
 ·obtain ⟨rfl,hk⟩:=hk
  have hv : valT t 2=64 * (bt t 0 - 192) + bt t 1 - 128:=by
   unfold valT lead
   rw [if_neg (by omega),if_pos rfl,if_neg (by omega),if_pos (by omega)]
  rw [hv,if_neg (by omega),if_pos (by omega)]
 ·obtain ⟨rfl,hk⟩:=hk
  have hv : valT t 3=64 * (64 * (bt t 0 - 224) + bt t 1 - 128) + bt t 2 - 128:=by
   unfold valT lead
   rw [if_neg (by omega),if_neg (by omega),if_pos rfl,if_neg (by omega),if_neg (by omega),if_pos (by omega)]
  rw [hv,if_neg (by omega),if_neg (by omega),if_pos (by omega)]
 ·obtain ⟨rfl,hk⟩:=hk
  have hv : valT t 4=64 * (64 * (64 * (bt t 0 - 240) + bt t 1 - 128) + bt t 2 - 128) + bt t 3 - 128:=by
   unfold valT lead
   rw [if_neg (by omega),if_neg (by omega),if_neg (by omega),if_neg (by omega),if_neg (by omega),if_neg (by omega)]
  rw [hv,if_neg (by omega),if_neg (by omega),if_neg (by omega)]
end Go.Proofs.YtfbgmlophkbejaaDoor
set_option linter.unusedVariables false
set_option linter.unusedSimpArgs false
namespace Go.Proofs.YtfbgmlophkbejaaDoor
open Go.RowKit Go.Proofs.YtfbgmlophkbejaaDoorW.PrintWords Go.Proofs.YtfbgmlophkbejaaDoorW.PrintLast
theorem run_le4 {t : ByteArray} (ht : 0 < t.size) : 1≤runT t∧runT t≤4:=by
 have h:=runT_is t ht
 have:=bgN_range (bt t 0)
 exact ⟨h.one,by have:=h.most;omega⟩
theorem bt_tail_ (s : ByteArray) (a i : Int) (ha : 0≤a) (hi : 0≤i) : bt (tail s a) i=bt s (a + i):=by
 unfold tail
 by_cases h : (s.size : Int)≤a + i
 ·rw [bt_out s (a + i) h,bt_out]
  rw [ByteArray.size_extract]
  omega
 ·rw [bt_ext s a.toNat s.size (Nat.le_refl _) i hi,if_pos (by omega)]
  congr 1
  omega
inductive To (s : ByteArray) : Int→List (Int × Pc)→Int→Prop
 | nil (a : Int) : To s a [] a
 | cons {a e : Int} {l : List (Int × Pc)} (h : a < s.size) (r : To s (a + (fstT (tail s a)).size) l e) : To s a ((a,fstT (tail s a)) :: l) e
theorem To.le {s : ByteArray} {a e : Int} {l : List (Int × Pc)} (h : To s a l e) (h0 : 0≤a) : a≤e∧(a≤s.size→e≤s.size):=by
 induction h with
 | nil a => exact ⟨by omega,id⟩
 | cons h r ih =>
  have:=fst_step s _ h0 h
  have:=ih (by omega)
  omega
theorem To.pcs_eq {s : ByteArray} {a e : Int} {l : List (Int × Pc)} (h : To s a l e) (h0 : 0≤a) : pcs s a=l++pcs s e:=by
 induction h with
 | nil a => rfl
 | cons h r ih =>
  have:=fst_step s _ h0 h
  rw [pcs_go s _ h0 h,ih (by omega)]
  rfl
theorem To.snoc {s : ByteArray} {a e : Int} {l : List (Int × Pc)} (h : To s a l e) (he : e < s.size) : To s a (l++[(e,fstT (tail s e))]) (e + (fstT (tail s e)).size):=by
 induction h with
 | nil a => exact .cons he (.nil _)
 | cons h r ih => exact .cons h (ih he)
theorem To.all (s : ByteArray) (n : Nat) : ∀ a : Int,0≤a→a≤s.size→(s.size : Int) - a=n→To s a (pcs s a) s.size:=by
 induction n using Nat.strongRecOn with
 | ind n ih =>
  intro a h0 hle hn
  by_cases h : a < s.size
  ·have hs:=fst_step s a h0 h
   rw [pcs_go s a h0 h]
   exact .cons h (ih ((s.size : Int) - (a + (fstT (tail s a)).size)).toNat (by omega) _ (by omega) (by omega) (by omega))
  ·obtain rfl : a=s.size:=by omega
   rw [pcs_end s _ (by omega)]
   exact .nil _
theorem tail_tail (s : ByteArray) (e b : Int) (he : 0≤e) (hb : 0≤b) (h : e≤s.size) : tail (tail s e) b=tail s (e + b):=by
 have z:=tail_size s e he h
 by_cases hl : e + b≤s.size
 ·refine ba_ext (by have:=tail_size (tail s e) b hb (by omega);have:=tail_size s (e + b) (by omega) hl;omega) fun i h0 h1 => ?_
  rw [bt_tail_ _ _ _ hb h0,bt_tail_ _ _ _ he (by omega),bt_tail_ _ _ _ (by omega) h0]
  congr 1
  omega
 ·refine ba_ext ?_ fun i h0 h1 => ?_
  ·unfold tail
   simp only [ByteArray.size_extract]
   unfold tail at z
   rw [ByteArray.size_extract] at z
   omega
  ·rw [bt_tail_ _ _ _ hb h0,bt_tail_ _ _ _ he (by omega),bt_tail_ _ _ _ (by omega) h0]
   congr 1
   omega
theorem To.rest {s : ByteArray} {a e E : Int} {l : List (Int × Pc)} (h : To s a l e) (h0 : 0≤E) (hE : E≤a) (hs : a≤s.size) : To (tail s E) (a - E) (l.map fun p => (p.1 - E,p.2)) (e - E):=by
 induction h with
 | nil a => exact .nil _
 | @cons a e l h r ih =>
  have hst:=fst_step s a (by omega) h
  have z:=tail_size s E h0 (by omega)
  have e1 : tail (tail s E) (a - E)=tail s a:=by rw [tail_tail s E (a - E) h0 (by omega) (by omega)];congr 1;omega
  have:=To.cons (s:=tail s E) (a:=a - E) (l:=l.map fun p => (p.1 - E,p.2)) (e:=e - E) (by omega) (by
   rw [e1]
   have:=ih (by omega) (by omega)
   rw [show a - E + (fstT (tail s a)).size=a + (fstT (tail s a)).size - E by omega]
   exact this)
  rw [e1] at this
  simpa using this
theorem To.whole {s : ByteArray} {l : List (Int × Pc)} (h : To s 0 l s.size) : pcs s 0=l:=by
 rw [To.pcs_eq h (Int.le_refl 0),pcs_end s _ (by omega),List.append_nil]
theorem To.mem {s : ByteArray} {a e : Int} {l : List (Int × Pc)} (h : To s a l e) (h0 : 0≤a) : ∀ p ∈ l,0≤p.1∧p.1 < s.size∧p.2=fstT (tail s p.1)∧p.1 + p.2.size≤e:=by
 induction h with
 | nil a => intro p hp;cases hp
 | @cons a e l h r ih =>
  have hst:=fst_step s a h0 h
  intro p hp
  rcases List.mem_cons.1 hp with rfl|hp
  ·exact ⟨h0,h,rfl,(r.le (by omega)).1⟩
  ·exact ih (by omega) p hp
end Go.Proofs.YtfbgmlophkbejaaDoor
set_option linter.unusedVariables false
set_option linter.unusedSimpArgs false
namespace Go.Proofs.YtfbgmlophkbejaaDoor
open Go.RowKit Go.Proofs.YtfbgmlophkbejaaDoorW.PrintWords Go.Proofs.YtfbgmlophkbejaaDoorW.PrintLast
theorem fst_scal (t : ByteArray) (ht : 0 < t.size) : scal (fstT t).rune=true∧((fstT t).bad=false→wid (fstT t).rune=(fstT t).size)∧((fstT t).bad=true→(fstT t).rune=65533∧(fstT t).size≤3)∧1≤(fstT t).size∧(fstT t).size≤4:=by
 have hl:=run_le4 ht
 by_cases h : runT t=bgN (bt t 0)
 ·have hw:=whole_scal (whole_is ht h) (Or.inr (bt_range t 0).1)
  unfold fstT
  rw [if_pos h]
  exact ⟨hw.1,fun _ => hw.2,fun h => (by cases h),hl.1,hl.2⟩
 ·have hr:=runT_is t ht
  have hg:=bgN_range (bt t 0)
  have:=hr.most
  unfold fstT
  rw [if_neg h]
  exact ⟨(by decide : scal 65533=true),fun h => (by cases h),fun _ => ⟨rfl,by show runT t≤3;omega⟩,hl.1,hl.2⟩
theorem decT_scal (s : ByteArray) : ∀ r ∈ decT s,scal r=true:=by
 intro r hr
 unfold decT at hr
 obtain ⟨p,hp,rfl⟩:=List.mem_map.1 hr
 obtain ⟨h1,h2,h3,-⟩:=(To.all s s.size 0 (by omega) (by omega) (by omega)).mem (by omega) p hp
 rw [h3]
 exact (fst_scal _ (by have:=tail_size s p.1 h1 (by omega);omega)).1
end Go.Proofs.YtfbgmlophkbejaaDoor
set_option linter.unusedVariables false
set_option linter.unusedSimpArgs false
namespace Go.Proofs.YtfbgmlophkbejaaDoor
open Go.RowKit Go.Proofs.YtfbgmlophkbejaaDoorW.PrintWords Go.Proofs.YtfbgmlophkbejaaDoorW.PrintLast
def untB (r : Int) : List Int:=if r < 65536 then [r] else [55296 + (r - 65536) / 1024,56320 + (r - 65536) % 1024]
def untL (l : List Int) : List Int:=l.flatMap untB
theorem untL_cons (r : Int) (l : List Int) : untL (r :: l)=untB r++untL l:=by simp [untL]
theorem untL_app (l r : List Int) : untL (l++r)=untL l++untL r:=by unfold untL;exact List.flatMap_append ..
theorem untL_one (r : Int) : untL [r]=untB r:=by simp [untL]
theorem untB_len (r : Int) : 1≤(untB r).length∧(untB r).length≤2:=by
 unfold untB
 split <;> simp
theorem untL_len (l : List Int) : (untL l).length≤2 * l.length:=by
 induction l with
 | nil => simp [untL]
 | cons r l ih => rw [untL_cons,List.length_append,List.length_cons];have:=untB_len r;omega
theorem drop_rd (l : List Int) (k : Nat) (h : k < l.length) : l.drop k=rd l k :: l.drop (k + 1):=by
 rw [List.drop_eq_getElem_cons h]
 simp [rd,List.getD_eq_getElem?_getD,List.getElem?_eq_getElem h]
end Go.Proofs.YtfbgmlophkbejaaDoor
