/- Puny: slices.Insert, whatever room there is; facts on what a number read leaves, on biases. -/
import Derived.Test.YtmjlkifmbhaiiaaDoorPunI
import Derived.Test.YtmjlkifmbhaiiaaDoorPunG
set_option linter.unusedVariables false
set_option linter.unusedSimpArgs false
namespace Go.Proofs.YtmjlkifmbhaiiaaDoor
open Go.RowKit Go.Proofs.YtmjlkifmbhaiiaaDoorW.PrintWords Go.Proofs.YtmjlkifmbhaiiaaDoorW.PrintLast Go.Proofs.YtmjlkifmbhaiiaaDoorQ.Pb
theorem insert_any (W : World) (base : Nat) (v : Value) (l : List Int) (i : Nat) (r : Int) (hi : i≤l.length) (HO : W.ownsRow base 21 1 v l.length (nums .i32 l)) (hbase : base≤W.heap.size) (h63 : l.length≤1000000000000) :
  Calls Tryd.prog 59 #[v,.int .i64 (i : Int),.slice (some ⟨W.heap.size,0,none⟩) 1 1] (W.alloc (.cells #[.int .i32 r] 21)) (InsSuch base v (insL l i r) W):=by
 rcases Nat.lt_or_ge i l.length with h|h
 ·have HO2:=HO
  rcases HO2.2 with ⟨rfl,h0⟩|⟨g,cap,cur,rfl,hb,hh,hnc,hcm,hcs,htk⟩
  ·omega
  ·rcases Nat.lt_or_ge l.length cap with hc|hc
   ·exact insert_room W base g cap l i r h hc (by unfold maxLen at hcm;omega) HO
   ·exact insert_grow W base g cap l i r h (by omega) hbase h63 HO
 ·obtain rfl : i=l.length:=by omega
  exact insert_end W base v l r HO hbase (by omega)
theorem own_keep {w W : World} {base g n : Nat} {e : TypeId} {v : Value} {l : List Int} (ho : w.ownsRow base e 1 v n (nums .i32 l)) (hg : g < base) (hk : KeepBut w W g none) : W.ownsRow base e 1 v n (nums .i32 l) :=
 own_move ho (fun q hq => hk.2 q (own_lt ho q hq) (by have:=own_base ho q hq;omega) (by simp))
theorem num_ok {p : Bt} (hp : p.Ok) (bias : Int) : ∀ (L : List Int) (a i w k : Int),0≤i→i≤2147483647→0≤w→(num p bias L a i w k).1=0 →
  ∃ m : Nat,1≤m∧m≤L.length∧(num p bias L a i w k).2.1=a + m∧(num p bias L a i w k).2.2.2=L.drop m∧i≤(num p bias L a i w k).2.2.1∧(num p bias L a i w k).2.2.1≤2147483647:=by
 intro L
 induction L with
 | nil => intro a i w k _ _ _ h;unfold num at h;cases h
 | cons c l ih =>
  intro a i w k hi hi1 hw h
  have hgap:=thr_gap hp k bias
  rw [num] at h ⊢
  by_cases h1 : dgt p c < 0
  ·rw [if_pos h1] at h;cases h
  rw [if_neg h1] at h ⊢
  have hM : 0≤dgt p c * w:=Int.mul_nonneg (by omega) hw
  by_cases h2 : 2147483647 < i + dgt p c * w
  ·rw [if_pos h2] at h;cases h
  rw [if_neg h2] at h ⊢
  by_cases h3 : dgt p c < thr p k bias
  ·rw [if_pos h3]
   exact ⟨1,Nat.le_refl _,by simp,rfl,rfl,by show i≤i + dgt p c * w;omega,by show i + dgt p c * w≤_;omega⟩
  rw [if_neg h3] at h ⊢
  by_cases h4 : 2147483647 < w * (p.base - thr p k bias)
  ·rw [if_pos h4] at h;cases h
  rw [if_neg h4] at h ⊢
  obtain ⟨m,m1,m2,m3,m4,m5,m6⟩:=ih (a + 1) (i + dgt p c * w) (w * (p.base - thr p k bias)) (k + p.base) (by omega) (by omega) (Int.mul_nonneg hw (by omega)) h
  refine ⟨m + 1,by omega,by simp;omega,by rw [m3];push_cast;omega,by rw [m4,List.drop_succ_cons],by omega,m6⟩
theorem adpG_range (base span lim : Int) (hb0 : 0≤base) (hb1 : base≤36) (n : Nat) : ∀ d k : Int,0≤d→d.toNat≤n→0≤k→0≤(adpG base span lim d k).1∧(adpG base span lim d k).1≤d∧0≤(adpG base span lim d k).2∧(adpG base span lim d k).2≤k + 36 * d:=by
 induction n with
 | zero =>
  intro d k hd hn hk
  rw [adpG,dif_neg (by omega)]
  exact ⟨hd,Int.le_refl _,hk,by show k≤k + 36 * d;omega⟩
 | succ n ih =>
  intro d k hd hn hk
  rw [adpG]
  by_cases h : lim < d∧2≤span∧0≤lim
  ·rw [dif_pos h]
   have h1 : d / span < d:=Int.ediv_lt_self_of_pos_of_ne_one (by omega) (by omega)
   have h0 : 0≤d / span:=Int.ediv_nonneg hd (by omega)
   obtain ⟨q1,q2,q3,q4⟩:=ih (d / span) (k + base) h0 (by omega) (by omega)
   exact ⟨q1,by omega,q3,by omega⟩
  ·rw [dif_neg h]
   exact ⟨hd,Int.le_refl _,hk,by show k≤k + 36 * d;omega⟩
theorem adp_range {p : Bt} (h : p.Ok) (delta pts : Int) (first : Bool) (h0 : 0≤delta) (h1 : delta≤2147483647) (hp : 1≤pts) : 0≤adp p delta pts first∧adp p delta pts first≤1099511627776:=by
 obtain ⟨-,-,r2,r3⟩:=adpD_range h delta pts first h0 h1 hp
 have b0:=h.base0
 have b1:=h.base1
 have l0:=h.least0
 have l1:=h.least1
 have m1:=h.most1
 have s0:=h.skew0
 obtain ⟨q1,q2,q3,q4⟩:=adpG_range p.base (p.base - p.least) ((p.base - p.least) * p.most / 2) (by omega) b1 _ (adpD p delta pts first) 0 r2 (Nat.le_refl _) (Int.le_refl _)
 unfold adp
 simp only
 generalize (adpG p.base (p.base - p.least) ((p.base - p.least) * p.most / 2) (adpD p delta pts first) 0)=G at *
 have hm0 : 0≤(p.base - p.least + 1) * G.1:=Int.mul_nonneg (by omega) q1
 have hm1 : (p.base - p.least + 1) * G.1≤37 * 4294967296:=Int.mul_le_mul (by omega) (by omega) q1 (by omega)
 have hq0 : 0≤(p.base - p.least + 1) * G.1 / (G.1 + p.skew):=Int.ediv_nonneg hm0 (by omega)
 have hq1 : (p.base - p.least + 1) * G.1 / (G.1 + p.skew)≤(p.base - p.least + 1) * G.1:=Int.ediv_le_self _ hm0
 omega
end Go.Proofs.YtmjlkifmbhaiiaaDoor
