/- Puny: PunyBoots: every Check, EncodeBy and DecodeBy. -/
import Derived.Test.YtmjlkifmbhaiiaaDoorPgwE
import Derived.Test.YtmjlkifmbhaiiaaDoorQPwx11
import Derived.Test.YtmjlkifmbhaiiaaDoorQPwx3
import Derived.Test.YtmjlkifmbhaiiaaDoorQPwx6
import Derived.Test.YtmjlkifmbhaiiaaDoorQPwx9
import Derived.Test.YtmjlkifmbhaiiaaDoorQPwx8
import Derived.Test.YtmjlkifmbhaiiaaDoorQPwx5
import Derived.Test.YtmjlkifmbhaiiaaDoorQPwx10
import Derived.Test.YtmjlkifmbhaiiaaDoorQPwx4
set_option linter.unusedVariables false
set_option linter.unusedSimpArgs false
namespace Go.Proofs.YtmjlkifmbhaiiaaDoor.V
open Go.RowKit Go.Proofs.YtmjlkifmbhaiiaaDoorW.PrintWords Go.Proofs.YtmjlkifmbhaiiaaDoorW.PrintLast Go.Proofs.YtmjlkifmbhaiiaaDoorQ.Pw
theorem C_of_ints {k : IntKind} {w : World} {A : Option Addr} {n : Nat} {l : List Int} (h : ReadsInt w k A n l) : Kd.C (Kd.int k) w A n l:=Kd.C_of_reads (enc:=Value.int k) (d:=(0 : Int)) (h1:=fun _ => rfl) h
theorem same_l0 (l : List Int) (hl : l.length≤16777216) : ∀ (m : Nat) (i : Int) (k : Nat),0≤i→(l.length : Int)=i + m→m + 1≤k→Z5.l0 k l l l.length i=some true:=by
 intro m
 induction m with
 | zero =>
  intro i k h0 h1 hk
  obtain ⟨k,rfl⟩ : ∃ m,k=m + 1:=⟨k - 1,by omega⟩
  rw [Z5.l0,if_neg (by omega)]
 | succ m ih =>
  intro i k h0 h1 hk
  obtain ⟨k,rfl⟩ : ∃ m,k=m + 1:=⟨k - 1,by omega⟩
  rw [Z5.l0,if_pos (by omega),if_pos h0,if_pos (by omega),if_pos (by omega),if_pos rfl,w64 (i + 1) (by omega) (by omega)]
  exact ih (i + 1) k (by omega) (by omega) (by omega)
theorem same_is (k : Nat) (l : List Int) (hl : l.length≤16777216) (hk : 16777217≤k) : Z5.f k l l=some true:=by
 unfold Z5.f
 rw [if_pos rfl]
 exact same_l0 l hl l.length 0 k (by omega) (by omega) (by omega)
set_option maxRecDepth 100000 in
theorem awake3 : posternlaw14_awake.f 1152921504606846976=some true:=by decide +kernel
theorem decG_rng {p : Bt} (hp : p.Ok) : ∀ (f : Nat) (L : List Int) (a : Int) (out : List Int) (n i b : Int),0≤n→0≤i→i≤out.length→i≤2147483647→(out.length : Int) + L.length≤2147483646→(∀ x ∈ out,0≤x∧x≤1114111)→(∀ x ∈ (decG p f L a out n i b).1,0≤x∧x≤1114111)∧(decG p f L a out n i b).1.length≤out.length + L.length:=by
 intro f
 induction f with
 | zero => intro L a out n i b _ _ _ _ _ _;rw [decG];exact ⟨fun x hx => by simp at hx,by simp⟩
 | succ f ih =>
  intro L a out n i b hn hi0 hi1 hi2 hs ho
  rw [decG]
  by_cases hL : L=[]
  ·rw [if_pos hL];exact ⟨ho,by simp⟩
  rw [if_neg hL]
  have hok:=num_ok hp b L a i 1 p.base hi0 hi2 (by omega)
  show (∀ x ∈ (if (num p b L a i 1 p.base).1 ≠ 0 then _ else _ : List Int × Int × Int).1,_)∧(if (num p b L a i 1 p.base).1 ≠ 0 then _ else _ : List Int × Int × Int).1.length≤_
  show (∀ x ∈ (let r:=num p b L a i 1 p.base;_ : List Int × Int × Int).1,_)∧(let r:=num p b L a i 1 p.base;_ : List Int × Int × Int).1.length≤_
  generalize num p b L a i 1 p.base=r at *
  by_cases hr : r.1 ≠ 0
  ·rw [if_pos hr];exact ⟨fun x hx => by simp at hx,by simp⟩
  rw [if_neg hr]
  obtain ⟨m,m1,m2,m3,m4,m5,m6⟩:=hok (Decidable.not_not.1 hr)
  by_cases hbig : 1114111 < n + r.2.2.1 / ((out.length : Int) + 1)
  ·rw [if_pos hbig];exact ⟨fun x hx => by simp at hx,by simp⟩
  rw [if_neg hbig]
  by_cases hsc : scl (n + r.2.2.1 / ((out.length : Int) + 1))=false
  ·rw [if_pos hsc];exact ⟨fun x hx => by simp at hx,by simp⟩
  rw [if_neg hsc]
  have hq0 : 0≤r.2.2.1 / ((out.length : Int) + 1):=Int.ediv_nonneg (by omega) (by omega)
  have hm0 : 0≤r.2.2.1 % ((out.length : Int) + 1):=Int.emod_nonneg _ (by omega)
  have hm1 : r.2.2.1 % ((out.length : Int) + 1) < (out.length : Int) + 1:=Int.emod_lt_of_pos _ (by omega)
  have hN : 0≤n + r.2.2.1 / ((out.length : Int) + 1):=by omega
  generalize adp p (r.2.2.1 - i) ((out.length : Int) + 1) (i == 0)=B
  generalize r.2.2.1 % ((out.length : Int) + 1)=I at *
  generalize n + r.2.2.1 / ((out.length : Int) + 1)=N at *
  have hlen3 : (out.take I.toNat++N :: out.drop I.toNat).length=out.length + 1:=by simp only [List.length_append,List.length_take,List.length_cons,List.length_drop];omega
  have hlen4 : r.2.2.2.length=L.length - m:=by rw [m4,List.length_drop]
  obtain ⟨i1,i2⟩:=ih r.2.2.2 r.2.1 (out.take I.toNat++N :: out.drop I.toNat) N (I + 1) B hN (by omega) (by omega) (by omega) (by omega) (fun x hx => by
   rcases List.mem_append.1 hx with hx|hx
   ·exact ho x (List.mem_of_mem_take hx)
   ·rcases List.mem_cons.1 hx with rfl|hx
    ·omega
    ·exact ho x (List.mem_of_mem_drop hx))
  exact ⟨i1,by omega⟩
theorem dec_rng {p : Bt} (hp : p.Ok) (s : ByteArray) (hs : s.size≤16777216) : (∀ x ∈ (dec p (bytesOf s)).1,0≤x∧x≤1114111)∧(dec p (bytesOf s)).1.length≤s.size:=by
 have f0:=hp.first0
 have hl : (bytesOf s).length=s.size:=bytesOf_length s
 have hb : ∀ x ∈ bytesOf s,0≤x∧x≤255:=fun x h => mem_bytesOf h
 unfold dec
 by_cases h : 0 < lastP p.btw (bytesOf s) 0 0
 ·rw [if_pos h]
  by_cases h2 : 0≤fstB (fun b => !bas p b) ((bytesOf s).take (lastP p.btw (bytesOf s) 0 0).toNat) 0
  ·rw [if_pos h2];exact ⟨fun x hx => by simp at hx,by simp⟩
  rw [if_neg h2]
  have hL : lastP p.btw (bytesOf s) 0 0 < s.size:=by
   rcases lastP_spec p.btw (bytesOf s) 0 0 with ⟨h3,-⟩|⟨j,h1,-,-,h4⟩ <;> omega
  generalize lastP p.btw (bytesOf s) 0 0=d at *
  have e1 : ((bytesOf s).take d.toNat).length=d.toNat:=by rw [List.length_take];omega
  have e2 : ((bytesOf s).drop (d + 1).toNat).length=s.size - (d + 1).toNat:=by rw [List.length_drop];omega
  obtain ⟨i1,i2⟩:=decG_rng hp ((bytesOf s).length + 1) ((bytesOf s).drop (d + 1).toNat) (d + 1) ((bytesOf s).take d.toNat) p.first 0 p.bias (by omega) (by omega) (by omega) (by omega) (by omega) (fun x hx => by have:=hb x (List.mem_of_mem_take hx);omega)
  exact ⟨i1,by omega⟩
 ·rw [if_neg h]
  obtain ⟨i1,i2⟩:=decG_rng hp ((bytesOf s).length + 1) (bytesOf s) 0 [] p.first 0 p.bias (by omega) (by omega) (by simp) (by omega) (by simp only [List.length_nil];omega) (fun x hx => by simp at hx)
  exact ⟨i1,by simp only [List.length_nil] at i2;omega⟩
theorem chk_is (p : Bt) (hb : 0≤p.btw∧p.btw≤255) : Yg.f p.base p.least p.most p.skew p.damp p.bias p.first p.btw=some (if okB p=true then 0 else 144):=by
 unfold Yg.f
 rw [if_pos hb]
theorem encBy_is (p : Bt) (hb : 0≤p.btw∧p.btw≤255) (l : List Int) (hi : i32B l=true) (hl : l.length≤1048576) (k : Nat) (hk : 2000000000000≤k) : puny_EncodeBy.f k p.base p.least p.most p.skew p.damp p.bias p.first p.btw l=some (if okB p=true then encP p l else (⟨#[]⟩,0,144)):=by
 unfold puny_EncodeBy.f
 rw [chk_is p hb]
 simp only [Option.bind_some]
 by_cases h : okB p=true
 ·rw [if_pos h,if_pos h,if_pos rfl,penc_is (okB_ok h) l hi hl k hk]
  rfl
 ·rw [if_neg h,if_neg h,if_neg (by decide)]
theorem decBy_is (p : Bt) (hb : 0≤p.btw∧p.btw≤255) (s : ByteArray) (hs : s.size≤268435456) : puny_DecodeBy.f p.base p.least p.most p.skew p.damp p.bias p.first p.btw s=some (if okB p=true then dec p (bytesOf s) else ([],0,144)):=by
 unfold puny_DecodeBy.f
 rw [chk_is p hb]
 simp only [Option.bind_some]
 by_cases h : okB p=true
 ·rw [if_pos h,if_pos h,if_pos rfl,pdec_is (okB_ok h) s hs]
  rfl
 ·rw [if_neg h,if_neg h,if_neg (by decide)]
theorem boots_f (K : Nat) (hK : 900000000000000003≤K) (haw : posternlaw14_awake.f K=some true) (p : Bt) (hb : 0≤p.btw∧p.btw≤255) (l : List Int) (hi : i32B l=true) (hl : l.length≤1048576) (s : ByteArray) (hs : s.size≤1048576) : Zj.f K p.base p.least p.most p.skew p.damp p.bias p.first p.btw l s=some true:=by
 obtain ⟨K,rfl⟩ : ∃ m,K=m + 2:=⟨K - 2,by omega⟩
 have hplain : Z8.f p.base p.least p.most p.skew p.damp p.bias p.first p.btw=some (p.base,p.least,p.most,p.skew,p.damp,p.bias,p.first,p.btw):=rfl
 have hdl : (if okB p=true then dec p (bytesOf s) else ([],0,144)).1.length≤16777216:=by
  by_cases h : okB p=true
  ·rw [if_pos h]
   have:=(dec_rng (okB_ok h) s (by omega)).2
   omega
  ·rw [if_neg h]
   simp
 have hj1 : Zj.j1 (K + 1) s false p.base p.least p.most p.skew p.damp p.bias p.first p.btw=some true:=by
  rw [Zj.j1,if_neg (by simp),decBy_is p hb s (by omega),hplain]
  simp only [Option.bind_some]
  rw [RDecBy_is p hb s (by omega) K (by omega)]
  simp only [Option.bind_some]
  rw [same_is K _ hdl (by omega)]
  simp
 have hj0 : Zj.j0 (K + 2) l s false p.base p.least p.most p.skew p.damp p.bias p.first p.btw=some true:=by
  rw [Zj.j0,if_neg (by simp)]
  simp only [Option.bind_some,List.nil_append]
  rw [if_pos (by simp only [List.length_nil];omega),encBy_is p hb l hi hl (K + 1) (by omega),hplain]
  simp only [Option.bind_some]
  rw [REncBy_is p hb l hl (K + 1) (by omega)]
  simp only [Option.bind_some,if_true]
  rw [same_is (K + 1) l (by omega) (by omega)]
  simp only [Option.bind_some,Bool.not_true]
  exact hj1
 unfold Zj.f
 rw [haw]
 simp only [Option.bind_some,if_true]
 rw [chk_is p hb,hplain]
 simp only [Option.bind_some]
 rw [rchk p hb (K + 2) (by omega)]
 simp only [Option.bind_some]
 by_cases h : okB p=true
 ·rw [h]
  simp only [if_true]
  exact hj0
 ·rw [Bool.not_eq_true] at h
  rw [h]
  exact hj0
theorem punyBoots_any (p : Bt) (l : List Int) (A : Option Addr) (c : Nat) (s : ByteArray) (w : World) (hb : 0≤p.btw∧p.btw≤255) (R : ReadsInt w .i32 A l.length l) (hc : l.length≤c) (hi : i32s l) (hl : l.length≤1048576) (hs : s.size≤1048576) (T : Tabs w) :
  Calls Tryd.prog 9 #[.agg (bootA p),.slice A l.length c,.string s] w fun e w' => e=.returned (.bool true)∧Below w.heap.size w w' :=
 Zj.calls 1152921504606846976 p.base p.least p.most p.skew p.damp p.bias p.first p.btw A c l s true w (C_of_ints R) hc (boots_f _ (by omega) awake3 p hb l (List.all_eq_true.2 fun x hx => decide_eq_true (hi x hx)) hl s hs) T
end Go.Proofs.YtmjlkifmbhaiiaaDoor.V
