/- import Derived.Test.YtfbgmlophkbejaaDoorBas Digits: strings.IndexByte by the model's own entry; octet.Digit, the document's Digit. (Written by wip/gen/octg.py.) Percent: coded bytes, the document's side: coded, says. Percent: the program's coded. Percent: percent.walk over a text, by whatever closure. Percent: decoding: the items of a text; the closures of Decode, Coded, Strays; these three; the document's Decode. Percent: the document's Decode. Percent: Strict, the statements' awake and ints. As SetA, where package octet's own words are at hand:  digits of a byte (of the seats whose dump lacks the rest of package octet). A strings.Builder of the call's own: copyCheck, WriteByte, WriteString, String. Percent: coding by a set: code, Encode, Normal; the document's Encode, Normal. Percent: the document's Normal. -/
import Derived.Lib.Strings
import Derived.Lib.Slices
import Derived.Lib.Walk
import Derived.Lib.Bytealg
import Derived.ScopeJumps
import Derived.WalkMore
import Derived.Test.YtfbgmlophkbejaaDoorBas
import Derived.Test.YtfbgmlophkbejaaDoorOpO
import Derived.Test.YtfbgmlophkbejaaDoorShelf
set_option linter.unusedVariables false
set_option linter.unusedSimpArgs false
namespace Go.Proofs.YtfbgmlophkbejaaDoor.Z
open Go.RowKit Go.Proofs.YtfbgmlophkbejaaDoorW.PrintWords Go.Proofs.YtfbgmlophkbejaaDoorW.PrintLast
def cls (b : Int) : Int :=
 if 48≤b∧b≤57 then 9 else if 65≤b∧b≤70 then 10 else if 97≤b∧b≤102 then 12 else if 65≤b∧b≤90 then 2 else if 97≤b∧b≤122 then 4
 else if b < 32 ∨ b=127 then 16 else if 127 < b then 32 else if b=32 then 128 else 64
set_option maxHeartbeats 4000000 in
theorem class_any (b : Int) (w : World) (h0 : 0≤b) (h1 : b≤255) : Calls Tryd.prog 115 #[.int .u8 b] w fun e w' => e=.returned (.int .i64 (cls b))∧w=w':=by
 go_enter Tryd.func115,Tryd.ntmps115
 go_wp2
 all_goals
  go_ret
  refine ⟨ret_int ?_,rfl⟩
  try simp only [beq_iff_eq,beq_eq_false_iff_ne,ne_eq] at *
  unfold cls
  repeat (first|rw [if_pos (by omega)]|rw [if_neg (by omega)])
  all_goals omega
end Go.Proofs.YtfbgmlophkbejaaDoor.Z
set_option linter.unusedVariables false
set_option linter.unusedSimpArgs false
namespace Go.Proofs.YtfbgmlophkbejaaDoor.Z
open Go.RowKit Go.Proofs.YtfbgmlophkbejaaDoorW.PrintWords Go.Proofs.YtfbgmlophkbejaaDoorW.PrintLast
set_option maxHeartbeats 1000000 in
set_option maxRecDepth 100000 in
theorem lIdx_any (s : ByteArray) (c : Int) (w : World) : Calls Tryd.prog 124 #[.string s,.int .u8 c] w fun e w' => e=.returned (.int .i64 (Lib.indexByte s.data.toList c.toNat.toUInt8))∧w'=w:=by
 go_enter Tryd.func124,Tryd.ntmps124
 go_wp2
 rw [run_callFunc_extern Tryd.func131 (by kernel_rfl) (by kernel_rfl) (by kernel_rfl) (e:=Extern.BytealgIndexByte.indexByte) (by kernel_rfl),Lib.run_indexByteString]
 simp only [Result.andThen]
 rw [Oper.upon_value]
 go_wp2
 go_ret
 exact ⟨rfl,rfl⟩
theorem sIdx_any (s : ByteArray) (c : Int) (w : World) : Calls Tryd.prog 116 #[.string s,.int .u8 c] w fun e w' => e=.returned (.int .i64 (Lib.indexByte s.data.toList c.toNat.toUInt8))∧w'=w:=by
 go_enter Tryd.func116,Tryd.ntmps116
 go_wp2_with (go_at_call 124;refine (lIdx_any _ _ _).mono ?_;rintro e w' ⟨rfl,rfl⟩)
 go_ret
 exact ⟨rfl,rfl⟩
theorem each256 {α : Type} [BEq α] [LawfulBEq α] {p q : Int→α} (h : ((List.range 256).all fun n => p (n : Int) == q (n : Int))=true) : ∀ b,0≤b→b < 256→p b=q b:=by
 intro b h0 h1
 have:=List.all_eq_true.1 h b.toNat (by simp;omega)
 have e : ((b.toNat : Nat) : Int)=b:=by omega
 rw [e] at this
 exact eq_of_beq this
def d36 (b : Int) : Int:=if 48≤b∧b≤57 then b - 48 else if 97≤b∧b≤122 then b - 87 else if 65≤b∧b≤90 then b - 55 else -1
def low36 (b : Int) : Int:=if 48≤b∧b≤57 then b - 48 else if 97≤b∧b≤122 then b - 87 else -1
def dig (b base : Int) : Int:=if base < 2 ∨ 36 < base then -1 else if base≤d36 b then -1 else d36 b
theorem idx_low (c : Int) (w : World) (h0 : 0≤c) (h1 : c < 256) : Calls Tryd.prog 116 #[.string ⟨#[48,49,50,51,52,53,54,55,56,57,97,98,99,100,101,102,103,104,105,106,107,108,109,110,111,112,113,114,115,116,117,118,119,120,121,122]⟩,.int .u8 c] w fun e w' => e=.returned (.int .i64 (low36 c))∧w'=w:=by
 have h:=sIdx_any ⟨#[48,49,50,51,52,53,54,55,56,57,97,98,99,100,101,102,103,104,105,106,107,108,109,110,111,112,113,114,115,116,117,118,119,120,121,122]⟩ c w
 have e : Lib.indexByte (ByteArray.mk #[48,49,50,51,52,53,54,55,56,57,97,98,99,100,101,102,103,104,105,106,107,108,109,110,111,112,113,114,115,116,117,118,119,120,121,122]).data.toList c.toNat.toUInt8=low36 c:=each256 (p:=fun c => Lib.indexByte (ByteArray.mk #[48,49,50,51,52,53,54,55,56,57,97,98,99,100,101,102,103,104,105,106,107,108,109,110,111,112,113,114,115,116,117,118,119,120,121,122]).data.toList c.toNat.toUInt8) (q:=low36) (by kernel_rfl) c h0 h1
 rw [e] at h
 exact h
theorem upper_bit (b : Int) (h0 : 0≤b) (h1 : b < 256) : (bits BinOp.and IntKind.i64 (cls b) 2 == 0)=!decide (65≤b∧b≤90):=each256 (p:=fun b => (bits BinOp.and IntKind.i64 (cls b) 2 == 0)) (q:=fun b => !decide (65≤b∧b≤90)) (by kernel_rfl) b h0 h1
set_option maxHeartbeats 2000000 in
theorem digit_any (b base : Int) (w : World) (h0 : 0≤b) (h1 : b≤255) : Calls Tryd.prog 97 #[.int .u8 b,.int .i64 base] w fun e w' => e=.returned (.int .i64 (dig b base))∧w'=w:=by
 by_cases hb : base < 2 ∨ 36 < base
 ·have hd : dig b base=-1:=by unfold dig;rw [if_pos hb]
  rw [hd]
  clear hd
  by_cases hb2 : base < 2
  ·go_enter Tryd.func97,Tryd.ntmps97
   go_wp2
   go_ret
   exact ⟨rfl,rfl⟩
  ·have hb3 : 36 < base:=by omega
   go_enter Tryd.func97,Tryd.ntmps97
   go_wp2
   go_ret
   exact ⟨rfl,rfl⟩
 ·have hd : dig b base=if base≤d36 b then -1 else d36 b:=by unfold dig;rw [if_neg hb]
  rw [hd]
  clear hd
  have hb2 : ¬ base < 2:=by omega
  have hb3 : ¬ 36 < base:=by omega
  have hu:=upper_bit b h0 (by omega)
  by_cases hup : 65≤b∧b≤90
  ·rw [decide_eq_true hup,Bool.not_true] at hu
   have e : d36 b=low36 (b + 32):=by unfold d36 low36;rw [if_neg (by omega),if_neg (by omega),if_pos hup,if_neg (by omega),if_pos (by omega)];omega
   rw [e]
   clear e hb
   generalize hx : low36 (b + 32)=x
   have hi : ∀ W : World,Calls Tryd.prog 116 #[.string ⟨#[48,49,50,51,52,53,54,55,56,57,97,98,99,100,101,102,103,104,105,106,107,108,109,110,111,112,113,114,115,116,117,118,119,120,121,122]⟩,.int .u8 (b + 32)] W fun e w' => e=.returned (.int .i64 x)∧w'=W:=fun W => hx ▸ idx_low (b + 32) W (by omega) (by omega)
   have Hi:=Lib.hid hi
   clear hi hx
   by_cases hle : base≤x
   ·rw [if_pos hle]
    go_enter Tryd.func97,Tryd.ntmps97
    go_wp2_with (first|(go_at_call 115;refine (class_any _ _ h0 h1).mono ?_;rintro e w' ⟨rfl,rfl⟩)|(go_at_call 116;refine (Hi.out _).mono ?_;rintro e w' ⟨rfl,rfl⟩))
    go_ret
    exact ⟨rfl,rfl⟩
   ·rw [if_neg hle]
    go_enter Tryd.func97,Tryd.ntmps97
    go_wp2_with (first|(go_at_call 115;refine (class_any _ _ h0 h1).mono ?_;rintro e w' ⟨rfl,rfl⟩)|(go_at_call 116;refine (Hi.out _).mono ?_;rintro e w' ⟨rfl,rfl⟩))
    go_ret
    exact ⟨rfl,rfl⟩
  ·rw [decide_eq_false hup,Bool.not_false] at hu
   have e : d36 b=low36 b:=by unfold d36 low36;rw [if_neg hup]
   rw [e]
   clear e hb
   generalize hx : low36 b=x
   have hi : ∀ W : World,Calls Tryd.prog 116 #[.string ⟨#[48,49,50,51,52,53,54,55,56,57,97,98,99,100,101,102,103,104,105,106,107,108,109,110,111,112,113,114,115,116,117,118,119,120,121,122]⟩,.int .u8 b] W fun e w' => e=.returned (.int .i64 x)∧w'=W:=fun W => hx ▸ idx_low b W (by omega) (by omega)
   have Hi:=Lib.hid hi
   clear hi hx hup
   by_cases hle : base≤x
   ·rw [if_pos hle]
    go_enter Tryd.func97,Tryd.ntmps97
    go_wp2_with (first|(go_at_call 115;refine (class_any _ _ h0 h1).mono ?_;rintro e w' ⟨rfl,rfl⟩)|(go_at_call 116;refine (Hi.out _).mono ?_;rintro e w' ⟨rfl,rfl⟩))
    go_ret
    exact ⟨rfl,rfl⟩
   ·rw [if_neg hle]
    go_enter Tryd.func97,Tryd.ntmps97
    go_wp2_with (first|(go_at_call 115;refine (class_any _ _ h0 h1).mono ?_;rintro e w' ⟨rfl,rfl⟩)|(go_at_call 116;refine (Hi.out _).mono ?_;rintro e w' ⟨rfl,rfl⟩))
    go_ret
    exact ⟨rfl,rfl⟩
end Go.Proofs.YtfbgmlophkbejaaDoor.Z
set_option linter.unusedVariables false
set_option linter.unusedSimpArgs false
namespace Go.Proofs.YtfbgmlophkbejaaDoor.Z
open Go.RowKit Go.Proofs.YtfbgmlophkbejaaDoorW.PrintWords Go.Proofs.YtfbgmlophkbejaaDoorW.PrintLast
def isC (s : ByteArray) (k : Int) : Bool:=decide (k + 2 < s.size) && (bt s k == 37) && decide (0≤dig (bt s (k + 1)) 16) && decide (0≤dig (bt s (k + 2)) 16)
def sayC (s : ByteArray) (k : Int) : Int:=16 * dig (bt s (k + 1)) 16 + dig (bt s (k + 2)) 16
theorem dig16 (b : Int) : -1≤dig b 16∧dig b 16 < 16:=by
 unfold dig d36
 rw [if_neg (by omega)]
 repeat' split
 all_goals omega
end Go.Proofs.YtfbgmlophkbejaaDoor.Z
set_option linter.unusedVariables false
set_option linter.unusedSimpArgs false
namespace Go.Proofs.YtfbgmlophkbejaaDoor.Z
open Go.RowKit Go.Proofs.YtfbgmlophkbejaaDoorW.PrintWords Go.Proofs.YtfbgmlophkbejaaDoorW.PrintLast
def CodedAt (t : ByteArray) (w : World) (e : Ending) (w' : World) : Prop:=∃ v : Int,(isC t 0=true→v=sayC t 0)∧e=.returned (.tuple #[.int .u8 v,.bool (isC t 0)])∧Below w.heap.size w w'
theorem or16 (a b : Int) (ha : -1≤a∧a < 16) (hb : -1≤b∧b < 16) (h : 0≤a∧0≤b) : IntKind.u8.wrap (bits BinOp.or IntKind.i64 (a * 16) b)=16 * a + b:=by
 have key : ∀ i : Nat,i < 16→∀ j : Nat,j < 16→IntKind.u8.wrap (bits BinOp.or IntKind.i64 ((i : Int) * 16) (j : Int))=16 * (i : Int) + (j : Int):=by decide +kernel
 obtain ⟨i,rfl⟩:=Int.eq_ofNat_of_zero_le h.1
 obtain ⟨j,rfl⟩:=Int.eq_ofNat_of_zero_le h.2
 exact key i (by omega) j (by omega)
set_option maxHeartbeats 4000000 in
theorem coded_any (t : ByteArray) (w : World) (hs : t.size≤140737488351232) : Calls Tryd.prog 75 #[.string t] w (CodedAt t w):=by
 by_cases hl : t.size < 3
 ·have hc : isC t 0=false:=by unfold isC;rw [decide_eq_false (by omega)];rfl
  have hr : ∀ w' : World,Below w.heap.size w w'→CodedAt t w (.returned (.tuple #[.int .u8 0,.bool false])) w':=fun w' h => ⟨0,fun h => (by rw [hc] at h;cases h),by rw [hc],h⟩
  have Hr:=Lib.hid hr
  clear hr hc
  go_enter Tryd.func75,Tryd.ntmps75
  go_wp2
  go_ret2
  exact Hr.out _ (Below.refl _ _)
 ·have b0:=bt_at t 0
  have r0:=bt_range t 0
  have b1:=bt_at t 1
  have r1:=bt_range t 1
  have b2:=bt_at t 2
  have r2:=bt_range t 2
  simp only [show (0 : Int).toNat=0 from rfl,show (1 : Int).toNat=1 from rfl,show (2 : Int).toNat=2 from rfl] at b0 b1 b2
  cases hp : (bt t 0 == 37)
  ·have hp2 : (bt t 0 != 37)=true:=by simp [bne,hp]
   have hc : isC t 0=false:=by unfold isC;rw [hp];simp
   have hr : ∀ w' : World,Below w.heap.size w w'→CodedAt t w (.returned (.tuple #[.int .u8 0,.bool false])) w':=fun w' h => ⟨0,fun h => (by rw [hc] at h;cases h),by rw [hc],h⟩
   have Hr:=Lib.hid hr
   clear hr hc
   go_enter Tryd.func75,Tryd.ntmps75
   go_wp2
   go_ret2
   exact Hr.out _ (Below.refl _ _)
  ·have hp2 : (bt t 0 != 37)=false:=by simp [bne,hp]
   have e1:=dig16 (bt t 1)
   have e2:=dig16 (bt t 2)
   have ho:=or16 (dig (bt t 1) 16) (dig (bt t 2) 16) e1 e2
   have hc : isC t 0=(decide (0≤dig (bt t 1) 16) && decide (0≤dig (bt t 2) 16)):=by unfold isC;rw [hp,decide_eq_true (by omega)];rfl
   have hsay : sayC t 0=16 * dig (bt t 1) 16 + dig (bt t 2) 16:=rfl
   have hr : ∀ (v : Int) (w' : World),(0≤dig (bt t 1) 16∧0≤dig (bt t 2) 16→v=16 * dig (bt t 1) 16 + dig (bt t 2) 16)→Below w.heap.size w w'→CodedAt t w (.returned (.tuple #[.int .u8 v,.bool (decide (0≤dig (bt t 1) 16) && decide (0≤dig (bt t 2) 16))])) w':=fun v w' h hb => ⟨v,fun g => by rw [hc] at g;simp at g;rw [hsay];exact h g,by rw [hc],hb⟩
   have Hr:=Lib.hid hr
   have Ho:=Lib.hid ho
   clear hr hc hsay ho
   have n1 : 1 < t.size:=by omega
   have n2 : 2 < t.size:=by omega
   replace b1:=b1 n1
   replace b2:=b2 n2
   go_enter Tryd.func75,Tryd.ntmps75
   go_upto_region 3 with (fail)
   go_quiet ((first|(go_at_call 97;with_reducible exact Calls.quiet_of_same (digit_any (bt t 1) 16 _ r1.1 r1.2))|(go_at_call 97;with_reducible exact Calls.quiet_of_same (digit_any (bt t 2) 16 _ r2.1 r2.2))))
   by_cases h1 : 0≤dig (bt t 1) 16
   ·go_wp2
    go_ret2
    have hfin : ∀ W : World,Below w.heap.size w W→CodedAt t w (.returned (.tuple #[.int .u8 (bits BinOp.or IntKind.i64 (dig (bt t 1) 16 * 16) (dig (bt t 2) 16) % 256),.bool (decide (0≤dig (bt t 2) 16))])) W:=fun W hW => by
     have:=Hr.out (bits BinOp.or IntKind.i64 (dig (bt t 1) 16 * 16) (dig (bt t 2) 16) % 256) W (fun h => by have:=Ho.out h;rw [IntKind.wrap_u8] at this;exact this) hW
     rw [decide_eq_true h1,Bool.true_and] at this
     exact this
    exact hfin _ (below_drewN (Below.refl _ _) _)
   ·have hr2 : ∀ (v : Int) (w' : World),Below w.heap.size w w'→CodedAt t w (.returned (.tuple #[.int .u8 v,.bool false])) w':=fun v w' hb => by
     have:=Hr.out v w' (fun h => absurd h.1 h1) hb
     rw [decide_eq_false h1,Bool.false_and] at this
     exact this
    have Hr2:=Lib.hid hr2
    clear hr2
    go_wp2
    go_ret2
    exact Hr2.out _ _ (below_drewN (Below.refl _ _) _)
end Go.Proofs.YtfbgmlophkbejaaDoor.Z
set_option linter.unusedVariables false
set_option linter.unusedSimpArgs false
namespace Go.Proofs.YtfbgmlophkbejaaDoor.Z
open Go.RowKit Go.Proofs.YtfbgmlophkbejaaDoorW.PrintWords Go.Proofs.YtfbgmlophkbejaaDoorW.PrintLast
def nxtC (s : ByteArray) (p : Int) : Int:=if isC s p=true then p + 3 else p + 1
def byteC (s : ByteArray) (p : Int) : Int:=if isC s p=true then sayC s p else bt s p
theorem bt_cut (s : ByteArray) (p i : Int) (h0 : 0≤p) (hi : 0≤i) : bt (s.extract p.toNat s.size) i=bt s (p + i):=by
 unfold bt
 have e : (s.extract p.toNat s.size).size=s.size - p.toNat:=by simp
 by_cases h : (p + i).toNat < s.size
 ·rw [dif_pos h,dif_pos (by rw [e];omega)]
  have h2 : p.toNat + i.toNat=(p + i).toNat:=by omega
  have h3 : (s.extract p.toNat s.size)[i.toNat]'(by rw [e]; omega) = s[p.toNat + i.toNat]'(by omega) := ByteArray.getElem_extract _
  rw [h3]
  congr 2
  all_goals simp only [h2]
 ·rw [dif_neg h,dif_neg (by rw [e];omega)]
theorem isC_cut (s : ByteArray) (p : Int) (h0 : 0≤p) (h1 : p≤s.size) : isC (s.extract p.toNat s.size) 0=isC s p:=by
 have e : ((s.extract p.toNat s.size).size : Int)=s.size - p:=by
  have : (s.extract p.toNat s.size).size=s.size - p.toNat:=by simp
  omega
 unfold isC
 rw [e,bt_cut s p 0 h0 (by omega),bt_cut s p _ h0 (by omega),bt_cut s p _ h0 (by omega)]
 simp only [Int.add_zero,Int.zero_add]
 congr 3
 exact decide_eq_decide.2 ⟨fun h => by omega,fun h => by omega⟩
theorem sayC_cut (s : ByteArray) (p : Int) (h0 : 0≤p) : sayC (s.extract p.toNat s.size) 0=sayC s p:=by
 unfold sayC
 rw [bt_cut s p _ h0 (by omega),bt_cut s p _ h0 (by omega)]
 rfl
def WalkJ (s : ByteArray) (g : Value) (I : Int→World→Prop) (a : Act) (w : World) : Prop :=
 ∃ (p : Int),0≤p∧p≤s.size∧I p w∧a.defers=[]∧∃ (u5 u6 u7 u8 u9 u10 u11 u12 u13 u14 u15 u16 u17 u18 u19 u20 u21 u22 u23 u24 u25 u26 u27 u28 u29 u30 u31 u32 : Value),a.tmps=#[.string s,g,undef,undef,.int .i64 p,u5,u6,u7,u8,u9,u10,u11,u12,u13,u14,u15,u16,u17,u18,u19,u20,u21,u22,u23,u24,u25,u26,u27,u28,u29,u30,u31,u32]
theorem wp_scope_jumps2 {P : Program} {a : Act} {w : World} {Q : Exit→Act→World→Prop} {c X : Code} (l : Nat) (J : Act→World→Prop) (μ : Act→World→Nat) (hf : findLabel c l=some (Code.skip.seq X))
  (pass : ∀ a w,J a w→X.wp P (Exit.jump l (fun a' w' => J a' w'∧μ a' w' < μ a w) Q) a w)
  (first : Hid (∀ a w,J a w→X.wp P (Exit.jump l J Q) a w)→c.wp P (Exit.jump l J Q) a w) : (Code.scope c).wp P Q a w :=
 wp_scope_jumps l J μ hf (first (Lib.hid fun a w h => wp_mono (pass a w h) fun e a w q => by
  cases e <;> first|exact q|exact ⟨q.1,q.2.1⟩)) (fun a w h => wp_seq (wp_skip (pass a w h)))
theorem walk_any (F : Nat) (caps : Array Value) (eg : ∀ args w,(callFunc F args).run Tryd.prog w=.ok (.enter F args) w) (s : ByteArray) (hs : s.size≤140737488351232) (I : Int→World→Prop)
  (keep : ∀ p w w',I p w→Below w.heap.size w w'→I p w')
  (step : ∀ (p : Int) w,0≤p→p < s.size→I p w→Calls Tryd.prog F (#[.int .i64 p,.int .u8 (byteC s p),.bool (isC s p)]++caps) w fun e w' => e=.returned (.tuple #[])∧I (nxtC s p) w')
  (w : World) (h0 : I 0 w) : Calls Tryd.prog 43 #[.string s,.func (.func F) #[] caps] w fun e w' => e=.returned (.tuple #[])∧I s.size w':=by
 go_enter Tryd.func43,Tryd.ntmps43
 go_wp2
 refine wp_scope_jumps2 0 (WalkJ s (.func (.func F) #[] caps) I) (fun a' _ => s.size - (intOf (a'.tmps.getD 4 undef)).toNat) rfl ?_ ?_
 ·rintro ⟨tmps,defers⟩ w' ⟨p,hp0,hp1,hI,hdf,u5,u6,u7,u8,u9,u10,u11,u12,u13,u14,u15,u16,u17,u18,u19,u20,u21,u22,u23,u24,u25,u26,u27,u28,u29,u30,u31,u32,htm⟩
  simp only at hdf htm
  subst hdf htm
  clear h0
  by_cases hlt : p < s.size
  ·have hsz : (s.extract p.toNat s.size).size≤140737488351232:=by
    have : (s.extract p.toNat s.size).size=s.size - p.toNat:=by simp
    omega
   have hC:=coded_any (s.extract p.toNat s.size) w' hsz
   cases hc : isC s p
   ·have hC1 : Calls Tryd.prog 75 #[.string (s.extract p.toNat s.size)] w' fun e w1 => ∃ v : Int,e=.returned (.tuple #[.int .u8 v,.bool false])∧Below w'.heap.size w' w1:=hC.mono fun e w1 ⟨v,h1,h2,h3⟩ => ⟨v,by rw [isC_cut s p hp0 hp1,hc] at h2;exact h2,h3⟩
    have HC:=Lib.hid hC1
    have hst:=fun w1 hb => step p w1 hp0 hlt (keep p w' w1 hI hb)
    unfold byteC nxtC at hst
    rw [hc,if_neg (by simp),if_neg (by simp)] at hst
    have Hst:=Lib.hid hst
    clear hC hC1 hst hI keep step
    have hbt:=bt_at s p
    go_wp2_with (go_at_call 75;refine (HC.out).mono ?_;rintro e w1 ⟨v,rfl,hb⟩)
    refine (Hst.out _ hb).mono ?_
    rintro e w2 ⟨rfl,hI2⟩
    have HI2:=Lib.hid hI2
    clear hI2
    go_wp2
    go_step3
    exact ⟨rfl,⟨_,by omega,by omega,HI2.out,rfl,_,_,_,_,_,_,_,_,_,_,_,_,_,_,_,_,_,_,_,_,_,_,_,_,_,_,_,_,rfl⟩,by simp [intOf];omega⟩
   ·have hp3 : p + 3≤s.size:=by
     unfold isC at hc
     simp only [Bool.and_eq_true,decide_eq_true_eq] at hc
     omega
    have hC1 : Calls Tryd.prog 75 #[.string (s.extract p.toNat s.size)] w' fun e w1 => e=.returned (.tuple #[.int .u8 (sayC s p),.bool true])∧Below w'.heap.size w' w1:=hC.mono fun e w1 ⟨v,h1,h2,h3⟩ => ⟨by rw [isC_cut s p hp0 hp1,hc] at h1 h2;rw [h1 rfl,sayC_cut s p hp0] at h2;exact h2,h3⟩
    have HC:=Lib.hid hC1
    have hst:=fun w1 hb => step p w1 hp0 hlt (keep p w' w1 hI hb)
    unfold byteC nxtC at hst
    rw [hc,if_pos rfl,if_pos rfl] at hst
    have Hst:=Lib.hid hst
    clear hC hC1 hst hI keep step
    have hbt:=bt_at s p
    go_wp2_with (go_at_call 75;refine (HC.out).mono ?_;rintro e w1 ⟨rfl,hb⟩)
    refine (Hst.out _ hb).mono ?_
    rintro e w2 ⟨rfl,hI2⟩
    have HI2:=Lib.hid hI2
    clear hI2
    go_wp2
    go_step3
    exact ⟨rfl,⟨_,by omega,by omega,HI2.out,rfl,_,_,_,_,_,_,_,_,_,_,_,_,_,_,_,_,_,_,_,_,_,_,_,_,_,_,_,_,rfl⟩,by simp [intOf];omega⟩
  ·obtain rfl : p=s.size:=by omega
   go_wp2
   simp only [Exit.jump]
   have HI:=Lib.hid hI
   exact bodyPost_ret (v:=.tuple #[]) (by simp [results,Tryd.results43,go_sem]) rfl ⟨rfl,HI.out⟩
 ·intro HB
  go_wp2
  go_step3
  rename_i K hK
  refine hK _ _ (HB.out _ _ ?_)
  exact ⟨0,by omega,by omega,h0,rfl,_,_,_,_,_,_,_,_,_,_,_,_,_,_,_,_,_,_,_,_,_,_,_,_,_,_,_,_,rfl⟩
end Go.Proofs.YtfbgmlophkbejaaDoor.Z
set_option linter.unusedVariables false
set_option linter.unusedSimpArgs false
namespace Go.Proofs.YtfbgmlophkbejaaDoor.Z
open Go.RowKit Go.Proofs.YtfbgmlophkbejaaDoorW.PrintWords Go.Proofs.YtfbgmlophkbejaaDoorW.PrintLast
theorem nxtC_gt (s : ByteArray) (p : Int) : p < nxtC s p:=by unfold nxtC;split <;> omega
theorem isC_room {s : ByteArray} {p : Int} (h : isC s p=true) : p + 2 < s.size:=by
 unfold isC at h
 simp only [Bool.and_eq_true,decide_eq_true_eq] at h
 exact h.1.1.1
theorem nxtC_le (s : ByteArray) (p : Int) (h : p < s.size) : nxtC s p≤s.size:=by
 unfold nxtC
 split
 ·have:=isC_room ‹_›;omega
 ·omega
def itemsF (s : ByteArray) (p : Int) : List Int:=if h : p < s.size then p :: itemsF s (nxtC s p) else []
termination_by (s.size - p).toNat
decreasing_by have:=nxtC_gt s p;omega
theorem itemsF_go {s : ByteArray} {p : Int} (h : p < s.size) : itemsF s p=p :: itemsF s (nxtC s p):=by rw [itemsF,dif_pos h]
theorem itemsF_end (s : ByteArray) : itemsF s s.size=[]:=by rw [itemsF,dif_neg (by omega)]
theorem itemsF_len (s : ByteArray) (n : Nat) : ∀ p : Int,0≤p→p≤s.size→(s.size - p).toNat=n→((itemsF s p).length : Int)≤s.size - p:=by
 induction n using Nat.strongRecOn with
 | _ n ih =>
  intro p h0 h1 hn
  by_cases h : p < s.size
  ·have hg:=nxtC_gt s p
   have hl:=nxtC_le s p h
   have:=ih _ (by omega) (nxtC s p) (by omega) hl rfl
   rw [itemsF_go h,List.length_cons]
   omega
  ·obtain rfl : p=s.size:=by omega
   rw [itemsF_end]
   simp
def decL (s : ByteArray) : List Int:=(itemsF s 0).map (byteC s)
def decS (s : ByteArray) : ByteArray:=strOfNums (decL s)
def cntF (s : ByteArray) (p : Int) : Nat:=((itemsF s p).filter fun p => isC s p).length
def isS (s : ByteArray) (p : Int) : Bool:=!isC s p && (bt s p == 37)
def strF (s : ByteArray) (p : Int) : List Int:=(itemsF s p).filter (isS s)
theorem cntF_go {s : ByteArray} {p : Int} (h : p < s.size) : cntF s p=(if isC s p=true then 1 else 0) + cntF s (nxtC s p):=by
 unfold cntF;rw [itemsF_go h,List.filter_cons];split <;> simp <;> omega
theorem strF_go {s : ByteArray} {p : Int} (h : p < s.size) : strF s p=if isS s p=true then p :: strF s (nxtC s p) else strF s (nxtC s p):=by
 unfold strF;rw [itemsF_go h,List.filter_cons]
theorem cntF_le (s : ByteArray) (p : Int) (h0 : 0≤p) (h1 : p≤s.size) : (cntF s p : Int)≤s.size - p:=by
 have:=itemsF_len s _ p h0 h1 rfl
 have:=List.length_filter_le (fun p => isC s p) (itemsF s p)
 unfold cntF
 omega
theorem strF_le (s : ByteArray) (p : Int) (h0 : 0≤p) (h1 : p≤s.size) : ((strF s p).length : Int)≤s.size - p:=by
 have:=itemsF_len s _ p h0 h1 rfl
 have:=List.length_filter_le (isS s) (itemsF s p)
 unfold strF
 omega
def CellRow (w : World) (g : Nat) (t e : TypeId) (k : IntKind) (xs : List Int) : Prop:=∃ v,Blk w g t #[v]∧w.ownsRow (g + 1) e 1 v xs.length (nums k xs)
theorem CellRow.after {w w' : World} {g : Nat} {t e : TypeId} {k : IntKind} {xs : List Int} (h : CellRow w g t e k xs) (hb : Below w.heap.size w w') : CellRow w' g t e k xs:=by
 obtain ⟨v,h1,h2⟩:=h
 exact ⟨v,h1.after hb,pw_own_below h2 hb⟩
theorem CellRow.put {w : World} {g : Nat} {t e : TypeId} {k : IntKind} {xs : List Int} {v v1 : Value} (h : Blk w g t #[v]) (ho : w.ownsRow (g + 1) e 1 v1 xs.length (nums k xs)) : CellRow (w.setCell ⟨g,0,none⟩ v1) g t e k xs :=
 ⟨v1,h.set_ 0 v1,own_setCell ho (fun he => by have:=own_base ho g he.symm;omega) v1⟩
theorem dec1_any (p b : Int) (c : Bool) (g : Nat) (w : World) (xs : List Int) (h : CellRow w g 70 5 .u8 xs) (hl : xs.length + 1≤140737488355328) :
  Calls Tryd.prog 50 #[.int .i64 p,.int .u8 b,.bool c,.pointer (some ⟨g,0,none⟩)] w fun e w' => e=.returned (.tuple #[])∧CellRow w' g 70 5 .u8 (xs++[b])∧Below g w w':=by
 obtain ⟨v,hb,ho⟩:=h
 have hlt:=hb.lt
 have c0 : w.cell? ⟨g,0,none⟩=some v:=hb.cell 0
 go_enter Tryd.func50,Tryd.ntmps50
 go_wp2_with (at_builtin;refine print_append_num (w0:=w) (W:=w) (g + 1) rfl (.tmp 7) (.tmp 9) 70 5 .u8 1 rfl Tryd.underlying70 info_u8 (by decide) _ xs _ rfl rfl ho (Below.refl _ _) (by omega) (by omega) ?_;intro v1 w1 ho1 hb1 hg1 hat1;rw [List.length_append] at ho1;obtain ⟨ao1,cp1,rfl⟩:=own_slice ho1;have hb2:=hb.below hb1 (by omega);have c1 : w1.cell? ⟨g,0,none⟩=some v:=hb2.cell 0;have c2:=hb2.frozen 0)
 go_end0
 exact ⟨rfl,CellRow.put hb2 (by rw [List.length_append];exact ho1),Below.setCell (p:=⟨g,0,none⟩) (hb1.mono (Nat.le_succ g)) (Nat.le_refl g) _⟩
theorem enter_fn {P : Program} {F : FuncId} {fn : Func} (hf : P.funcs[F]? = some fn) (h1 : (fn.name == "runtime.NumGoroutine") = false) (h2 : fn.body.isNone = false) (args : Array Value) (w : World) : (callFunc F args).run P w = .ok (.enter F args) w := by
 have h1' : ¬ fn.name = "runtime.NumGoroutine" := by simpa using h1
 have h2' : ¬ fn.body=Option.none:=fun e => by rw [e] at h2;cases h2
 unfold callFunc
 simp [go_sem,hf,h1',h2']
set_option maxHeartbeats 1000000 in
theorem decode_any (s : ByteArray) (w : World) (hs : s.size≤140737488351232) : Calls Tryd.prog 15 #[.string s] w fun e w' => e=.returned (.string (decS s))∧Below w.heap.size w w':=by
 have hw:=walk_any 50 #[.pointer (some ⟨w.heap.size,0,none⟩)] (enter_fn Tryd.func50 (by kernel_rfl) (by kernel_rfl)) s hs
  (fun p wr => 0≤p∧p≤s.size∧Below w.heap.size w wr∧∃ xs,xs++(itemsF s p).map (byteC s)=decL s∧CellRow wr w.heap.size 70 5 .u8 xs)
  (fun p w1 w2 ⟨h0,h1,h2,xs,h3,h4⟩ hb => ⟨h0,h1,Zf h2 hb,xs,h3,h4.after hb⟩)
  (fun p w1 h0 hlt ⟨_,h1,h2,xs,h3,h4⟩ => (dec1_any p (byteC s p) (isC s p) w.heap.size w1 xs h4 (by
    have:=itemsF_len s _ 0 (by omega) (by omega) rfl
    have e:=congrArg List.length h3
    simp only [List.length_append,List.length_map,decL] at e
    omega)).mono fun e w2 ⟨g1,g2,g3⟩ =>
   ⟨g1,by have:=nxtC_gt s p;omega,nxtC_le s p hlt,h2.trans g3,_,by rw [List.append_assoc,← h3,itemsF_go hlt];rfl,g2⟩)
 go_enter Tryd.func15,Tryd.ntmps15
 go_wp2_with fail
 refine (hw _ ⟨by omega,by omega,below_one _ _,[],rfl,_,Blk.new _ _ _,own_nil _ _ _ _⟩).mono ?_
 rintro e w1 ⟨rfl,_,_,hb,xs,hx,v,hbl,ho⟩
 rw [itemsF_end,List.map_nil,List.append_nil] at hx
 subst hx
 have c0 : w1.cell? ⟨w.heap.size,0,none⟩=some v:=hbl.cell 0
 have ht:=own_string (P:=Tryd.prog) Tryd.underlying70 Tryd.underlying5 Tryd.underlying9 ho
 clear hw
 go_wp2
 go_ret
 exact ⟨rfl,hb⟩
end Go.Proofs.YtfbgmlophkbejaaDoor.Z
set_option linter.unusedVariables false
set_option linter.unusedSimpArgs false
namespace Go.Proofs.YtfbgmlophkbejaaDoor.Z
open Go.RowKit Go.Proofs.YtfbgmlophkbejaaDoorW.PrintWords Go.Proofs.YtfbgmlophkbejaaDoorW.PrintLast
def RDecAt (s : ByteArray) (w : World) (p : Int) (xs zs : List Int) (c : Nat) : Prop :=
 xs++(itemsF s p).map (byteC s)=decL s∧zs++strF s p=strF s 0∧c + cntF s p=cntF s 0
theorem RDecAt.bounds {s : ByteArray} {w : World} {p : Int} {xs zs : List Int} {c : Nat} (h : RDecAt s w p xs zs c) (hp : p < s.size) (h0 : 0≤p) : xs.length + 1≤s.size∧zs.length≤s.size∧c≤s.size∧(isC s p=true→c + 1≤s.size)∧(isS s p=true→zs.length + 1≤s.size):=by
 obtain ⟨h1,h2,h3⟩:=h
 have a1:=itemsF_len s _ 0 (by omega) (by omega) rfl
 have a2:=strF_le s 0 (by omega) (by omega)
 have a3:=cntF_le s 0 (by omega) (by omega)
 have e1:=congrArg List.length h1
 have e2:=congrArg List.length h2
 rw [itemsF_go hp] at e1
 simp only [List.length_append,List.length_map,decL,List.length_cons] at e1 e2
 refine ⟨by omega,by omega,by omega,fun hc => ?_,fun hc => ?_⟩
 ·rw [cntF_go hp,if_pos hc] at h3;omega
 ·rw [strF_go hp,if_pos hc,List.length_cons] at e2;omega
theorem RDecAt.coded {s : ByteArray} {w : World} {p : Int} {xs zs : List Int} {c : Nat} (h : RDecAt s w p xs zs c) (hp : p < s.size) (hc : isC s p=true) : RDecAt s w (p + 3) (xs++[sayC s p]) zs (c + 1):=by
 obtain ⟨h1,h2,h3⟩:=h
 have hn : nxtC s p=p + 3:=by unfold nxtC;rw [if_pos hc]
 rw [itemsF_go hp,hn] at h1
 rw [strF_go hp,hn,if_neg (by unfold isS;rw [hc];simp)] at h2
 rw [cntF_go hp,hn,if_pos hc] at h3
 refine ⟨?_,h2,by omega⟩
 rw [List.append_assoc,← h1,List.map_cons]
 unfold byteC
 rw [if_pos hc]
 rfl
theorem RDecAt.plain {s : ByteArray} {w : World} {p : Int} {xs zs : List Int} {c : Nat} (h : RDecAt s w p xs zs c) (hp : p < s.size) (hc : isC s p=false) : RDecAt s w (p + 1) (xs++[bt s p]) (zs++if (bt s p == 37)=true then [p] else []) c:=by
 obtain ⟨h1,h2,h3⟩:=h
 have hn : nxtC s p=p + 1:=by unfold nxtC;rw [if_neg (by rw [hc];simp)]
 rw [itemsF_go hp,hn] at h1
 rw [strF_go hp,hn] at h2
 rw [cntF_go hp,hn,if_neg (by rw [hc];simp)] at h3
 refine ⟨?_,?_,by omega⟩
 ·rw [List.append_assoc,← h1,List.map_cons]
  unfold byteC
  rw [if_neg (by rw [hc];simp)]
  rfl
 ·rw [List.append_assoc,← h2]
  congr 1
  unfold isS
  rw [hc]
  simp only [Bool.not_false,Bool.true_and]
  split <;> rfl
end Go.Proofs.YtfbgmlophkbejaaDoor.Z
set_option linter.unusedVariables false
set_option linter.unusedSimpArgs false
namespace Go.Proofs.YtfbgmlophkbejaaDoor.Z
open Go.RowKit Go.Proofs.YtfbgmlophkbejaaDoorW.PrintWords Go.Proofs.YtfbgmlophkbejaaDoorW.PrintLast
theorem dec_41 : decS ⟨#[37,52,49]⟩=⟨#[65]⟩:=by
 have hc : isC ⟨#[37,52,49]⟩ 0=true:=by decide +kernel
 have hn : nxtC ⟨#[37,52,49]⟩ 0=((ByteArray.mk #[37,52,49]).size : Nat):=by unfold nxtC;rw [hc];rfl
 have hb : byteC ⟨#[37,52,49]⟩ 0=65:=by unfold byteC;rw [hc];decide +kernel
 unfold decS decL
 rw [itemsF_go (by decide),hn,itemsF_end,List.map_cons,hb]
 rfl
theorem awake_any (w : World) : Calls Tryd.prog 9 #[] w fun e w' => e=.returned (.bool true)∧Below w.heap.size w w':=by
 have h:=decode_any ⟨#[37,52,49]⟩ w (by decide)
 rw [dec_41] at h
 go_enter Tryd.func9,Tryd.ntmps9
 go_wp2_with (go_at_call 15;(with_reducible refine h.mono ?_);rintro e w1 ⟨rfl,hb⟩)
 go_ret
 exact ⟨rfl,hb⟩
end Go.Proofs.YtfbgmlophkbejaaDoor.Z
set_option linter.unusedVariables false
set_option linter.unusedSimpArgs false
namespace Go.Proofs.YtfbgmlophkbejaaDoor.Z
open Go.RowKit Go.Proofs.YtfbgmlophkbejaaDoorW.PrintWords Go.Proofs.YtfbgmlophkbejaaDoorW.PrintLast
end Go.Proofs.YtfbgmlophkbejaaDoor.Z
set_option linter.unusedVariables false
set_option linter.unusedSimpArgs false
namespace Go.Proofs.YtfbgmlophkbejaaDoor.Z
open Go.RowKit Go.Proofs.YtfbgmlophkbejaaDoorW.PrintWords Go.Proofs.YtfbgmlophkbejaaDoorW.PrintLast
def Bld (w : World) (B b : Nat) (xs : List Int) : Prop:=Lib.IsBuilder 76 5 B b (nums .u8 xs) w
theorem Bld.new (w : World) (B : Nat) (hB : B≤w.heap.size) : Bld (w.alloc (.cells #[.pointer none,.slice none 0 0] 76)) B w.heap.size [] :=
 Or.inl ⟨hB,.slice none 0 0,heap_alloc_new w _,own_nil _ _ _ _,by simp [Value.ownBlock]⟩
theorem Bld.at_new {w : World} {B b : Nat} (hb : b=w.heap.size) (hB : B≤b) : Bld (w.alloc (.cells #[.pointer none,.slice none 0 0] 76)) B b []:=by subst hb;exact Bld.new w B hB
theorem Bld.after {w w' : World} {B b : Nat} {xs : List Int} (h : Bld w B b xs) (hb : Below w.heap.size w w') : Bld w' B b xs:=by
 have key : ∀ p,Lib.BuilderAt 76 5 B b p (nums .u8 xs) w→Lib.BuilderAt 76 5 B b p (nums .u8 xs) w':=fun p h => by
  have hlt:=h.lt
  obtain ⟨hB,v,hv,ho,hne⟩:=h
  exact ⟨hB,v,(hb.block b hlt).trans hv,pw_own_below ho hb,hne⟩
 rcases h with h|h
 ·exact Or.inl (key _ h)
 ·exact Or.inr (key _ h)
theorem Bld.lt {w : World} {B b : Nat} {xs : List Int} (h : Bld w B b xs) : b < w.heap.size:=by
 rcases h with h|h <;> exact h.lt
theorem Bld.base {w : World} {B b : Nat} {xs : List Int} (h : Bld w B b xs) : B≤b:=by
 rcases h with h|h <;> exact h.1
end Go.Proofs.YtfbgmlophkbejaaDoor.Z
set_option linter.unusedVariables false
set_option linter.unusedSimpArgs false
namespace Go.Proofs.YtfbgmlophkbejaaDoor.Z
open Go.RowKit Go.Proofs.YtfbgmlophkbejaaDoorW.PrintWords Go.Proofs.YtfbgmlophkbejaaDoorW.PrintLast
end Go.Proofs.YtfbgmlophkbejaaDoor.Z
set_option linter.unusedVariables false
set_option linter.unusedSimpArgs false
namespace Go.Proofs.YtfbgmlophkbejaaDoor.Z
open Go.RowKit Go.Proofs.YtfbgmlophkbejaaDoorW.PrintWords Go.Proofs.YtfbgmlophkbejaaDoorW.PrintLast
end Go.Proofs.YtfbgmlophkbejaaDoor.Z
