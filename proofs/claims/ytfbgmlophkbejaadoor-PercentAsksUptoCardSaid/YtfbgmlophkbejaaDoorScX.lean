/- A strings.Builder of the call's own, runes written into it: copyCheck, WriteRune, String. Scalar: Encode by the program, where all are scalar values; the statements' awake. Scalar: the statements' awake. Scalar: Decode by the document. Scalar: Encode where a number is no scalar value; Clean. From this repo's own contracts to the printed form: rows of numbers, rows of pieces. -/
import Derived.Test.YtfbgmlophkbejaaDoorScP
import Derived.Test.YtfbgmlophkbejaaDoorShelf
import Derived.Lib.FrozenHead
import Derived.Lib.RuneBytes
import Derived.Test.YtfbgmlophkbejaaDoorScW
import Derived.Laws.Cover4
set_option linter.unusedVariables false
set_option linter.unusedSimpArgs false
namespace Go.Proofs.YtfbgmlophkbejaaDoor
open Go.RowKit Go.Proofs.YtfbgmlophkbejaaDoorW.PrintWords Go.Proofs.YtfbgmlophkbejaaDoorW.PrintLast
theorem ownF_below {w w' : World} {base : Nat} {e : TypeId} {size n : Nat} {v : Value} {xs : List Value} (h : w.ownsRowF base e size v n xs) (hb : Below w.heap.size w w') : w'.ownsRowF base e size v n xs :=
 h.kept (row:=none) ⟨hb.os,hb.tape,hb.output,hb.size,fun i hi _ => hb.block i hi⟩ (by cases v.ownBlock <;> simp)
def BldF (w : World) (B b : Nat) (xs : List Int) : Prop:=Lib.IsBuilderF 76 5 B b (nums .u8 xs) w
theorem BldF.new (w : World) (B : Nat) (hB : B≤w.heap.size) : BldF (w.alloc (.cells #[.pointer none,.slice none 0 0] 76)) B w.heap.size [] :=
 Or.inl (Lib.BuilderAtF.of ⟨hB,.slice none 0 0,heap_alloc_new w _,own_nil _ _ _ _,by simp [Value.ownBlock]⟩)
theorem BldF.after {w w' : World} {B b : Nat} {xs : List Int} (h : BldF w B b xs) (hb : Below w.heap.size w w') : BldF w' B b xs:=by
 have key : ∀ p,Lib.BuilderAtF 76 5 B b p (nums .u8 xs) w→Lib.BuilderAtF 76 5 B b p (nums .u8 xs) w':=fun p h => by
  have hlt:=h.lt
  obtain ⟨hB,v,hv,ho,hne⟩:=h
  exact ⟨hB,v,(hb.block b hlt).trans hv,ownF_below ho hb,hne⟩
 rcases h with h|h
 ·exact Or.inl (key _ h)
 ·exact Or.inr (key _ h)
theorem BldF.lt {w : World} {B b : Nat} {xs : List Int} (h : BldF w B b xs) : b < w.heap.size:=by
 rcases h with h|h <;> exact h.lt
end Go.Proofs.YtfbgmlophkbejaaDoor
set_option linter.unusedVariables false
set_option linter.unusedSimpArgs false
namespace Go.Proofs.YtfbgmlophkbejaaDoor
open Go.RowKit Go.Proofs.YtfbgmlophkbejaaDoorW.PrintWords Go.Proofs.YtfbgmlophkbejaaDoorW.PrintLast
theorem take_rd (l : List Int) (k : Nat) (h : k < l.length) : l.take (k + 1)=l.take k++[rd l k]:=by
 rw [List.take_succ_eq_append_getElem h]
 simp [rd,List.getD_eq_getElem?_getD,List.getElem?_eq_getElem h]
end Go.Proofs.YtfbgmlophkbejaaDoor
set_option linter.unusedVariables false
set_option linter.unusedSimpArgs false
namespace Go.Proofs.YtfbgmlophkbejaaDoor
open Go.RowKit Go.Proofs.YtfbgmlophkbejaaDoorW.PrintWords Go.Proofs.YtfbgmlophkbejaaDoorW.PrintLast
end Go.Proofs.YtfbgmlophkbejaaDoor
set_option linter.unusedVariables false
set_option linter.unusedSimpArgs false
namespace Go.Proofs.YtfbgmlophkbejaaDoor
open Go.RowKit Go.Proofs.YtfbgmlophkbejaaDoorW.PrintWords Go.Proofs.YtfbgmlophkbejaaDoorW.PrintLast
theorem runes_lit0 (w : World) : (w.alloc (.cells #[] 21)).ownsRow w.heap.size 21 1 (.slice (some ⟨w.heap.size,0,none⟩) 0 0) 0 (nums .i32 []):=World.ownsRow_lit (base:=w.heap.size) (e:=21) (size:=1) w #[] 0 (Nat.le_refl _) (by simp [maxLen]) rfl
theorem own_row_ge {α : Type} {R : α→List Value→Prop} {e : TypeId} {size base : Nat} {w : World} {v : Value} {ps : List α} (h : OwnRow R e size w base v ps) (k : Nat) (hk : v.ownBlock=some k) : base≤k:=by
 obtain ⟨_,h,_⟩:=h
 rcases h.2 with ⟨rfl,_⟩|⟨g,cap,cur,rfl,hb,_⟩
 ·simp [Value.ownBlock] at hk
 ·simp [Value.ownBlock] at hk
  omega
theorem row_reads {α : Type} {R : α→List Value→Prop} {e : TypeId} {size base n c : Nat} {A : Option Addr} {w : World} {ps : List α} (h : OwnRow R e size w base (.slice A n c) ps) (hn : n=ps.length) : ReadsRow R size w A ps.length ps:=by
 obtain ⟨A',c',he,_,hr⟩:=h.reads
 injection he with hA
 subst hA
 exact hr
set_option maxRecDepth 100000 in
set_option maxHeartbeats 4000000 in
theorem RDecode_any (s : ByteArray) (w : World) (hs : s.size * 24 + 24≤140737488351232) : Calls Tryd.prog 66 #[.string s] w (RPost 21 (decT s) w):=by
 have hp:=fun W => RPieces_any s W hs
 have hn:=pcs_len s s.size 0 (by omega) (by omega)
 unfold decT
 generalize pcs s 0=l at *
 have Hp:=Lib.hid hp
 clear hp
 have hlit:=runes_lit0 w
 have hb0:=below_one w (.cells #[] 21)
 have hz0 : (w.alloc (.cells #[] 21)).heap.size=w.heap.size + 1:=size_alloc _ _
 go_enter Tryd.func66,Tryd.ntmps66
 go_wp2_with (go_at_call 92;(with_reducible refine (Hp.out _).mono ?_);rintro e w1 ⟨hb1,v,rfl,ho⟩;obtain ⟨A1,c1,rfl,hc1⟩:=ho.slice_)
 have hge:=own_row_ge ho
 have hou:=pw_own_below hlit hb1
 have hbel0:=Zf hb0 hb1
 clear hlit hb0
 go_loopw [3,10] (fun u i wr => ∃ k : Nat,i=.int .i64 (k : Int)∧k≤l.length∧wr.ownsRow w.heap.size 21 1 u ((l.take k).map (·.2.rune)).length (nums .i32 ((l.take k).map (·.2.rune)))∧OwnRow PCell 135 4 wr w.heap.size (.slice A1 l.length c1) l∧((Value.slice A1 l.length c1).ownBlock=none ∨ (Value.slice A1 l.length c1).ownBlock ≠ u.ownBlock)∧Below w.heap.size w wr) (fun _ i _ => l.length - (intOf i).toNat)
 case atStart => exact ⟨0,rfl,by omega,hou,ho.lower (by omega),Or.inr (fun e => by have g : (Value.slice A1 l.length c1).ownBlock=some w.heap.size:=e;have:=hge _ g;omega),hbel0⟩
 case round =>
  clear hou ho hbel0
  obtain ⟨k,rfl,hk,ho,hP,hne,hbel⟩:=hrel
  by_cases hlt : k < l.length
  ·obtain ⟨ad,rfl,d0,d1,d2,d3⟩:=piece_at (row_reads hP rfl) k hlt
   have ht:=take_rune l k hlt
   have hz : (l.take k).length≤k:=List.length_take_le _ _
   have hsz:=hbel.size
   generalize (l.getD k pc0).1=x at *
   generalize (l.getD k pc0).2.size=x1 at *
   generalize (l.getD k pc0).2.rune=x2 at *
   generalize (l.getD k pc0).2.bad=x3 at *
   have Ht:=Lib.hid ht
   clear ht
   have hPlt:=own_row_lt hP
   have hP1:=fun o => hP.below (below_one wr o)
   go_wp2_with (at_builtin;(refine print_append_num (w0:=w) (W:=wr.alloc (.cells #[.int .i64 x,.int .i64 x1,.int .i32 x2,.bool x3] 135)) w.heap.size rfl (.tmp 14) (.tmp 17) 107 21 .i32 4 rfl Tryd.underlying107 info_i32 (by decide) _ ((l.take k).map (·.2.rune)) x2 rfl (by rw [size_alloc];rfl) (ho.alloc _) (Zb hbel _) (by rw [size_alloc];omega) (by rw [List.length_map];omega) ?_);intro v1 w2 ho2 hb2 hg2 hat2;rw [size_alloc] at hat2;have hP2:=(hP1 _).other hg2 hne)
   rw [← Ht.out] at ho2
   refine ⟨⟨k + 1,rfl,by omega,ho2,hP2,?_,hb2⟩,by simp [intOf];omega⟩
   rcases hne with h|h
   ·exact Or.inl h
   ·refine Or.inr fun e => ?_
    rcases hat2 with g|⟨b,g,gb⟩
    ·exact h (e.trans g)
    ·have:=hPlt b (e.trans g);omega
  ·obtain rfl : k=l.length:=by omega
   rw [List.take_length] at ho
   have Ho:=Lib.hid ho
   clear ho
   go_wp2
   go_ret
   exact ⟨hbel,_,rfl,Ho.out⟩
end Go.Proofs.YtfbgmlophkbejaaDoor
set_option linter.unusedVariables false
set_option linter.unusedSimpArgs false
namespace Go.Proofs.YtfbgmlophkbejaaDoor
open Go.RowKit Go.Proofs.YtfbgmlophkbejaaDoorW.PrintWords Go.Proofs.YtfbgmlophkbejaaDoorW.PrintLast
end Go.Proofs.YtfbgmlophkbejaaDoor
set_option linter.unusedVariables false
set_option linter.unusedSimpArgs false
namespace Go.Proofs.YtfbgmlophkbejaaDoor
open Go.RowKit Go.Proofs.YtfbgmlophkbejaaDoorW.PrintWords Go.Proofs.YtfbgmlophkbejaaDoorW.PrintLast
theorem R_of_nums {k : IntKind} {e : TypeId} {base : Nat} {w : World} {v : Value} {l : List Int} (h : w.ownsRow base e 1 v l.length (nums k l)) : Kd.R (Kd.int k) e w base (fun _ => True) v l:=Kd.R_of_own h (fun _ _ => trivial)
theorem R_of_rpost {T : TypeId} {l : List Int} {w w' : World} {e : Ending} (h : RPost T l w e w') : ∃ v0_ : Value,e=.returned v0_∧Kd.R (Kd.int .i32) T w' w.heap.size (fun _ => True) v0_ l∧Below w.heap.size w w':=by
 obtain ⟨hb,v,rfl,ho⟩:=h
 exact ⟨v,rfl,R_of_nums ho,hb⟩
end Go.Proofs.YtfbgmlophkbejaaDoor
