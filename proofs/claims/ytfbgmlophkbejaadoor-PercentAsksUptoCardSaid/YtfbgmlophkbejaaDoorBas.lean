/- Words that all my walks use: bytes of a text, lists of whole numbers as values, blocks of cells. Words on whole arrays that lie in a block: loads, stores, literals, results. Words on slices of bytes that the call itself makes: out of a text, grown by append, and back to a text. Texts by their bytes: what stands in a part of a text, in two texts joined. Plain. -/
import Derived.Test.YtfbgmlophkbejaaDoorProg
import Derived.Test.YtfbgmlophkbejaaDoorWWords
import Derived.Test.YtfbgmlophkbejaaDoorWLast
import Derived.Lib.Hide
import Derived.WalkKit
import Derived.WalkSpells
import Derived.WalkLawsBesides
import Derived.KernelRfl
import Derived.BigQuiet
import Derived.Deep.QuietTactic
import Derived.StillTailTactics
import Derived.Deep.RegionHeld3
import Derived.Laws.Rows
import Derived.Below
import Derived.Deep.Draws
import Derived.Deep.AppendLies
import Derived.Maps.AppendAt
import Derived.OwnWalk
import Derived.Laws.BytesArg
import Derived.Laws.MakeOwn
import Derived.Laws.OwnMore
import Derived.Deep.OwnRows
import Derived.Tactics
import Derived.Lib.ConvBytes
import Derived.Laws.Slices
import Derived.RowKit3
import Derived.Deep.LoopGhost
import Derived.WideLaws
import Derived.Deep.DeepCutAuto
import Derived.Deep.CutBlock
import Derived.Lib.AppendStr
import Derived.ArgAppend
import Derived.Laws.IdiomCopy
import Derived.OrdersHeld
import Derived.Laws.BitsLemmas
import Derived.RowKit
import Derived.Deep.WholeRow
import Derived.Great.BuildSlice
import Derived.Laws.Closers25
set_option linter.unusedVariables false
set_option linter.unusedSimpArgs false
namespace Go.Proofs.YtfbgmlophkbejaaDoor
open Go.RowKit Go.Proofs.YtfbgmlophkbejaaDoorW.PrintWords Go.Proofs.YtfbgmlophkbejaaDoorW.PrintLast
theorem ext_rd {l l' : List Int} (hl : l.length=l'.length) (h : ∀ i : Int,0≤i→i < l.length→rd l i=rd l' i) : l=l':=by
 refine List.ext_getElem hl fun i h1 h2 => ?_
 have:=h i (by omega) (by omega)
 simpa [rd,List.getD_eq_getElem?_getD,List.getElem?_eq_getElem h1,List.getElem?_eq_getElem h2] using this
/-! ### the world -/
theorem Zf {w w1 w2 : World} (h : Below w.heap.size w w1) (k : Below w1.heap.size w1 w2) : Below w.heap.size w w2 :=
 h.trans ⟨k.os,k.tape,k.output,k.size,fun i hi => k.block i (Nat.lt_of_lt_of_le hi h.size)⟩
theorem below_one (w : World) (o : Obj) : Below w.heap.size w (w.alloc o):=Zb (Below.refl _ _) o
theorem below_drewN {B : Nat} {w W : World} (h : Below B w W) (n : Nat) : Below B w (W.drewN n):=⟨h.os,h.tape,h.output,h.size,h.block⟩
theorem below_set {w W : World} (h : Below w.heap.size w W) {a : Addr} (ha : w.heap.size≤a.block) (v : Value) : Below w.heap.size w (W.setCell a v):=h.setCell ha v
def Blk (w : World) (g : Nat) (t : TypeId) (cs : Array Value) : Prop:=w.heap[g]?=some (.cells cs t (0,0))
section
variable {w w' : World} {g : Nat} {t : TypeId} {cs : Array Value}
theorem Blk.lt (h : Blk w g t cs) : g < w.heap.size:=(Array.getElem?_eq_some_iff.1 h).1
theorem Blk.cell (h : Blk w g t cs) (i : Nat) : w.cell? ⟨g,i,none⟩=cs[i]?:=cell_of_row w g i cs t (0,0) h
theorem Blk.frozen (h : Blk w g t cs) (i : Nat) : w.frozen? ⟨g,i,none⟩=false:=by
 unfold Blk at h
 simp [World.frozen?,h]
theorem Blk.new (w : World) (t : TypeId) (cs : Array Value) : Blk (w.alloc (.cells cs t)) w.heap.size t cs:=heap_alloc_new w _
theorem Blk.drew (h : Blk w g t cs) : Blk w.drew g t cs:=h
theorem Blk.drewN (h : Blk w g t cs) (n : Nat) : Blk (w.drewN n) g t cs:=h
theorem Blk.alloc (h : Blk w g t cs) (o : Obj) : Blk (w.alloc o) g t cs:=(Below.heap_alloc w o g h.lt).trans h
theorem Blk.set_ (h : Blk w g t cs) (i : Nat) (u : Value) : Blk (w.setCell ⟨g,i,none⟩ u) g t (cs.setIfInBounds i u):=by
 unfold Blk at h ⊢
 simp [World.setCell,Array.getElem?_modify,h]
theorem Blk.far (h : Blk w g t cs) {p : Addr} (hp : g ≠ p.block) (u : Value) : Blk (w.setCell p u) g t cs:=(Below.heap_setCell w p u g hp).trans h
theorem Blk.below (h : Blk w g t cs) {B : Nat} (hb : Below B w w') (hg : g < B) : Blk w' g t cs:=(hb.block g hg).trans h
theorem Blk.after (h : Blk w g t cs) (hb : Below w.heap.size w w') : Blk w' g t cs:=h.below hb h.lt
end
abbrev arr4 (x0 x1 x2 x3 : Int) : Array Value:=#[.int .u64 x0,.int .u64 x1,.int .u64 x2,.int .u64 x3]
theorem ret_int {k : IntKind} {a b : Int} (h : a=b) : Ending.returned (.int k a)=.returned (.int k b):=by rw [h]
end Go.Proofs.YtfbgmlophkbejaaDoor
set_option linter.unusedVariables false
set_option linter.unusedSimpArgs false
namespace Go.Proofs.YtfbgmlophkbejaaDoor
open Go.RowKit Go.Proofs.YtfbgmlophkbejaaDoorW.PrintWords Go.Proofs.YtfbgmlophkbejaaDoorW.PrintLast
section
variable {P : Program} {ops : Array Oper} {rest : List Oper} {o : Oper} {a : Act} {w : World} {Q : Exit→Act→World→Prop}
theorem Blk.grown {w w' : World} {g : Nat} {t : TypeId} {cs : Array Value} {row : Option Nat} (h : Blk w g t cs) (hb : w.grownBy w' row) (hg : some g ≠ row) : Blk w' g t cs:=(hb.block g h.lt hg).trans h
end
theorem Blk.at_new {w : World} {g : Nat} {t : TypeId} {cs : Array Value} (h : g=w.heap.size) : Blk (w.alloc (.cells cs t)) g t cs:=by subst h;exact Blk.new _ _ _
theorem ret_blk {P : Program} {fn : Func} {p : Tmp} {ty : TypeId} (h : fn.results=#[.cell p ty]) (tmps : Array Value) (w : World) (g : Nat) (t : TypeId) (cs : Array Value) (d : TypeDesc)
  (hp : tmps.getD p undef=.pointer (some ⟨g,0,none⟩)) (hb : Blk w g t cs) (hu : P.underlying ty=some d) (hd : (match d with|.struct _|.array _ _ => true|_ => false)=true) (n : Nat) (hi : (P.info? ty).map (·.size)=some n) (hn : cs.size=n) :
  (results fn tmps).run P w=.ok (.agg cs) w:=results_cell_row h tmps w g t cs (0,0) d hp hb hu hd (by rw [hi,hn])
end Go.Proofs.YtfbgmlophkbejaaDoor
set_option linter.unusedVariables false
set_option linter.unusedSimpArgs false
namespace Go.Proofs.YtfbgmlophkbejaaDoor
open Go.RowKit Go.Proofs.YtfbgmlophkbejaaDoorW.PrintWords Go.Proofs.YtfbgmlophkbejaaDoorW.PrintLast
theorem info_u8 : (Tryd.prog.info? 5).map (fun i => (i.zero,i.size,i.bytes))=some (some (.int .u8 0),1,1):=by kernel_rfl
def Byt (w : World) (g : Nat) (xs : List Int) : Prop:=∃ cs e fr,w.heap[g]?=some (.cells cs e fr)∧(fr.1=fr.2 ∨ xs.length≤fr.1)∧∀ i,i < xs.length→cs[i]?=some (.int .u8 (xs.getD i 0))
section
variable {w w' : World} {g : Nat} {xs : List Int}
theorem Byt.lt (h : Byt w g xs) : g < w.heap.size:=by
 obtain ⟨cs,e,fr,h,_⟩:=h
 exact (Array.getElem?_eq_some_iff.1 h).1
theorem Byt.cell (h : Byt w g xs) (i : Int) (h0 : 0≤i) (h1 : i < xs.length) : w.cell? ⟨g,i.toNat,none⟩=some (.int .u8 (rd xs i)):=by
 obtain ⟨cs,e,fr,h,_,hc⟩:=h
 rw [show w.cell? ⟨g,i.toNat,none⟩=cs[i.toNat]? from by simp [World.cell?,h]]
 exact hc _ (by omega)
theorem Byt.frozen (h : Byt w g xs) (i : Int) (h0 : 0≤i) (h1 : i < xs.length) : w.frozen? ⟨g,i.toNat,none⟩=false:=by
 obtain ⟨cs,e,⟨lo,hi⟩,h,hf,_⟩:=h
 have : ¬ (lo≤i.toNat∧i.toNat < hi):=by
  rcases hf with hf|hf <;> simp at hf <;> omega
 simp only [World.frozen?,h]
 simpa [Bool.and_eq_true,decide_eq_true_eq] using this
theorem Byt.below (h : Byt w g xs) {B : Nat} (hb : Below B w w') (hg : g < B) : Byt w' g xs:=by
 obtain ⟨cs,e,fr,h,hr⟩:=h
 exact ⟨cs,e,fr,(hb.block g hg).trans h,hr⟩
theorem Byt.after (h : Byt w g xs) (hb : Below w.heap.size w w') : Byt w' g xs:=h.below hb h.lt
theorem Byt.drew (h : Byt w g xs) : Byt w.drew g xs:=h
theorem Byt.alloc (h : Byt w g xs) (o : Obj) : Byt (w.alloc o) g xs:=h.after (below_one _ _)
theorem Byt.set_ (h : Byt w g xs) (i : Int) (h0 : 0≤i) (h1 : i < xs.length) (x : Int) : Byt (w.setCell ⟨g,i.toNat,none⟩ (.int .u8 x)) g (xs.set i.toNat x):=by
 obtain ⟨cs,e,fr,h,hf,hc⟩:=h
 refine ⟨cs.setIfInBounds i.toNat (.int .u8 x),e,fr,by simp [World.setCell,Array.getElem?_modify,h],by rw [List.length_set];exact hf,fun j hj => ?_⟩
 rw [List.length_set] at hj
 have hcs : i.toNat < cs.size:=by
  have:=hc i.toNat (by omega)
  exact (Array.getElem?_eq_some_iff.1 this).1
 rw [Array.getElem?_setIfInBounds,List.getD_eq_getElem?_getD,List.getElem?_set]
 by_cases e : i.toNat=j
 ·subst e
  simp [hcs,show i.toNat < xs.length by omega]
 ·simp only [e,if_false]
  rw [hc j hj,List.getD_eq_getElem?_getD]
theorem Byt.text (h : Byt w g xs) {P : Program} {src dst e : TypeId} (hs : P.underlying src=some (.slice e)) (he : P.underlying e=some (.int .u8)) (hd : P.underlying dst=some .string) (cap : Nat) :
  (convert src dst (.slice (some ⟨g,0,none⟩) xs.length cap)).run P w=.ok (.string (strOfNums xs)) w:=by
 refine run_convert_bytes_arg w src e hs he g 0 xs.length cap xs rfl (fun i hi => ?_) dst hd
 have:=h.cell (i : Int) (by omega) (by omega)
 simp only [Int.toNat_natCast] at this
 rw [Nat.zero_add,this]
 simp [rd]
end
theorem Byt.new (W : World) (e : TypeId) (s : ByteArray) : Byt (Lib.bytesWorld W e s) W.heap.size (bytesOf s):=by
 refine ⟨_,e,_,Lib.bytesWorld_at_new W e s,.inr ?_,fun i hi => ?_⟩
 ·rcases Nat.lt_or_ge (Lib.bytesCells W e s).size (bytesOf s).length with h|h
  ·exfalso
   rw [bytesOf_length] at h
   have:=Lib.bytesWorld_cell W e s (Lib.bytesCells W e s).size h
   rw [show (Lib.bytesWorld W e s).cell? ⟨W.heap.size,(Lib.bytesCells W e s).size,none⟩=(Lib.bytesCells W e s)[(Lib.bytesCells W e s).size]? from by simp [World.cell?,Lib.bytesWorld_at_new]] at this
   simp at this
  ·exact h
 ·rw [bytesOf_length] at hi
  have:=Lib.bytesWorld_cell W e s i hi
  rw [show (Lib.bytesWorld W e s).cell? ⟨W.heap.size,i,none⟩=(Lib.bytesCells W e s)[i]? from by simp [World.cell?,Lib.bytesWorld_at_new]] at this
  rw [this]
  have h' : i < s.data.toList.length:=by rw [data_length];exact hi
  simp [bytesOf,List.getD_eq_getElem?_getD,List.getElem?_eq_getElem h']
theorem strOfNums_bytesOf (s : ByteArray) : strOfNums (bytesOf s)=s:=by
 obtain ⟨⟨l⟩⟩:=s
 simp only [strOfNums,bytesOf,List.map_map]
 congr 2
 rw [List.map_congr_left (g:=id) (fun b _ => by simp)]
 simp
end Go.Proofs.YtfbgmlophkbejaaDoor
set_option linter.unusedVariables false
set_option linter.unusedSimpArgs false
namespace Go.Proofs.YtfbgmlophkbejaaDoor
open Go.RowKit Go.Proofs.YtfbgmlophkbejaaDoorW.PrintWords Go.Proofs.YtfbgmlophkbejaaDoorW.PrintLast
theorem bt_out (s : ByteArray) (i : Int) (h : (s.size : Int)≤i) : bt s i=0:=by
 unfold bt
 rw [dif_neg (by omega)]
theorem bt_ext (s : ByteArray) (a b : Nat) (hb : b≤s.size) (i : Int) (h0 : 0≤i) : bt (s.extract a b) i=if i < (b : Int) - a then bt s (a + i) else 0:=by
 have e : (s.extract a b).size=b - a:=by rw [ByteArray.size_extract];omega
 split
 ·unfold bt
  rw [dif_pos (by omega),dif_pos (by omega)]
  have h3 : (s.extract a b)[i.toNat]'(by omega) = s[a + i.toNat]'(by omega) := ByteArray.getElem_extract _
  rw [h3]
  congr 3
  omega
 ·exact bt_out _ _ (by omega)
theorem size_ext (s : ByteArray) (a b : Nat) (hb : b≤s.size) : (s.extract a b).size=b - a:=by rw [ByteArray.size_extract];omega
theorem ba_ext {s t : ByteArray} (h : s.size=t.size) (h2 : ∀ i : Int,0≤i→i < s.size→bt s i=bt t i) : s=t:=by
 rw [← strOfNums_bytesOf s,← strOfNums_bytesOf t]
 congr 1
 refine ext_rd (by rw [bytesOf_length,bytesOf_length,h]) fun i h0 h1 => ?_
 rw [rd_bytesOf,rd_bytesOf]
 exact h2 i h0 (by rw [bytesOf_length] at h1;exact h1)
end Go.Proofs.YtfbgmlophkbejaaDoor
