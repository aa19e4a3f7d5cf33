/- Opening arguments of the statements' rows: slices of structs of two texts. -/
import Derived.Test.YtfbgmlophkbejaaDoorBas
import Derived.ProofKit
import Derived.OpenShut
import Derived.ShutString
import Derived.ChangeOld
import Derived.SizedLaws
import Derived.Laws.IdiomArrays
import Derived.Deep.Strs
import Derived.ChangeSlices
import Derived.Test.YtfbgmlophkbejaaDoorRows
import Derived.SliceStrings
import Derived.Deep.SlicePairs
set_option linter.unusedVariables false
set_option linter.unusedSimpArgs false
namespace Go.Proofs.YtfbgmlophkbejaaDoor
open Go.ChangeShapes Go.WideShapes Go.ChangeAt Go.RowKit Go.Proofs.YtfbgmlophkbejaaDoorW.PrintWords
def Pairs (W : World) (A : Option Addr) (ls : List (ByteArray × ByteArray)) : Prop:=ReadsRow (fun p cs => cs=[.string p.1,.string p.2]) 2 W A ls.length ls
def pairsSize (ls : List (ByteArray × ByteArray)) : Nat:=(ls.map fun p => p.1.size + p.2.size).sum
theorem bulk_pairs {H : Type} (f : Nat→DataW H) (g : Nat→ByteArray × ByteArray) (l : List Nat) (h : ∀ r ∈ l,(g r).1.size + (g r).2.size + 3≤Rows.uptoBulk (f r)) : pairsSize (l.map g) + 3 * l.length≤Rows.uptoBulkAll (l.map f):=by
 induction l with
 | nil => simp [Rows.uptoBulkAll,pairsSize]
 | cons x r ih =>
  have h1:=h x (by simp)
  have h2:=ih (fun y hy => h y (by simp [hy]))
  simp only [List.map_cons,List.sum_cons,List.length_cons,Rows.uptoBulkAll,pairsSize] at *
  omega
theorem open_pairs {P : Program} {W : World} {base : Nat} {H : Type} {enc : TypeId × Value→H} {t e : TypeId} {f0 f1 : Field} {v : Value} {d : DataW H} {ps : List MemPlace} {held : Bool} {bs : Nat}
  (ht : P.underlying t=some (.slice e)) (he : P.underlying e=some (.struct #[f0,f1])) (h0 : P.underlying f0.type=some .string) (h1 : P.underlying f1.type=some .string)
  (ce : P.cellsOf e=2) (o0 : f0.offset=0) (o1 : f1.offset=1) (c0 : P.cellsOf f0.type=1) (c1 : P.cellsOf f1.type=1)
  (hv : Value.okWide P W .any base t v) (h : DataW.Trod enc P W bs (fun _ => true) held t v d ps) :
  ∃ (A : Option Addr) (ls : List (ByteArray × ByteArray)) (c : Nat),v=.slice A ls.length c∧Pairs W A ls∧ls.length≤c∧pairsSize ls + 3 * ls.length≤Rows.uptoBulk d:=by
 obtain ⟨a0,len,cap,rfl⟩:=okWide_slice ht hv
 obtain ⟨fuel,hf⟩:=h
 rcases Deep.open_slice_pairs ht he ce o0 o1 c0 c1 hf with ⟨h2,h3⟩|⟨a,ln,cp,m,n,V0,V1,D0,D1,P0,P1,h2,hb,hlc,hcm,hm,h3,hrow⟩
 ·simp only [Value.cells,List.cons.injEq,and_true,Value.slice.injEq] at h2
  obtain ⟨rfl,rfl,rfl⟩:=h2
  exact ⟨none,[],0,rfl,⟨rfl,by simp,fun h => by simp at h⟩,by simp,by simp [pairsSize]⟩
 ·simp only [Value.cells,List.cons.injEq,and_true,Value.slice.injEq] at h2
  obtain ⟨rfl,rfl,rfl⟩:=h2
  simp only [if_true] at hm
  have hm2:=hm.symm
  subst hm2
  have each : ∀ i,i < cap→∃ p : ByteArray × ByteArray,V0 i=.string p.1∧V1 i=.string p.2∧p.1.size + p.2.size + 3≤Rows.uptoBulk (DataW.agg [D0 i,D1 i]):=by
   intro i hi
   obtain ⟨_,_,t0,t1⟩:=hrow i hi
   obtain ⟨s0,e0,e1,_⟩:=DataW.trod_string h0 t0
   obtain ⟨s1,e2,e3,_⟩:=DataW.trod_string h1 t1
   have z : ∀ s : ByteArray,s.data.toList.length=s.size:=fun s => by rw [Array.length_toList];rfl
   refine ⟨(s0,s1),by simpa using e0,by simpa using e2,?_⟩
   have d0 : D0 i=.lit (.string s0.data.toList):=congrArg Prod.fst e1
   have d1 : D1 i=.lit (.string s1.data.toList):=congrArg Prod.fst e3
   simp only [Rows.uptoBulk,Rows.uptoBulkAll,d0,d1,z]
   omega
  obtain ⟨g,hg⟩:=Deep.choose_lt each
  have hll : ((List.range len).map g).length=len:=by simp
  refine ⟨some a,(List.range len).map g,cap,by rw [hll],?_,by rw [hll];exact hlc,?_⟩
  ·refine ⟨rfl,by rw [hll];unfold maxLen at hcm;omega,fun hp => ⟨a,rfl,fun j p hj => ?_⟩⟩
   have hjl : j < len:=by
    have:=(List.getElem?_eq_some_iff.1 hj).1
    rwa [hll] at this
   rw [List.getElem?_map,List.getElem?_range hjl] at hj
   obtain rfl:=Option.some.inj hj
   obtain ⟨x0,x1,_,_⟩:=hrow j (by omega)
   obtain ⟨y0,y1,_⟩:=hg j (by omega)
   refine ⟨_,rfl,rfl,fun i u hu => ?_⟩
   match i,hu with
   | 0,hu => simp at hu;subst hu;rw [Nat.add_zero,x0,y0]
   | 1,hu => simp at hu;subst hu;rw [x1,y1]
  ·obtain rfl : d=_:=congrArg Prod.fst h3
   have:=bulk_pairs (H:=H) (fun i => DataW.agg [D0 i,D1 i]) g (List.range len) (fun r hr => (hg r (by have:=List.mem_range.1 hr;omega)).2.2)
   simp only [List.length_range] at this
   simp only [Rows.uptoBulk,List.length_map,List.length_range] at this ⊢
   omega
end Go.Proofs.YtfbgmlophkbejaaDoor
