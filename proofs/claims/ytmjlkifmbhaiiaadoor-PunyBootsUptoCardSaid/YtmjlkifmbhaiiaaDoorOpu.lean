/- Opening arguments of the statements' rows. Opening arguments of the statements' rows of bounded bulk: slices of texts and of numbers. Opening arguments of the statements' rows: slices with their capacities. -/
import Derived.Test.YtmjlkifmbhaiiaaDoorBas
import Derived.ProofKit
import Derived.OpenShut
import Derived.ShutString
import Derived.ChangeOld
import Derived.SizedLaws
import Derived.Laws.IdiomArrays
import Derived.Deep.Strs
import Derived.ChangeSlices
import Derived.Test.YtmjlkifmbhaiiaaDoorRows
import Derived.SliceStrings
set_option linter.unusedVariables false
set_option linter.unusedSimpArgs false
namespace Go.Proofs.YtmjlkifmbhaiiaaDoor
open Go.ChangeShapes Go.WideShapes Go.ChangeAt Go.RowKit Go.Proofs.YtmjlkifmbhaiiaaDoorW.PrintWords
theorem wf_i32 {x : Int} (h : (Lit.int .i32 x).wf=true) : -2147483648≤x∧x≤2147483647:=by
 simpa [Lit.wf,IntKind.min,IntKind.max,IntKind.signed,IntKind.bits] using h
theorem wf_u8 {x : Int} (h : (Lit.int .u8 x).wf=true) : 0≤x∧x≤255:=by
 simpa [Lit.wf,IntKind.min,IntKind.max,IntKind.signed,IntKind.bits] using h
end Go.Proofs.YtmjlkifmbhaiiaaDoor
set_option linter.unusedVariables false
set_option linter.unusedSimpArgs false
namespace Go.Proofs.YtmjlkifmbhaiiaaDoor
open Go.ChangeShapes Go.WideShapes Go.ChangeAt Go.RowKit Go.Proofs.YtmjlkifmbhaiiaaDoorW.PrintWords
theorem bulk_lits {H : Type} (k : IntKind) (l : List Int) : Rows.uptoBulkAll (lits (H:=H) k l)=l.length:=by
 induction l with
 | nil => simp [lits,Rows.uptoBulkAll]
 | cons x r ih =>
  have h : lits (H:=H) k (x :: r)=.lit (.int k x) :: lits k r:=rfl
  have hb : Rows.uptoBulk (DataW.lit (H:=H) (.int k x))=1:=rfl
  rw [h,Rows.uptoBulkAll,ih,hb,List.length_cons]
  omega
end Go.Proofs.YtmjlkifmbhaiiaaDoor
set_option linter.unusedVariables false
set_option linter.unusedSimpArgs false
namespace Go.Proofs.YtmjlkifmbhaiiaaDoor
open Go.ChangeShapes Go.WideShapes Go.ChangeAt Go.RowKit Go.Proofs.YtmjlkifmbhaiiaaDoorW.PrintWords
theorem open_numc {P : Program} {W : World} {base : Nat} {H : Type} {enc : TypeId × Value→H} {t e : TypeId} {k : IntKind} {v : Value} {d : DataW H} {ps : List MemPlace} {held : Bool} {bs : Nat}
  (ht : P.underlying t=some (.slice e)) (he : P.underlying e=some (.int k)) (hc : P.cellsOf e=1)
  (hv : Value.okWide P W .any base t v) (h : DataW.Trod enc P W bs (fun _ => true) held t v d ps) :
  ∃ (A : Option Addr) (xs : List Int) (c : Nat),v=.slice A xs.length c∧ReadsInt W k A xs.length xs∧(∀ x ∈ xs,(Lit.int k x).wf=true)∧xs.length≤Rows.uptoBulk d∧xs.length≤c:=by
 obtain ⟨a0,len,cap,rfl⟩:=okWide_slice ht hv
 obtain ⟨fuel,hf⟩:=h
 rcases open_ints ht he hc hf with ⟨h1,h2⟩|⟨a,n,c,zs,h1,hb,hnc,hcm,hl,h2,hcell,hwf⟩
 ·simp only [Value.cells,List.cons.injEq,and_true,Value.slice.injEq] at h1
  obtain ⟨rfl,rfl,rfl⟩:=h1
  exact ⟨none,[],0,rfl,ReadsInt.nil _ _,by simp,by simp,by simp⟩
 ·simp only [Value.cells,List.cons.injEq,and_true,Value.slice.injEq] at h1
  obtain ⟨rfl,rfl,rfl⟩:=h1
  simp only [if_true] at hl
  have hlt : (zs.take len).length=len:=by rw [List.length_take];omega
  refine ⟨some a,zs.take len,cap,by rw [hlt],?_,fun x hx => hwf x (List.mem_of_mem_take hx),?_,by rw [hlt];exact hnc⟩
  ·rw [hlt]
   refine ⟨hlt,by unfold maxLen at hcm;omega,fun hp => ⟨a,rfl,fun j hj => ?_⟩⟩
   rw [hcell j (by omega),List.getD_eq_getElem?_getD,List.getD_eq_getElem?_getD,List.getElem?_take,if_pos hj]
  ·obtain rfl : d=_:=congrArg Prod.fst h2
   simp only [Rows.uptoBulk,bulk_lits]
   omega
end Go.Proofs.YtmjlkifmbhaiiaaDoor
