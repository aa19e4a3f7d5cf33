/- Forms: what the printed functions come to: fields of a text. Plain. -/
import Derived.Test.YtfbgmlophkbejaaDoorFrmB
import Derived.Test.YtfbgmlophkbejaaDoorQPfax3
import Derived.Test.YtfbgmlophkbejaaDoorQPfax2
import Derived.Test.YtfbgmlophkbejaaDoorQPfax1
import Derived.Test.YtfbgmlophkbejaaDoorQPfax0
import Derived.Test.YtfbgmlophkbejaaDoorQPfax4
import Derived.Test.YtfbgmlophkbejaaDoorQPfax5
set_option linter.unusedVariables false
set_option linter.unusedSimpArgs false
namespace Go.Proofs.YtfbgmlophkbejaaDoor
open Go.RowKit Go.Proofs.YtfbgmlophkbejaaDoorW.PrintWords Go.Proofs.YtfbgmlophkbejaaDoorW.PrintLast Go.Proofs.YtfbgmlophkbejaaDoorQ.Pfa
namespace FC
theorem scal_is {r : Int} {b : Bool} (h : b=true ↔ ((0≤r∧r < 55296) ∨ (57343 < r∧r≤1114111))) : scal r=b:=by
 cases b with
 | true => exact (scal_iff r).2 (h.1 rfl)
 | false =>
  cases hs : scal r with
  | false => rfl
  | true => exact absurd (h.2 ((scal_iff r).1 hs)) (by simp)
theorem RScalar_is (r : Int) : Zu.f r=some (scal r):=by
 unfold Zu.f
 by_cases h0 : r ≥ 0
 ·rw [if_pos h0]
  by_cases h1 : r < 55296
  ·rw [if_pos h1,scal_is (b:=true) (by simp;omega)]
  ·rw [if_neg h1]
   by_cases h2 : r > 57343
   ·rw [if_pos h2,scal_is (b:=decide (r≤1114111)) (by simp;omega)]
   ·rw [if_neg h2,scal_is (b:=false) (by simp;omega)]
 ·rw [if_neg h0,if_neg (by omega),scal_is (b:=false) (by simp;omega)]
structure StopAt (l : List Int) (m : Nat) : Prop where
 le : m≤l.length
 ok : ∀ r ∈ l.take m,scal r=true
 stop : m < l.length→scal (rd l m)=false
theorem StopAt.at_ {l : List Int} {m : Nat} (h : StopAt l m) (i : Nat) (hi : i < m) : scal (rd l i)=true:=by
 have:=h.le
 refine h.ok _ ?_
 have e : rd l i = (l.take m)[i]'(by rw [List.length_take]; omega) := by simp [rd, List.getD_eq_getElem?_getD, List.getElem?_eq_getElem (show i < l.length by omega)]
 rw [e]
 exact List.getElem_mem _
theorem StopAt.full {l : List Int} (h : ∀ r ∈ l,scal r=true) : StopAt l l.length:=⟨Nat.le_refl _,fun r hr => h r (by rw [List.take_length] at hr;exact hr),fun h => by omega⟩
end FC
end Go.Proofs.YtfbgmlophkbejaaDoor
