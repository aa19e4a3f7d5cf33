/- Percent: forms, plain; what is coded is decoded to what it was. -/
import Derived.Test.YtfbgmlophkbejaaDoorOpZ
import Derived.Test.YtfbgmlophkbejaaDoorOpO
import Derived.Lib.ReplaceLaws
set_option linter.unusedVariables false
set_option linter.unusedSimpArgs false
namespace Go.Proofs.YtfbgmlophkbejaaDoor
open Go.RowKit Go.Proofs.YtfbgmlophkbejaaDoorW.PrintWords Go.Proofs.YtfbgmlophkbejaaDoorW.PrintLast
/-! ### one byte for another one -/
def repU (a b x : UInt8) : UInt8:=if x=a then b else x
theorem map_none (a b : UInt8) (s : List UInt8) (h : ∀ j (hj : j < s.length),s[j] ≠ a) : s.map (repU a b)=s:=by
 have : s.map (repU a b)=s.map id:=List.map_congr_left fun x hx => by
  obtain ⟨j,hj,rfl⟩:=List.mem_iff_getElem.1 hx
  unfold repU
  rw [if_neg (h j hj)]
  rfl
 rw [this,List.map_id]
/-! ### back -/
theorem dec_len (s : ByteArray) : (Z.decL s).length≤s.size:=by
 have:=Z.itemsF_len s _ 0 (by omega) (by omega) rfl
 unfold Z.decL
 rw [List.length_map]
 omega
end Go.Proofs.YtfbgmlophkbejaaDoor
