/- Steps inside a region that draws its order: a cell is made, a whole array is stored, a slice literal of arrays. My walks over package octet: sets that are asked: Has, Find, All; and the document's: Unwords, Find. My walks over the document's sets (arrays of 256 bytes): Unwords, Find. Plain laws on sets of bytes as four words of 64 bits: nothing of the program. Package octet: sets made of sets: Cross, Minus, Union, put, Make, with, Members. Union of two and of three sets; what Cross and Minus make of sets; All of Members. The document's sets made: with, from, Words; the program's with and Make. The document's Words and Make; the program's Make. The named sets: the program's and the document's, as the very words. (Written by wip/gen/octp.py.) The named sets: the walk of octet.Named. (Written by wip/gen/octp.py.) The named sets: the walk of the document's Named. (Written by wip/gen/octp.py.) -/
import Derived.Test.YtfbgmlophkbejaaDoorBas
import Derived.ChangeKeysEq
set_option linter.unusedVariables false
set_option linter.unusedSimpArgs false
namespace Go.Proofs.YtfbgmlophkbejaaDoor
open Go.RowKit Go.Proofs.YtfbgmlophkbejaaDoorW.PrintWords Go.Proofs.YtfbgmlophkbejaaDoorW.PrintLast
section
variable {P : Program} {ops : Array Oper} {oi : Oper} {a : Act} {w : World} {K : Act→World→Prop} {Q : Exit→Act→World→Prop}
end
section
variable {ops : Array Oper} {oi : Oper} {a : Act} {w : World} {K : Act→World→Prop} {Q : Exit→Act→World→Prop}
end
end Go.Proofs.YtfbgmlophkbejaaDoor
set_option linter.unusedVariables false
set_option linter.unusedSimpArgs false
namespace Go.Proofs.YtfbgmlophkbejaaDoor
open Go.RowKit Go.Proofs.YtfbgmlophkbejaaDoorW.PrintWords Go.Proofs.YtfbgmlophkbejaaDoorW.PrintLast
def FirstAt (p : Int→Bool) (from_ n r : Int) : Prop :=
 (r=-1∧∀ j,from_≤j→0≤j→j < n→p j=false) ∨ (from_≤r∧0≤r∧r < n∧p r=true∧∀ j,from_≤j→0≤j→j < r→p j=false)
theorem FirstAt.none {p : Int→Bool} {fr n k : Int} (hk : n≤k) (hall : ∀ j,fr≤j→0≤j→j < k→p j=false) : FirstAt p fr n (-1):=.inl ⟨rfl,fun j h1 h2 h3 => hall j h1 h2 (by omega)⟩
theorem FirstAt.more {p : Int→Bool} {fr k : Int} (hp : fr≤k→p k=false) (hall : ∀ j,fr≤j→0≤j→j < k→p j=false) : ∀ j,fr≤j→0≤j→j < k + 1→p j=false:=fun j h1 h2 h3 => by
 by_cases h : j=k
 ·subst h;exact hp h1
 ·exact hall j h1 h2 (by omega)
def AllIn (p : Int→Bool) (n : Int) (r : Bool) : Prop:=r=true ↔ ∀ j,0≤j→j < n→p j=true
theorem AllIn.no {p : Int→Bool} {n k : Int} (h0 : 0≤k) (h1 : k < n) (hp : p k=false) : AllIn p n false:=⟨fun h => (Bool.false_ne_true h).elim,fun h => by rw [h k h0 h1] at hp;cases hp⟩
end Go.Proofs.YtfbgmlophkbejaaDoor
set_option linter.unusedVariables false
set_option linter.unusedSimpArgs false
namespace Go.Proofs.YtfbgmlophkbejaaDoor
open Go.RowKit Go.Proofs.YtfbgmlophkbejaaDoorW.PrintWords Go.Proofs.YtfbgmlophkbejaaDoorW.PrintLast
end Go.Proofs.YtfbgmlophkbejaaDoor
set_option linter.unusedVariables false
set_option linter.unusedSimpArgs false
namespace Go.Proofs.YtfbgmlophkbejaaDoor
open Go.RowKit Go.Proofs.YtfbgmlophkbejaaDoorW.PrintWords Go.Proofs.YtfbgmlophkbejaaDoorW.PrintLast
def U64 (x : Int) : Prop:=0≤x∧x < 18446744073709551616
/-! and,or,and-not of words -/
theorem nat_lt {x : Int} (h : U64 x) : x.toNat < 18446744073709551616:=by have:=h.2;have:=h.1;omega
theorem and_u64 {x y : Int} (hx : U64 x) (hy : U64 y) : bits .and .u64 x y=((x.toNat &&& y.toNat : Nat) : Int):=u64_and x y hx.1 hx.2 hy.1 hy.2
theorem or_u64 {x y : Int} (hx : U64 x) (hy : U64 y) : bits .or .u64 x y=((x.toNat ||| y.toNat : Nat) : Int):=u64_or x y hx.1 hx.2 hy.1 hy.2
theorem U64.and {x y : Int} (hx : U64 x) (hy : U64 y) : U64 (bits .and .u64 x y):=by
 rw [and_u64 hx hy]
 have:=Nat.and_le_left (n:=x.toNat) (m:=y.toNat)
 exact ⟨by omega,by have:=nat_lt hx;omega⟩
theorem U64.or {x y : Int} (hx : U64 x) (hy : U64 y) : U64 (bits .or .u64 x y):=by
 rw [or_u64 hx hy]
 have : x.toNat ||| y.toNat < 2 ^ 64:=Nat.or_lt_two_pow (nat_lt hx) (nat_lt hy)
 exact ⟨by omega,by omega⟩
end Go.Proofs.YtfbgmlophkbejaaDoor
set_option linter.unusedVariables false
set_option linter.unusedSimpArgs false
namespace Go.Proofs.YtfbgmlophkbejaaDoor
open Go.RowKit Go.Proofs.YtfbgmlophkbejaaDoorW.PrintWords Go.Proofs.YtfbgmlophkbejaaDoorW.PrintLast
theorem Blk.four {w : World} {g : Nat} {t : TypeId} {y0 y1 y2 y3 : Int} (h : Blk w g t (arr4 y0 y1 y2 y3)) (v0 v1 v2 v3 : Int) :
  Blk ((((w.setCell ⟨g,0,none⟩ (.int .u64 v0)).setCell ⟨g,1,none⟩ (.int .u64 v1)).setCell ⟨g,2,none⟩ (.int .u64 v2)).setCell ⟨g,3,none⟩ (.int .u64 v3)) g t (arr4 v0 v1 v2 v3) :=
 (((h.set_ 0 (.int .u64 v0)).set_ 1 (.int .u64 v1)).set_ 2 (.int .u64 v2)).set_ 3 (.int .u64 v3)
end Go.Proofs.YtfbgmlophkbejaaDoor
set_option linter.unusedVariables false
set_option linter.unusedSimpArgs false
namespace Go.Proofs.YtfbgmlophkbejaaDoor
open Go.RowKit Go.Proofs.YtfbgmlophkbejaaDoorW.PrintWords Go.Proofs.YtfbgmlophkbejaaDoorW.PrintLast
end Go.Proofs.YtfbgmlophkbejaaDoor
set_option linter.unusedVariables false
set_option linter.unusedSimpArgs false
namespace Go.Proofs.YtfbgmlophkbejaaDoor
open Go.RowKit Go.Proofs.YtfbgmlophkbejaaDoorW.PrintWords Go.Proofs.YtfbgmlophkbejaaDoorW.PrintLast
end Go.Proofs.YtfbgmlophkbejaaDoor
set_option linter.unusedVariables false
set_option linter.unusedSimpArgs false
namespace Go.Proofs.YtfbgmlophkbejaaDoor
open Go.RowKit Go.Proofs.YtfbgmlophkbejaaDoorW.PrintWords Go.Proofs.YtfbgmlophkbejaaDoorW.PrintLast
end Go.Proofs.YtfbgmlophkbejaaDoor
set_option linter.unusedVariables false
set_option linter.unusedSimpArgs false
namespace Go.Proofs.YtfbgmlophkbejaaDoor
open Go.RowKit Go.Proofs.YtfbgmlophkbejaaDoorW.PrintWords Go.Proofs.YtfbgmlophkbejaaDoorW.PrintLast
end Go.Proofs.YtfbgmlophkbejaaDoor
set_option linter.unusedVariables false
set_option linter.unusedSimpArgs false
namespace Go.Proofs.YtfbgmlophkbejaaDoor
open Go.RowKit Go.Proofs.YtfbgmlophkbejaaDoorW.PrintWords Go.Proofs.YtfbgmlophkbejaaDoorW.PrintLast
end Go.Proofs.YtfbgmlophkbejaaDoor
set_option linter.unusedVariables false
set_option linter.unusedSimpArgs false
namespace Go.Proofs.YtfbgmlophkbejaaDoor
open Go.RowKit Go.Proofs.YtfbgmlophkbejaaDoorW.PrintWords Go.Proofs.YtfbgmlophkbejaaDoorW.PrintLast
end Go.Proofs.YtfbgmlophkbejaaDoor
