/- The two tables of Go's library: a world that lays them, and what the row's list gives. -/
import Derived.Test.YtfbgmlophkbejaaDoorScW
import Derived.Test.YtfbgmlophkbejaaDoorCards
import Derived.Test.YtfbgmlophkbejaaDoorTie
import Derived.Lib.LaidIn
import Derived.Lib.LaidU8T
import Derived.PinnedBridge
import Derived.Deep.DeepHandedRow
import Derived.Deep.DeepWitnessRowRef
import Derived.ProofKit
import Derived.SizedLaws
set_option linter.unusedVariables false
set_option linter.unusedSimpArgs false
namespace Go.Proofs.YtfbgmlophkbejaaDoor
open Go.ChangeShapes Go.WideShapes Go.ChangeAt Go.RowKit
def tabsLaid : List (String × DataW Unit) := [("unicode/utf8.acceptRanges", Rows.laid_unicode_utf8_acceptRanges), ("unicode/utf8.first", Rows.laid_unicode_utf8_first)]
noncomputable def laidWorld (os : Os) : World :=
 let w0:=World.holding Tryd.prog os ⟨#[],#[],[]⟩
 let put (h : Array Obj) (g : Nat) (cs : Array Value) : Array Obj:=h.modify g fun
  | .cells _ t frozen => .cells cs t frozen
  | o => o
 let h1:=put w0.heap 1 (Lib.firstTab.map fun z => Value.int .u8 z).toArray
 let h2:=put h1 2 ((List.range 16).flatMap fun i => [Value.int .u8 (Lib.accLo i),Value.int .u8 (Lib.accHi i)]).toArray
 { w0 with heap:=h2 }
theorem laid_met (os : Os) (args : Array Value) : laidMet Tryd.prog tabsLaid ((laidWorld os).forCall (fun _ _ => 0) ⟨#[],args,[]⟩).memory :=
 (LaidIn.of_run (l:=tabsLaid) [1,2] 8 (by kernel_rfl) (by kernel_rfl) (by kernel_rfl) (by kernel_rfl)).met
theorem accept_eq : (Rows.laid_unicode_utf8_acceptRanges : DataW Unit)=Lib.acceptData:=by kernel_rfl
theorem first_eq : (Rows.laid_unicode_utf8_first : DataW Unit)=Lib.firstData:=Pinned.utf8First_eq
theorem tabs_of {W : World} (h : laidMet Tryd.prog tabsLaid W) : Tabs W:=by
 unfold tabsLaid at h
 rw [accept_eq,first_eq] at h
 exact utf8Tabs_of_readsT (U8Types.of260 Tryd.lays260) ⟨by kernel_rfl,by kernel_rfl,by kernel_rfl,by kernel_rfl,by kernel_rfl,by kernel_rfl,by kernel_rfl⟩ (Lib.laidMet.reads h (.tail _ (.head _))) (Lib.laidMet.reads h (.head _))
end Go.Proofs.YtfbgmlophkbejaaDoor
