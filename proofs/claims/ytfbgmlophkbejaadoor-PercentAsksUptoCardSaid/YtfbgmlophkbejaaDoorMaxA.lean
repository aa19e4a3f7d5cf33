/- The length that Go's search of texts asks for: its cell holds some number. -/
import Derived.Test.YtfbgmlophkbejaaDoorScW
import Derived.Shelf.Vars
set_option linter.unusedVariables false
set_option linter.unusedSimpArgs false
namespace Go.Proofs.YtfbgmlophkbejaaDoor
open Go.RowKit
def MaxL (w : World) : Prop:=∃ m : Int,w.cell? ⟨0,0,none⟩=some (.int .i64 m)
theorem maxl_of {W : World} (h : W.ShapedOpen Tryd.prog) : MaxL W:=cell_of_shapedOpen_int (g:=0) (t:=3) (zero:=#[.int .i64 0]) h (by decide +kernel) (by kernel_rfl) rfl (by kernel_rfl) (by kernel_rfl) Tryd.underlying3
theorem MaxL_below {w w' : World} (h : MaxL w) (hb : Below w.heap.size w w') : MaxL w':=by
 obtain ⟨m,hm⟩:=h
 exact ⟨m,(hb.cell (World.block_lt_of_cell? _ _ hm)).trans hm⟩
def TabM (w : World) : Prop:=Tabs w∧MaxL w
theorem TabM_below {w w' : World} (h : TabM w) (hb : Below w.heap.size w w') : TabM w':=⟨Utf8Tabs_below h.1 hb,MaxL_below h.2 hb⟩
end Go.Proofs.YtfbgmlophkbejaaDoor
