/- Words that all my walks use: bytes of a text, lists of whole numbers as values, blocks of cells. -/
import Derived.Test.YtgippjhkimohlaaDoorProg
import Derived.Test.YtgippjhkimohlaaDoorWWords
import Derived.Test.YtgippjhkimohlaaDoorWLast
import Derived.Lib.Hide
import Derived.WalkKit
import Derived.WalkSpells
import Derived.WalkLawsBesides
import Derived.KernelRfl
import Derived.BigQuiet
import Derived.Deep.QuietTactic
import Derived.StillTailTactics
import Derived.Deep.RegionHeld3
import Derived.Laws.Rows
import Derived.Below
import Derived.Deep.Draws
import Derived.Deep.AppendLies
import Derived.Maps.AppendAt
import Derived.OwnWalk
import Derived.Laws.BytesArg
import Derived.Laws.MakeOwn
import Derived.Laws.OwnMore
import Derived.Deep.OwnRows
import Derived.Tactics
import Derived.Lib.ConvBytes
import Derived.Laws.Slices
import Derived.RowKit3
import Derived.Deep.LoopGhost
import Derived.WideLaws
import Derived.Deep.DeepCutAuto
import Derived.Deep.CutBlock
import Derived.Lib.AppendStr
import Derived.ArgAppend
import Derived.Laws.IdiomCopy
import Derived.OrdersHeld
import Derived.Laws.BitsLemmas
import Derived.RowKit
set_option linter.unusedVariables false
set_option linter.unusedSimpArgs false
namespace Go.Proofs.YtgippjhkimohlaaDoor
open Go.RowKit Go.Proofs.YtgippjhkimohlaaDoorW.PrintWords Go.Proofs.YtgippjhkimohlaaDoorW.PrintLast

/-! ### numbers, bytes -/
theorem nums_at (k : IntKind) (l : List Int) (i : Int) (h0 : 0 ≤ i) (h1 : i < l.length) : (nums k l)[i.toNat]? = some (.int k (rd l i)) := by
  have h : i.toNat < l.length := by omega
  simp [nums, rd, List.getElem?_eq_getElem h, List.getD_eq_getElem?_getD]
theorem nums_set (k : IntKind) (l : List Int) (i : Nat) (x : Int) : (nums k l).set i (.int k x) = nums k (l.set i x) := by simp [nums, List.map_set]
theorem rd_set (l : List Int) (i j x : Int) (h0 : 0 ≤ i) (h1 : i < l.length) (h2 : 0 ≤ j) : rd (l.set i.toNat x) j = if j = i then x else rd l j := by
  unfold rd
  rw [List.getD_eq_getElem?_getD, List.getD_eq_getElem?_getD, List.getElem?_set]
  by_cases h : j = i
  · subst h
    rw [if_pos rfl, if_pos (by omega), if_pos rfl]; rfl
  · rw [if_neg (by omega), if_neg h]
theorem rd_append_lt (l r : List Int) (i : Int) (h0 : 0 ≤ i) (h : i < l.length) : rd (l ++ r) i = rd l i := by
  unfold rd
  rw [List.getD_eq_getElem?_getD, List.getD_eq_getElem?_getD, List.getElem?_append_left (by omega)]
theorem rd_append_len (l : List Int) (x : Int) (i : Int) (h : i = l.length) : rd (l ++ [x]) i = x := by
  subst h
  simp [rd, List.getD_eq_getElem?_getD]
theorem ext_rd {l l' : List Int} (hl : l.length = l'.length) (h : ∀ i : Int, 0 ≤ i → i < l.length → rd l i = rd l' i) : l = l' := by
  refine List.ext_getElem hl fun i h1 h2 => ?_
  have := h i (by omega) (by omega)
  simpa [rd, List.getD_eq_getElem?_getD, List.getElem?_eq_getElem h1, List.getElem?_eq_getElem h2] using this

/-! ### the world -/
theorem below_after {w w1 w2 : World} (h : Below w.heap.size w w1) (k : Below w1.heap.size w1 w2) : Below w.heap.size w w2 :=
  h.trans ⟨k.os, k.tape, k.output, k.size, fun i hi => k.block i (Nat.lt_of_lt_of_le hi h.size)⟩
theorem below_one (w : World) (o : Obj) : Below w.heap.size w (w.alloc o) := below_alloc (Below.refl _ _) o
theorem below_drewN {B : Nat} {w W : World} (h : Below B w W) (n : Nat) : Below B w (W.drewN n) := ⟨h.os, h.tape, h.output, h.size, h.block⟩
theorem below_set {w W : World} (h : Below w.heap.size w W) {a : Addr} (ha : w.heap.size ≤ a.block) (v : Value) : Below w.heap.size w (W.setCell a v) := h.setCell ha v

/-- block g of the world is just these cells, of element type t, none of them frozen -/
def Blk (w : World) (g : Nat) (t : TypeId) (cs : Array Value) : Prop := w.heap[g]? = some (.cells cs t (0, 0))
section
variable {w w' : World} {g : Nat} {t : TypeId} {cs : Array Value}
theorem Blk.lt (h : Blk w g t cs) : g < w.heap.size := (Array.getElem?_eq_some_iff.1 h).1
theorem Blk.cell (h : Blk w g t cs) (i : Nat) : w.cell? ⟨g, i, none⟩ = cs[i]? := cell_of_row w g i cs t (0, 0) h
theorem Blk.frozen (h : Blk w g t cs) (i : Nat) : w.frozen? ⟨g, i, none⟩ = false := by
  unfold Blk at h
  simp [World.frozen?, h]
theorem Blk.new (w : World) (t : TypeId) (cs : Array Value) : Blk (w.alloc (.cells cs t)) w.heap.size t cs := heap_alloc_new w _
theorem Blk.drew (h : Blk w g t cs) : Blk w.drew g t cs := h
theorem Blk.drewN (h : Blk w g t cs) (n : Nat) : Blk (w.drewN n) g t cs := h
theorem Blk.alloc (h : Blk w g t cs) (o : Obj) : Blk (w.alloc o) g t cs := (Below.heap_alloc w o g h.lt).trans h
theorem Blk.set_ (h : Blk w g t cs) (i : Nat) (u : Value) : Blk (w.setCell ⟨g, i, none⟩ u) g t (cs.setIfInBounds i u) := by
  unfold Blk at h ⊢
  simp [World.setCell, Array.getElem?_modify, h]
theorem Blk.far (h : Blk w g t cs) {p : Addr} (hp : g ≠ p.block) (u : Value) : Blk (w.setCell p u) g t cs := (Below.heap_setCell w p u g hp).trans h
theorem Blk.below (h : Blk w g t cs) {B : Nat} (hb : Below B w w') (hg : g < B) : Blk w' g t cs := (hb.block g hg).trans h
theorem Blk.after (h : Blk w g t cs) (hb : Below w.heap.size w w') : Blk w' g t cs := h.below hb h.lt
end

/-- four words of 64 bits as a value -/
abbrev set4 (x0 x1 x2 x3 : Int) : Value := .agg #[.int .u64 x0, .int .u64 x1, .int .u64 x2, .int .u64 x3]
abbrev arr4 (x0 x1 x2 x3 : Int) : Array Value := #[.int .u64 x0, .int .u64 x1, .int .u64 x2, .int .u64 x3]
theorem Blk.cells4 {w : World} {g : Nat} {t : TypeId} {x0 x1 x2 x3 : Int} (h : Blk w g t (arr4 x0 x1 x2 x3)) :
    w.cell? ⟨g, 0, none⟩ = some (.int .u64 x0) ∧ w.cell? ⟨g, 1, none⟩ = some (.int .u64 x1) ∧ w.cell? ⟨g, 2, none⟩ = some (.int .u64 x2) ∧ w.cell? ⟨g, 3, none⟩ = some (.int .u64 x3) :=
  ⟨h.cell 0, h.cell 1, h.cell 2, h.cell 3⟩
theorem four_at (x0 x1 x2 x3 i : Int) (h0 : 0 ≤ i) (h1 : i < 4) : ([Value.int .u64 x0, .int .u64 x1, .int .u64 x2, .int .u64 x3] : List Value)[i.toNat]? = some (.int .u64 (rd [x0, x1, x2, x3] i)) :=
  nums_at .u64 [x0, x1, x2, x3] i h0 (by simp; omega)
/-! ### what a call answers: behind names, so that the walk's simp leaves them alone -/
def IntSuch (k : IntKind) (P : Int → Prop) (w : World) (e : Ending) (w' : World) : Prop := ∃ r : Int, P r ∧ e = .returned (.int k r) ∧ Below w.heap.size w w'
def BoolSuch (P : Bool → Prop) (w : World) (e : Ending) (w' : World) : Prop := ∃ r : Bool, P r ∧ e = .returned (.bool r) ∧ Below w.heap.size w w'
def StrSuch (P : ByteArray → Prop) (w : World) (e : Ending) (w' : World) : Prop := ∃ r : ByteArray, P r ∧ e = .returned (.string r) ∧ Below w.heap.size w w'
def Set4Such (P : Int → Int → Int → Int → Prop) (w : World) (e : Ending) (w' : World) : Prop := ∃ x0 x1 x2 x3 : Int, P x0 x1 x2 x3 ∧ e = .returned (set4 x0 x1 x2 x3) ∧ Below w.heap.size w w'
/-- an array of whole numbers as a value -/
def ListSuch (k : IntKind) (P : List Int → Prop) (w : World) (e : Ending) (w' : World) : Prop := ∃ l : List Int, P l ∧ e = .returned (.agg (nums k l).toArray) ∧ Below w.heap.size w w'
theorem ret_int {k : IntKind} {a b : Int} (h : a = b) : Ending.returned (.int k a) = .returned (.int k b) := by rw [h]
end Go.Proofs.YtgippjhkimohlaaDoor
