/- Words that all my walks use: bytes of a text, lists of whole numbers as values, blocks of cells. Words on whole arrays that lie in a block: loads, stores, literals, results. Words on slices of bytes that the call itself makes: out of a text, grown by append, and back to a text. Texts by their bytes: what stands in a part of a text, in two texts joined. Plain. -/
import Derived.Test.YtfbgmlophkbejaaDoorProg
import Derived.Test.YtfbgmlophkbejaaDoorWWords
import Derived.Test.YtfbgmlophkbejaaDoorWLast
import Derived.Lib.Hide
import Derived.WalkKit
import Derived.WalkSpells
import Derived.WalkLawsBesides
import Derived.KernelRfl
import Derived.BigQuiet
import Derived.Deep.QuietTactic
import Derived.StillTailTactics
import Derived.Deep.RegionHeld3
import Derived.Laws.Rows
import Derived.Below
import Derived.Deep.Draws
import Derived.Deep.AppendLies
import Derived.Maps.AppendAt
import Derived.OwnWalk
import Derived.Laws.BytesArg
import Derived.Laws.MakeOwn
import Derived.Laws.OwnMore
import Derived.Deep.OwnRows
import Derived.Tactics
import Derived.Lib.ConvBytes
import Derived.Laws.Slices
import Derived.RowKit3
import Derived.Deep.LoopGhost
import Derived.WideLaws
import Derived.Deep.DeepCutAuto
import Derived.Deep.CutBlock
import Derived.Lib.AppendStr
import Derived.ArgAppend
import Derived.Laws.IdiomCopy
import Derived.OrdersHeld
import Derived.Laws.BitsLemmas
import Derived.RowKit
import Derived.Deep.WholeRow
import Derived.Great.BuildSlice
import Derived.Laws.Closers25
set_option linter.unusedVariables false
set_option linter.unusedSimpArgs false
namespace Go.Proofs.YtfbgmlophkbejaaDoor
open Go.RowKit Go.Proofs.YtfbgmlophkbejaaDoorW.PrintWords Go.Proofs.YtfbgmlophkbejaaDoorW.PrintLast

/-! ### numbers, bytes -/
theorem nums_at (k : IntKind) (l : List Int) (i : Int) (h0 : 0 ≤ i) (h1 : i < l.length) : (nums k l)[i.toNat]? = some (.int k (rd l i)) := by
  have h : i.toNat < l.length := by omega
  simp [nums, rd, List.getElem?_eq_getElem h, List.getD_eq_getElem?_getD]
theorem nums_set (k : IntKind) (l : List Int) (i : Nat) (x : Int) : (nums k l).set i (.int k x) = nums k (l.set i x) := by simp [nums, List.map_set]
theorem rd_set (l : List Int) (i j x : Int) (h0 : 0 ≤ i) (h1 : i < l.length) (h2 : 0 ≤ j) : rd (l.set i.toNat x) j = if j = i then x else rd l j := by
  unfold rd
  rw [List.getD_eq_getElem?_getD, List.getD_eq_getElem?_getD, List.getElem?_set]
  by_cases h : j = i
  · subst h
    rw [if_pos rfl, if_pos (by omega), if_pos rfl]; rfl
  · rw [if_neg (by omega), if_neg h]
theorem rd_append_lt (l r : List Int) (i : Int) (h0 : 0 ≤ i) (h : i < l.length) : rd (l ++ r) i = rd l i := by
  unfold rd
  rw [List.getD_eq_getElem?_getD, List.getD_eq_getElem?_getD, List.getElem?_append_left (by omega)]
theorem rd_append_len (l : List Int) (x : Int) (i : Int) (h : i = l.length) : rd (l ++ [x]) i = x := by
  subst h
  simp [rd, List.getD_eq_getElem?_getD]
theorem ext_rd {l l' : List Int} (hl : l.length = l'.length) (h : ∀ i : Int, 0 ≤ i → i < l.length → rd l i = rd l' i) : l = l' := by
  refine List.ext_getElem hl fun i h1 h2 => ?_
  have := h i (by omega) (by omega)
  simpa [rd, List.getD_eq_getElem?_getD, List.getElem?_eq_getElem h1, List.getElem?_eq_getElem h2] using this

/-! ### the world -/
theorem below_after {w w1 w2 : World} (h : Below w.heap.size w w1) (k : Below w1.heap.size w1 w2) : Below w.heap.size w w2 :=
  h.trans ⟨k.os, k.tape, k.output, k.size, fun i hi => k.block i (Nat.lt_of_lt_of_le hi h.size)⟩
theorem below_one (w : World) (o : Obj) : Below w.heap.size w (w.alloc o) := below_alloc (Below.refl _ _) o
theorem below_drewN {B : Nat} {w W : World} (h : Below B w W) (n : Nat) : Below B w (W.drewN n) := ⟨h.os, h.tape, h.output, h.size, h.block⟩
theorem below_set {w W : World} (h : Below w.heap.size w W) {a : Addr} (ha : w.heap.size ≤ a.block) (v : Value) : Below w.heap.size w (W.setCell a v) := h.setCell ha v

/-- block g of the world is just these cells, of element type t, none of them frozen -/
def Blk (w : World) (g : Nat) (t : TypeId) (cs : Array Value) : Prop := w.heap[g]? = some (.cells cs t (0, 0))
section
variable {w w' : World} {g : Nat} {t : TypeId} {cs : Array Value}
theorem Blk.lt (h : Blk w g t cs) : g < w.heap.size := (Array.getElem?_eq_some_iff.1 h).1
theorem Blk.cell (h : Blk w g t cs) (i : Nat) : w.cell? ⟨g, i, none⟩ = cs[i]? := cell_of_row w g i cs t (0, 0) h
theorem Blk.frozen (h : Blk w g t cs) (i : Nat) : w.frozen? ⟨g, i, none⟩ = false := by
  unfold Blk at h
  simp [World.frozen?, h]
theorem Blk.new (w : World) (t : TypeId) (cs : Array Value) : Blk (w.alloc (.cells cs t)) w.heap.size t cs := heap_alloc_new w _
theorem Blk.drew (h : Blk w g t cs) : Blk w.drew g t cs := h
theorem Blk.drewN (h : Blk w g t cs) (n : Nat) : Blk (w.drewN n) g t cs := h
theorem Blk.alloc (h : Blk w g t cs) (o : Obj) : Blk (w.alloc o) g t cs := (Below.heap_alloc w o g h.lt).trans h
theorem Blk.set_ (h : Blk w g t cs) (i : Nat) (u : Value) : Blk (w.setCell ⟨g, i, none⟩ u) g t (cs.setIfInBounds i u) := by
  unfold Blk at h ⊢
  simp [World.setCell, Array.getElem?_modify, h]
theorem Blk.far (h : Blk w g t cs) {p : Addr} (hp : g ≠ p.block) (u : Value) : Blk (w.setCell p u) g t cs := (Below.heap_setCell w p u g hp).trans h
theorem Blk.below (h : Blk w g t cs) {B : Nat} (hb : Below B w w') (hg : g < B) : Blk w' g t cs := (hb.block g hg).trans h
theorem Blk.after (h : Blk w g t cs) (hb : Below w.heap.size w w') : Blk w' g t cs := h.below hb h.lt
end

/-- four words of 64 bits as a value -/
abbrev set4 (x0 x1 x2 x3 : Int) : Value := .agg #[.int .u64 x0, .int .u64 x1, .int .u64 x2, .int .u64 x3]
abbrev arr4 (x0 x1 x2 x3 : Int) : Array Value := #[.int .u64 x0, .int .u64 x1, .int .u64 x2, .int .u64 x3]
theorem Blk.cells4 {w : World} {g : Nat} {t : TypeId} {x0 x1 x2 x3 : Int} (h : Blk w g t (arr4 x0 x1 x2 x3)) :
    w.cell? ⟨g, 0, none⟩ = some (.int .u64 x0) ∧ w.cell? ⟨g, 1, none⟩ = some (.int .u64 x1) ∧ w.cell? ⟨g, 2, none⟩ = some (.int .u64 x2) ∧ w.cell? ⟨g, 3, none⟩ = some (.int .u64 x3) :=
  ⟨h.cell 0, h.cell 1, h.cell 2, h.cell 3⟩
theorem four_at (x0 x1 x2 x3 i : Int) (h0 : 0 ≤ i) (h1 : i < 4) : ([Value.int .u64 x0, .int .u64 x1, .int .u64 x2, .int .u64 x3] : List Value)[i.toNat]? = some (.int .u64 (rd [x0, x1, x2, x3] i)) :=
  nums_at .u64 [x0, x1, x2, x3] i h0 (by simp; omega)
/-! ### what a call answers: behind names, so that the walk's simp leaves them alone -/
def IntSuch (k : IntKind) (P : Int → Prop) (w : World) (e : Ending) (w' : World) : Prop := ∃ r : Int, P r ∧ e = .returned (.int k r) ∧ Below w.heap.size w w'
def BoolSuch (P : Bool → Prop) (w : World) (e : Ending) (w' : World) : Prop := ∃ r : Bool, P r ∧ e = .returned (.bool r) ∧ Below w.heap.size w w'
def StrSuch (P : ByteArray → Prop) (w : World) (e : Ending) (w' : World) : Prop := ∃ r : ByteArray, P r ∧ e = .returned (.string r) ∧ Below w.heap.size w w'
def Set4Such (P : Int → Int → Int → Int → Prop) (w : World) (e : Ending) (w' : World) : Prop := ∃ x0 x1 x2 x3 : Int, P x0 x1 x2 x3 ∧ e = .returned (set4 x0 x1 x2 x3) ∧ Below w.heap.size w w'
/-- an array of whole numbers as a value -/
def ListSuch (k : IntKind) (P : List Int → Prop) (w : World) (e : Ending) (w' : World) : Prop := ∃ l : List Int, P l ∧ e = .returned (.agg (nums k l).toArray) ∧ Below w.heap.size w w'
theorem ret_int {k : IntKind} {a b : Int} (h : a = b) : Ending.returned (.int k a) = .returned (.int k b) := by rw [h]
end Go.Proofs.YtfbgmlophkbejaaDoor

set_option linter.unusedVariables false
set_option linter.unusedSimpArgs false
namespace Go.Proofs.YtfbgmlophkbejaaDoor
open Go.RowKit Go.Proofs.YtfbgmlophkbejaaDoorW.PrintWords Go.Proofs.YtfbgmlophkbejaaDoorW.PrintLast
section
variable {P : Program} {ops : Array Oper} {rest : List Oper} {o : Oper} {a : Act} {w : World} {Q : Exit → Act → World → Prop}
theorem grown_setRow (w : World) (g : Nat) (cs : Array Value) : w.grownBy (w.setRow g cs) (some g) := by
  refine ⟨rfl, rfl, rfl, by simp [World.setRow], fun i hi hne => ?_⟩
  have hne' : ¬ g = i := fun e => hne (by rw [e])
  simp [World.setRow, Array.getElem?_modify, hne']
theorem blk_setRow {w : World} {g : Nat} {t : TypeId} {old cs : Array Value} (h : Blk w g t old) : Blk (w.setRow g cs) g t cs := by
  unfold Blk at h ⊢
  simp [World.setRow, Array.getElem?_modify, h]
theorem Blk.grown {w w' : World} {g : Nat} {t : TypeId} {cs : Array Value} {row : Option Nat} (h : Blk w g t cs) (hb : w.grownBy w' row) (hg : some g ≠ row) : Blk w' g t cs := (hb.block g h.lt hg).trans h
/-- A whole array out of its block. -/
theorem wp_load_blk (hgd : o.guard = none) (ty : TypeId) (x : Operand) (ho : o.op = .load ty x) (g : Nat) (hx : a.eval x = .pointer (some ⟨g, 0, none⟩)) (t : TypeId) (cs : Array Value) (hb : Blk w g t cs)
    (d : TypeDesc) (hu : P.underlying ty = some d) (hd : (match d with | .struct _ | .array _ _ => true | _ => false) = true) (n : Nat) (hi : (P.info? ty).map (·.size) = some n) (hn : cs.size = n)
    (h : wpList P ops Q rest (a.put o.dst (.agg cs)) w) : wpList P ops Q (o :: rest) a w :=
  wpList_load_row hgd ty x ho g hx t cs (0, 0) d hb hu hd (by rw [hi, hn]) h
/-- A whole array into a block. -/
theorem wp_store_blk (hgd : o.guard = none) (ty : TypeId) (x y : Operand) (ho : o.op = .store ty x y) (hdst : o.dst = none) (g : Nat) (cells : Array Value) (hx : a.eval x = .pointer (some ⟨g, 0, none⟩)) (hy : a.eval y = .agg cells)
    (t : TypeId) (old : Array Value) (hb : Blk w g t old) (n : Nat) (hi : (P.info? ty).map (·.size) = some n) (hn : cells.size = n) (hold : old.size = n) (h1 : cells.all (·.oneCell') = true)
    (h : ∀ w', Blk w' g t cells → w.grownBy w' (some g) → wpList P ops Q rest a w') : wpList P ops Q (o :: rest) a w :=
  wpList_store_rowTo hgd ty x y ho hdst g cells hx hy t old hb (by rw [hi, hn]) (by rw [hold, hn]) h1 (h _ (blk_setRow hb) (grown_setRow _ _ _))
theorem wp_build_nil (hgd : o.guard = none) (t : TypeId) (ho : o.op = .build t #[]) (d : Nat) (hd : o.dst = some d) (cells : Array Value) (hf : P.built t [] = some cells)
    (h : wpList P ops Q rest (a.put (some d) (.agg cells)) w) : wpList P ops Q (o :: rest) a w :=
  wpList_buildTo hgd t #[] ho _ hd cells (by simpa using hf) h
end
theorem Blk.at_new {w : World} {g : Nat} {t : TypeId} {cs : Array Value} (h : g = w.heap.size) : Blk (w.alloc (.cells cs t)) g t cs := by subst h; exact Blk.new _ _ _
theorem below_grown {w w1 w2 : World} {g : Nat} (h : Below w.heap.size w w1) (hg : w1.grownBy w2 (some g)) (hle : w.heap.size ≤ g) : Below w.heap.size w w2 := h.grown hg h.size (fun k hk => by cases hk; exact hle)
theorem blk_num_set {w : World} {g : Nat} {t : TypeId} {k : IntKind} {l : List Int} (h : Blk w g t (nums k l).toArray) (i : Nat) (x : Int) : Blk (w.setCell ⟨g, i, none⟩ (.int k x)) g t (nums k (l.set i x)).toArray := by
  have := h.set_ i (.int k x)
  simpa [nums_set] using this
theorem blk_num_at {w : World} {g : Nat} {t : TypeId} {k : IntKind} {l : List Int} (h : Blk w g t (nums k l).toArray) (i : Int) (h0 : 0 ≤ i) (h1 : i < l.length) : w.cell? ⟨g, i.toNat, none⟩ = some (.int k (rd l i)) :=
  (h.cell i.toNat).trans ((List.getElem?_toArray ..).trans (nums_at k l i h0 h1))
theorem blk4_at {w : World} {g : Nat} {t : TypeId} {x0 x1 x2 x3 : Int} (h : Blk w g t (arr4 x0 x1 x2 x3)) (i : Int) (h0 : 0 ≤ i) (h1 : i < 4) : w.cell? ⟨g, i.toNat, none⟩ = some (.int .u64 (rd [x0, x1, x2, x3] i)) :=
  blk_num_at (k := .u64) (l := [x0, x1, x2, x3]) h i h0 h1
/-- A whole array as a result. -/
theorem ret_blk {P : Program} {fn : Func} {p : Tmp} {ty : TypeId} (h : fn.results = #[.cell p ty]) (tmps : Array Value) (w : World) (g : Nat) (t : TypeId) (cs : Array Value) (d : TypeDesc)
    (hp : tmps.getD p undef = .pointer (some ⟨g, 0, none⟩)) (hb : Blk w g t cs) (hu : P.underlying ty = some d) (hd : (match d with | .struct _ | .array _ _ => true | _ => false) = true) (n : Nat) (hi : (P.info? ty).map (·.size) = some n) (hn : cs.size = n) :
    (results fn tmps).run P w = .ok (.agg cs) w := results_cell_row h tmps w g t cs (0, 0) d hp hb hu hd (by rw [hi, hn])
/-- A whole array out of its block, as the walk's simp leaves it. -/
theorem blk_loadCells {P : Program} {w : World} {g : Nat} {t : TypeId} {cs : Array Value} (hb : Blk w g t cs) {n : Nat} (hn : cs.size = n) :
    (loadCellsFrom ⟨g, 0, none⟩ 0 n #[]).run P w = .ok cs w := by
  subst hn
  have := run_loadCells_list (P := P) w ⟨g, 0, none⟩ cs.toList (fun j v hv => by
    have hadd : (⟨g, 0, none⟩ : Addr).add j = ⟨g, j, none⟩ := by unfold Addr.add; split <;> simp_all
    rw [hadd, hb.cell j]
    simpa using hv)
  simpa [loadCells] using this
/-- The same, as an operation's run. -/
theorem exec_load_blk {P : Program} {o : Oper} {a : Act} {w : World} {cs : Array Value} (ty : TypeId) (x : Operand) (ho : o.op = .load ty x) (g : Nat) (hx : a.eval x = .pointer (some ⟨g, 0, none⟩)) (t : TypeId) (hb : Blk w g t cs)
    (d : TypeDesc) (hu : P.underlying ty = some d) (hd : (match d with | .struct _ | .array _ _ => true | _ => false) = true) (n : Nat) (hi : (P.info? ty).map (·.size) = some n) (hn : cs.size = n) :
    (execOp a.eval o).run P w = .ok (.value (.agg cs)) w := by
  unfold execOp
  simp only [ho, hx, Instr.loadAt, Instr.sureAddr, Sem.run_bind, Sem.run_pure, Result.andThen_ok, run_loadVar_row w g t ty cs (0, 0) d hb hu hd (by rw [hi, hn])]
theorem nums_one (k : IntKind) (l : List Int) : (nums k l).toArray.all (·.oneCell') = true := by
  rw [Array.all_eq_true_iff_forall_mem]
  intro v hv
  simp only [nums, List.mem_toArray, List.mem_map] at hv
  obtain ⟨x, _, rfl⟩ := hv
  rfl
theorem nums_size (k : IntKind) (l : List Int) : (nums k l).toArray.size = l.length := by simp [nums]
end Go.Proofs.YtfbgmlophkbejaaDoor

set_option linter.unusedVariables false
set_option linter.unusedSimpArgs false
namespace Go.Proofs.YtfbgmlophkbejaaDoor
open Go.RowKit Go.Proofs.YtfbgmlophkbejaaDoorW.PrintWords Go.Proofs.YtfbgmlophkbejaaDoorW.PrintLast
theorem info_u8 : (Tryd.prog.info? 5).map (fun i => (i.zero, i.size, i.bytes)) = some (some (.int .u8 0), 1, 1) := by kernel_rfl

/-- block g bears these bytes at its head, and each of them may be written -/
def Byt (w : World) (g : Nat) (xs : List Int) : Prop := ∃ cs e fr, w.heap[g]? = some (.cells cs e fr) ∧ (fr.1 = fr.2 ∨ xs.length ≤ fr.1) ∧ ∀ i, i < xs.length → cs[i]? = some (.int .u8 (xs.getD i 0))
section
variable {w w' : World} {g : Nat} {xs : List Int}
theorem Byt.lt (h : Byt w g xs) : g < w.heap.size := by
  obtain ⟨cs, e, fr, h, _⟩ := h
  exact (Array.getElem?_eq_some_iff.1 h).1
theorem Byt.cell (h : Byt w g xs) (i : Int) (h0 : 0 ≤ i) (h1 : i < xs.length) : w.cell? ⟨g, i.toNat, none⟩ = some (.int .u8 (rd xs i)) := by
  obtain ⟨cs, e, fr, h, _, hc⟩ := h
  rw [show w.cell? ⟨g, i.toNat, none⟩ = cs[i.toNat]? from by simp [World.cell?, h]]
  exact hc _ (by omega)
theorem Byt.frozen (h : Byt w g xs) (i : Int) (h0 : 0 ≤ i) (h1 : i < xs.length) : w.frozen? ⟨g, i.toNat, none⟩ = false := by
  obtain ⟨cs, e, ⟨lo, hi⟩, h, hf, _⟩ := h
  have : ¬ (lo ≤ i.toNat ∧ i.toNat < hi) := by
    rcases hf with hf | hf <;> simp at hf <;> omega
  simp only [World.frozen?, h]
  simpa [Bool.and_eq_true, decide_eq_true_eq] using this
theorem Byt.below (h : Byt w g xs) {B : Nat} (hb : Below B w w') (hg : g < B) : Byt w' g xs := by
  obtain ⟨cs, e, fr, h, hr⟩ := h
  exact ⟨cs, e, fr, (hb.block g hg).trans h, hr⟩
theorem Byt.after (h : Byt w g xs) (hb : Below w.heap.size w w') : Byt w' g xs := h.below hb h.lt
theorem Byt.drew (h : Byt w g xs) : Byt w.drew g xs := h
theorem Byt.alloc (h : Byt w g xs) (o : Obj) : Byt (w.alloc o) g xs := h.after (below_one _ _)
theorem Byt.set_ (h : Byt w g xs) (i : Int) (h0 : 0 ≤ i) (h1 : i < xs.length) (x : Int) : Byt (w.setCell ⟨g, i.toNat, none⟩ (.int .u8 x)) g (xs.set i.toNat x) := by
  obtain ⟨cs, e, fr, h, hf, hc⟩ := h
  refine ⟨cs.setIfInBounds i.toNat (.int .u8 x), e, fr, by simp [World.setCell, Array.getElem?_modify, h], by rw [List.length_set]; exact hf, fun j hj => ?_⟩
  rw [List.length_set] at hj
  have hcs : i.toNat < cs.size := by
    have := hc i.toNat (by omega)
    exact (Array.getElem?_eq_some_iff.1 this).1
  rw [Array.getElem?_setIfInBounds, List.getD_eq_getElem?_getD, List.getElem?_set]
  by_cases e : i.toNat = j
  · subst e
    simp [hcs, show i.toNat < xs.length by omega]
  · simp only [e, if_false]
    rw [hc j hj, List.getD_eq_getElem?_getD]
theorem Byt.text (h : Byt w g xs) {P : Program} {src dst e : TypeId} (hs : P.underlying src = some (.slice e)) (he : P.underlying e = some (.int .u8)) (hd : P.underlying dst = some .string) (cap : Nat) :
    (convert src dst (.slice (some ⟨g, 0, none⟩) xs.length cap)).run P w = .ok (.string (strOfNums xs)) w := by
  refine run_convert_bytes_arg w src e hs he g 0 xs.length cap xs rfl (fun i hi => ?_) dst hd
  have := h.cell (i : Int) (by omega) (by omega)
  simp only [Int.toNat_natCast] at this
  rw [Nat.zero_add, this]
  simp [rd]
end
theorem Byt.new (W : World) (e : TypeId) (s : ByteArray) : Byt (Lib.bytesWorld W e s) W.heap.size (bytesOf s) := by
  refine ⟨_, e, _, Lib.bytesWorld_at_new W e s, .inr ?_, fun i hi => ?_⟩
  · rcases Nat.lt_or_ge (Lib.bytesCells W e s).size (bytesOf s).length with h | h
    · exfalso
      rw [bytesOf_length] at h
      have := Lib.bytesWorld_cell W e s (Lib.bytesCells W e s).size h
      rw [show (Lib.bytesWorld W e s).cell? ⟨W.heap.size, (Lib.bytesCells W e s).size, none⟩ = (Lib.bytesCells W e s)[(Lib.bytesCells W e s).size]? from by simp [World.cell?, Lib.bytesWorld_at_new]] at this
      simp at this
    · exact h
  · rw [bytesOf_length] at hi
    have := Lib.bytesWorld_cell W e s i hi
    rw [show (Lib.bytesWorld W e s).cell? ⟨W.heap.size, i, none⟩ = (Lib.bytesCells W e s)[i]? from by simp [World.cell?, Lib.bytesWorld_at_new]] at this
    rw [this]
    have h' : i < s.data.toList.length := by rw [data_length]; exact hi
    simp [bytesOf, List.getD_eq_getElem?_getD, List.getElem?_eq_getElem h']

theorem strOfNums_bytesOf (s : ByteArray) : strOfNums (bytesOf s) = s := by
  obtain ⟨⟨l⟩⟩ := s
  simp only [strOfNums, bytesOf, List.map_map]
  congr 2
  rw [List.map_congr_left (g := id) (fun b _ => by simp)]
  simp
theorem bt_strOfNums (xs : List Int) (i : Int) (h0 : 0 ≤ i) (hr : ∀ x ∈ xs, 0 ≤ x ∧ x ≤ 255) : bt (strOfNums xs) i = rd xs i := by
  unfold bt rd
  split
  · rename_i h
    rw [strOfNums_size] at h
    have hx := hr xs[i.toNat] (List.getElem_mem h)
    have : (strOfNums xs)[i.toNat]'(by rw [strOfNums_size]; exact h) = UInt8.ofNat (xs[i.toNat]).toNat := by
      show (strOfNums xs).data[i.toNat]'_ = _
      simp [strOfNums]
    rw [this, List.getD_eq_getElem?_getD, List.getElem?_eq_getElem h]
    simp
    omega
  · rename_i h
    rw [strOfNums_size] at h
    rw [List.getD_eq_getElem?_getD, List.getElem?_eq_none (by omega)]
    rfl
theorem strOfNums_inj {xs ys : List Int} (hx : ∀ x ∈ xs, 0 ≤ x ∧ x ≤ 255) (hy : ∀ x ∈ ys, 0 ≤ x ∧ x ≤ 255) (h : strOfNums xs = strOfNums ys) : xs = ys := by
  refine ext_rd ?_ fun i h0 h1 => ?_
  · rw [← strOfNums_size, ← strOfNums_size ys, h]
  · rw [← bt_strOfNums xs i h0 hx, ← bt_strOfNums ys i h0 hy, h]
theorem bytesOf_strOfNums (xs : List Int) (hr : ∀ x ∈ xs, 0 ≤ x ∧ x ≤ 255) : bytesOf (strOfNums xs) = xs := by
  refine ext_rd (by rw [bytesOf_length, strOfNums_size]) fun i h0 h1 => ?_
  rw [rd_bytesOf, bt_strOfNums xs i h0 hr]
theorem mem_bytesOf {s : ByteArray} {x : Int} (h : x ∈ bytesOf s) : 0 ≤ x ∧ x ≤ 255 := by
  unfold bytesOf at h
  obtain ⟨b, _, rfl⟩ := List.mem_map.1 h
  have := b.toNat_lt
  omega
theorem strOfNums_append (a b : List Int) : strOfNums a ++ strOfNums b = strOfNums (a ++ b) := by
  apply ByteArray.ext
  simp [strOfNums]
end Go.Proofs.YtfbgmlophkbejaaDoor

set_option linter.unusedVariables false
set_option linter.unusedSimpArgs false
namespace Go.Proofs.YtfbgmlophkbejaaDoor
open Go.RowKit Go.Proofs.YtfbgmlophkbejaaDoorW.PrintWords Go.Proofs.YtfbgmlophkbejaaDoorW.PrintLast
theorem bt_out (s : ByteArray) (i : Int) (h : (s.size : Int) ≤ i) : bt s i = 0 := by
  unfold bt
  rw [dif_neg (by omega)]
theorem bt_app (s t : ByteArray) (i : Int) (h0 : 0 ≤ i) : bt (s ++ t) i = if i < s.size then bt s i else bt t (i - s.size) := by
  have hsz : (s ++ t).size = s.size + t.size := ByteArray.size_append
  unfold bt
  by_cases h : i < s.size
  · rw [if_pos h, dif_pos (by omega), dif_pos (by omega), ByteArray.getElem_append_left (by omega)]
  · rw [if_neg h]
    by_cases h2 : i.toNat < (s ++ t).size
    · rw [dif_pos h2, dif_pos (by omega), ByteArray.getElem_append_right (by omega)]
      congr 3
      omega
    · rw [dif_neg h2, dif_neg (by omega)]
theorem bt_ext (s : ByteArray) (a b : Nat) (hb : b ≤ s.size) (i : Int) (h0 : 0 ≤ i) : bt (s.extract a b) i = if i < (b : Int) - a then bt s (a + i) else 0 := by
  have e : (s.extract a b).size = b - a := by rw [ByteArray.size_extract]; omega
  split
  · unfold bt
    rw [dif_pos (by omega), dif_pos (by omega)]
    have h3 : (s.extract a b)[i.toNat]'(by omega) = s[a + i.toNat]'(by omega) := ByteArray.getElem_extract _
    rw [h3]
    congr 3
    omega
  · exact bt_out _ _ (by omega)
theorem size_ext (s : ByteArray) (a b : Nat) (hb : b ≤ s.size) : (s.extract a b).size = b - a := by rw [ByteArray.size_extract]; omega
theorem ba_ext {s t : ByteArray} (h : s.size = t.size) (h2 : ∀ i : Int, 0 ≤ i → i < s.size → bt s i = bt t i) : s = t := by
  rw [← strOfNums_bytesOf s, ← strOfNums_bytesOf t]
  congr 1
  refine ext_rd (by rw [bytesOf_length, bytesOf_length, h]) fun i h0 h1 => ?_
  rw [rd_bytesOf, rd_bytesOf]
  exact h2 i h0 (by rw [bytesOf_length] at h1; exact h1)
theorem empty_no {s : ByteArray} (h : 0 < s.size) : s.toList.isEmpty = false := by
  rw [← decide_eq_emptyBytes]
  exact decide_eq_false fun e => by subst e; exact absurd h (by decide)
theorem empty_yes {s : ByteArray} (h : s.size = 0) : s.toList.isEmpty = true := by
  rw [← decide_eq_emptyBytes]
  exact decide_eq_true (ba_ext (by rw [h]; rfl) fun i h0 h1 => by omega)
end Go.Proofs.YtfbgmlophkbejaaDoor
