/- Steps inside a region that draws its order: a cell is made, a whole array is stored, a slice literal of arrays. -/
import Derived.Test.YtjiapggmiddpdaaBase2
set_option linter.unusedVariables false
set_option linter.unusedSimpArgs false
namespace Go.Proofs.Ytjiapggmiddpdaa
open Go.RowKit Go.Proofs.YtjiapggmiddpdaaW.PrintWords Go.Proofs.YtjiapggmiddpdaaW.PrintLast
section
variable {P : Program} {ops : Array Oper} {oi : Oper} {a : Act} {w : World} {K : Act → World → Prop} {Q : Exit → Act → World → Prop}
theorem alloc_ {N : Option Tmp} {cells : Array Value} {t : TypeId} (hw : Region.wanted oi (yielded ops a.tmps) = true) (hN : oi.dst = N) (hrun : (execOp a.eval oi).run P w = .ok (.value (.pointer (some ⟨w.heap.size, 0, none⟩))) (w.alloc (.cells cells t)))
    (h : ∀ (g : Nat) (w1 : World), w.heap.size = g → Blk w1 g t cells → Below w.heap.size w w1 → K (a.put N (.pointer (some ⟨g, 0, none⟩))) w1) : if Region.wanted oi (yielded ops a.tmps) = true then Oper.wp P oi a w K Q else K (a.put N undef) w :=
  value_ hw hN hrun (h _ _ rfl (Blk.new _ _ _) (below_one _ _))
theorem store_ (hw : Region.wanted oi (yielded ops a.tmps) = true) (hN : oi.dst = none) (ty : TypeId) (x y : Operand) (ho : oi.op = .store ty x y) (g : Nat) (cells : Array Value) (hx : a.eval x = .pointer (some ⟨g, 0, none⟩)) (hy : a.eval y = .agg cells)
    (t : TypeId) (old : Array Value) (hb : Blk w g t old) (n : Nat) (hi : (P.info? ty).map (·.size) = some n) (hn : cells.size = n) (hold : old.size = n) (h1 : cells.all (·.oneCell') = true)
    (h : ∀ w', Blk w' g t cells → w.grownBy w' (some g) → K a w') : if Region.wanted oi (yielded ops a.tmps) = true then Oper.wp P oi a w K Q else K (a.put none undef) w := by
  refine skip_ (w1 := w.setRow g cells) hw hN ?_ (h _ (blk_setRow hb) (grown_setRow _ _ _))
  unfold execOp
  simp only [ho, hx, hy, Instr.storeAt, Instr.sureAddr, Sem.run_bind, Sem.run_pure, Result.andThen_ok, run_storeVar_row w g t ty old cells hb (by rw [hi, hn]) (by rw [hold, hn]) h1]
theorem lits_ {N : Option Tmp} (hw : Region.wanted oi (yielded ops a.tmps) = true) (hN : oi.dst = N) (t e : TypeId) (len : Nat) (parts : Array (Nat × Operand)) (ho : oi.op = .buildSlice t len parts)
    (cells : Array Value) (ie : TypeInfo) (z : Value)
    (hu : P.underlying t = some (.slice e)) (hie : P.info? e = some ie) (hz : ie.zero = some z) (hsmall : ¬ len * ie.size > 2 ^ 24) (hpos : ¬ len * ie.size = 0)
    (hf : Instr.fill (fun i => some (i * ie.size, ie.size)) ((Array.range (len * ie.size)).map (z.cells[· % z.cells.size]!)) (parts.map fun (i, x) => (i, a.eval x)).toList = some cells)
    (h : ∀ (g : Nat) (w1 : World), w.heap.size = g → Blk w1 g e cells → Below w.heap.size w w1 → K (a.put N (.slice (some ⟨g, 0, none⟩) len len)) w1) : if Region.wanted oi (yielded ops a.tmps) = true then Oper.wp P oi a w K Q else K (a.put N undef) w := by
  rw [if_pos hw]
  subst hN
  exact wp_buildSlice t e len parts ho cells ie z hu hie hz hsmall hpos hf (h _ _ rfl (Blk.new _ _ _) (below_one _ _))
end
theorem info_B : ∃ ie : TypeInfo, Try.prog.info? 24 = some ie ∧ ie.size = 4 ∧ ie.zero = some (set4 0 0 0 0) := by
  have h : (Try.prog.info? 24).map (fun i => (i.size, i.zero)) = some (4, some (set4 0 0 0 0)) := by kernel_rfl
  obtain ⟨ie, h1, h2⟩ := Option.map_eq_some_iff.1 h
  injection h2 with h3 h4
  exact ⟨ie, h1, h3, h4⟩
theorem fill2 (x0 x1 x2 x3 y0 y1 y2 y3 : Int) : Instr.fill (fun i => some (i * 4, 4)) ((Array.range (2 * 4)).map ((set4 0 0 0 0).cells[· % (set4 0 0 0 0).cells.size]!)) [(0, set4 x0 x1 x2 x3), (1, set4 y0 y1 y2 y3)] =
    some (#[.int .u64 x0, .int .u64 x1, .int .u64 x2, .int .u64 x3, .int .u64 y0, .int .u64 y1, .int .u64 y2, .int .u64 y3] : Array Value) := by kernel_rfl
theorem fill3 (x0 x1 x2 x3 y0 y1 y2 y3 z0 z1 z2 z3 : Int) : Instr.fill (fun i => some (i * 4, 4)) ((Array.range (3 * 4)).map ((set4 0 0 0 0).cells[· % (set4 0 0 0 0).cells.size]!)) [(0, set4 x0 x1 x2 x3), (1, set4 y0 y1 y2 y3), (2, set4 z0 z1 z2 z3)] =
    some (#[.int .u64 x0, .int .u64 x1, .int .u64 x2, .int .u64 x3, .int .u64 y0, .int .u64 y1, .int .u64 y2, .int .u64 y3, .int .u64 z0, .int .u64 z1, .int .u64 z2, .int .u64 z3] : Array Value) := by kernel_rfl
section
variable {ops : Array Oper} {oi : Oper} {a : Act} {w : World} {K : Act → World → Prop} {Q : Exit → Act → World → Prop}
theorem lits2_ {N : Option Tmp} (hw : Region.wanted oi (yielded ops a.tmps) = true) (hN : oi.dst = N) (u v : Operand) (ho : oi.op = .buildSlice 72 2 #[(0, u), (1, v)]) {x0 x1 x2 x3 y0 y1 y2 y3 : Int} (hu : a.eval u = set4 x0 x1 x2 x3) (hv : a.eval v = set4 y0 y1 y2 y3)
    (h : ∀ (g : Nat) (w1 : World), Blk w1 g 24 (nums .u64 [x0, x1, x2, x3, y0, y1, y2, y3]).toArray → Below w.heap.size w w1 → K (a.put N (.slice (some ⟨g, 0, none⟩) 2 2)) w1) : if Region.wanted oi (yielded ops a.tmps) = true then Oper.wp Try.prog oi a w K Q else K (a.put N undef) w := by
  obtain ⟨ie, h1, h2, h3⟩ := info_B
  refine lits_ hw hN 72 24 2 _ ho _ ie _ Try.underlying72 h1 h3 (by rw [h2]; omega) (by rw [h2]; omega) (by
    rw [h2]; simp only [List.map_toArray, List.map_cons, List.map_nil, hu, hv]; exact fill2 ..) (fun g w1 _ hb hl => h g w1 hb hl)
theorem lits3_ {N : Option Tmp} (hw : Region.wanted oi (yielded ops a.tmps) = true) (hN : oi.dst = N) (u v q : Operand) (ho : oi.op = .buildSlice 72 3 #[(0, u), (1, v), (2, q)]) {x0 x1 x2 x3 y0 y1 y2 y3 z0 z1 z2 z3 : Int} (hu : a.eval u = set4 x0 x1 x2 x3) (hv : a.eval v = set4 y0 y1 y2 y3) (hq : a.eval q = set4 z0 z1 z2 z3)
    (h : ∀ (g : Nat) (w1 : World), Blk w1 g 24 (nums .u64 [x0, x1, x2, x3, y0, y1, y2, y3, z0, z1, z2, z3]).toArray → Below w.heap.size w w1 → K (a.put N (.slice (some ⟨g, 0, none⟩) 3 3)) w1) : if Region.wanted oi (yielded ops a.tmps) = true then Oper.wp Try.prog oi a w K Q else K (a.put N undef) w := by
  obtain ⟨ie, h1, h2, h3⟩ := info_B
  refine lits_ hw hN 72 24 3 _ ho _ ie _ Try.underlying72 h1 h3 (by rw [h2]; omega) (by rw [h2]; omega) (by
    rw [h2]; simp only [List.map_toArray, List.map_cons, List.map_nil, hu, hv, hq]; exact fill3 ..) (fun g w1 _ hb hl => h g w1 hb hl)
theorem wp_lits3 {rest : List Oper} {N : Option Tmp} (hgd : oi.guard = none) (hN : oi.dst = N) (u v q : Operand) (ho : oi.op = .buildSlice 72 3 #[(0, u), (1, v), (2, q)]) {x0 x1 x2 x3 y0 y1 y2 y3 z0 z1 z2 z3 : Int} (hu : a.eval u = set4 x0 x1 x2 x3) (hv : a.eval v = set4 y0 y1 y2 y3) (hq : a.eval q = set4 z0 z1 z2 z3)
    (h : ∀ (g : Nat) (w1 : World), Blk w1 g 24 (nums .u64 [x0, x1, x2, x3, y0, y1, y2, y3, z0, z1, z2, z3]).toArray → Below w.heap.size w w1 → wpList Try.prog ops Q rest (a.put N (.slice (some ⟨g, 0, none⟩) 3 3)) w1) : wpList Try.prog ops Q (oi :: rest) a w := by
  obtain ⟨ie, h1, h2, h3⟩ := info_B
  subst hN
  refine wpList_buildSlice hgd 72 24 3 _ ho _ ie _ Try.underlying72 h1 h3 (by rw [h2]; omega) (by rw [h2]; omega) (by
    rw [h2]; simp only [List.map_toArray, List.map_cons, List.map_nil, hu, hv, hq]; exact fill3 ..) (h _ _ (Blk.new _ _ _) (below_one _ _))
end
/-- twelve cells in a row -/
theorem Blk.cells12 {w : World} {g : Nat} {t : TypeId} {x0 x1 x2 x3 y0 y1 y2 y3 z0 z1 z2 z3 : Int} (h : Blk w g t #[.int .u64 x0, .int .u64 x1, .int .u64 x2, .int .u64 x3, .int .u64 y0, .int .u64 y1, .int .u64 y2, .int .u64 y3, .int .u64 z0, .int .u64 z1, .int .u64 z2, .int .u64 z3]) :
    (w.cell? ⟨g, 0, none⟩ = some (.int .u64 x0) ∧ w.cell? ⟨g, 1, none⟩ = some (.int .u64 x1) ∧ w.cell? ⟨g, 2, none⟩ = some (.int .u64 x2) ∧ w.cell? ⟨g, 3, none⟩ = some (.int .u64 x3)) ∧
    (w.cell? ⟨g, 4, none⟩ = some (.int .u64 y0) ∧ w.cell? ⟨g, 5, none⟩ = some (.int .u64 y1) ∧ w.cell? ⟨g, 6, none⟩ = some (.int .u64 y2) ∧ w.cell? ⟨g, 7, none⟩ = some (.int .u64 y3)) ∧
    (w.cell? ⟨g, 8, none⟩ = some (.int .u64 z0) ∧ w.cell? ⟨g, 9, none⟩ = some (.int .u64 z1) ∧ w.cell? ⟨g, 10, none⟩ = some (.int .u64 z2) ∧ w.cell? ⟨g, 11, none⟩ = some (.int .u64 z3)) :=
  ⟨⟨h.cell 0, h.cell 1, h.cell 2, h.cell 3⟩, ⟨h.cell 4, h.cell 5, h.cell 6, h.cell 7⟩, ⟨h.cell 8, h.cell 9, h.cell 10, h.cell 11⟩⟩
end Go.Proofs.Ytjiapggmiddpdaa
