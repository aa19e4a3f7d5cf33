/- Steps inside a region that draws its order: a cell is made, a whole array is stored, a slice literal of arrays. My walks over package octet: sets that are asked: Has, Find, All; and the document's: Unwords, Find. My walks over the document's sets (arrays of 256 bytes): Unwords, Find. Plain laws on sets of bytes as four words of 64 bits: nothing of the program. Package octet: sets made of sets: Cross, Minus, Union, put, Make, with, Members. Union of two and of three sets; what Cross and Minus make of sets; All of Members. The document's sets made: with, from, Words; the program's with and Make. The document's Words and Make; the program's Make. The named sets: the program's and the document's, as the very words. (Written by wip/gen/octp.py.) The named sets: the walk of octet.Named. (Written by wip/gen/octp.py.) The named sets: the walk of the document's Named. (Written by wip/gen/octp.py.) -/
import Derived.Test.YtfbgmlophkbejaaDoorBas
import Derived.ChangeKeysEq
set_option linter.unusedVariables false
set_option linter.unusedSimpArgs false
namespace Go.Proofs.YtfbgmlophkbejaaDoor
open Go.RowKit Go.Proofs.YtfbgmlophkbejaaDoorW.PrintWords Go.Proofs.YtfbgmlophkbejaaDoorW.PrintLast
section
variable {P : Program} {ops : Array Oper} {oi : Oper} {a : Act} {w : World} {K : Act → World → Prop} {Q : Exit → Act → World → Prop}
theorem alloc_ {N : Option Tmp} {cells : Array Value} {t : TypeId} (hw : Region.wanted oi (yielded ops a.tmps) = true) (hN : oi.dst = N) (hrun : (execOp a.eval oi).run P w = .ok (.value (.pointer (some ⟨w.heap.size, 0, none⟩))) (w.alloc (.cells cells t)))
    (h : ∀ (g : Nat) (w1 : World), w.heap.size = g → Blk w1 g t cells → Below w.heap.size w w1 → K (a.put N (.pointer (some ⟨g, 0, none⟩))) w1) : if Region.wanted oi (yielded ops a.tmps) = true then Oper.wp P oi a w K Q else K (a.put N undef) w :=
  value_ hw hN hrun (h _ _ rfl (Blk.new _ _ _) (below_one _ _))
theorem store_ (hw : Region.wanted oi (yielded ops a.tmps) = true) (hN : oi.dst = none) (ty : TypeId) (x y : Operand) (ho : oi.op = .store ty x y) (g : Nat) (cells : Array Value) (hx : a.eval x = .pointer (some ⟨g, 0, none⟩)) (hy : a.eval y = .agg cells)
    (t : TypeId) (old : Array Value) (hb : Blk w g t old) (n : Nat) (hi : (P.info? ty).map (·.size) = some n) (hn : cells.size = n) (hold : old.size = n) (h1 : cells.all (·.oneCell') = true)
    (h : ∀ w', Blk w' g t cells → w.grownBy w' (some g) → K a w') : if Region.wanted oi (yielded ops a.tmps) = true then Oper.wp P oi a w K Q else K (a.put none undef) w := by
  refine skip_ (w1 := w.setRow g cells) hw hN ?_ (h _ (blk_setRow hb) (grown_setRow _ _ _))
  unfold execOp
  simp only [ho, hx, hy, Instr.storeAt, Instr.sureAddr, Sem.run_bind, Sem.run_pure, Result.andThen_ok, run_storeVar_row w g t ty old cells hb (by rw [hi, hn]) (by rw [hold, hn]) h1]
theorem lits_ {N : Option Tmp} (hw : Region.wanted oi (yielded ops a.tmps) = true) (hN : oi.dst = N) (t e : TypeId) (len : Nat) (parts : Array (Nat × Operand)) (ho : oi.op = .buildSlice t len parts)
    (cells : Array Value) (ie : TypeInfo) (z : Value)
    (hu : P.underlying t = some (.slice e)) (hie : P.info? e = some ie) (hz : ie.zero = some z) (hsmall : ¬ len * ie.size > 2 ^ 24) (hpos : ¬ len * ie.size = 0)
    (hf : Instr.fill (fun i => some (i * ie.size, ie.size)) ((Array.range (len * ie.size)).map (z.cells[· % z.cells.size]!)) (parts.map fun (i, x) => (i, a.eval x)).toList = some cells)
    (h : ∀ (g : Nat) (w1 : World), w.heap.size = g → Blk w1 g e cells → Below w.heap.size w w1 → K (a.put N (.slice (some ⟨g, 0, none⟩) len len)) w1) : if Region.wanted oi (yielded ops a.tmps) = true then Oper.wp P oi a w K Q else K (a.put N undef) w := by
  rw [if_pos hw]
  subst hN
  exact wp_buildSlice t e len parts ho cells ie z hu hie hz hsmall hpos hf (h _ _ rfl (Blk.new _ _ _) (below_one _ _))
end
theorem info_B : ∃ ie : TypeInfo, Tryd.prog.info? 27 = some ie ∧ ie.size = 4 ∧ ie.zero = some (set4 0 0 0 0) := by
  have h : (Tryd.prog.info? 27).map (fun i => (i.size, i.zero)) = some (4, some (set4 0 0 0 0)) := by kernel_rfl
  obtain ⟨ie, h1, h2⟩ := Option.map_eq_some_iff.1 h
  injection h2 with h3 h4
  exact ⟨ie, h1, h3, h4⟩
theorem fill2 (x0 x1 x2 x3 y0 y1 y2 y3 : Int) : Instr.fill (fun i => some (i * 4, 4)) ((Array.range (2 * 4)).map ((set4 0 0 0 0).cells[· % (set4 0 0 0 0).cells.size]!)) [(0, set4 x0 x1 x2 x3), (1, set4 y0 y1 y2 y3)] =
    some (#[.int .u64 x0, .int .u64 x1, .int .u64 x2, .int .u64 x3, .int .u64 y0, .int .u64 y1, .int .u64 y2, .int .u64 y3] : Array Value) := by kernel_rfl
theorem fill3 (x0 x1 x2 x3 y0 y1 y2 y3 z0 z1 z2 z3 : Int) : Instr.fill (fun i => some (i * 4, 4)) ((Array.range (3 * 4)).map ((set4 0 0 0 0).cells[· % (set4 0 0 0 0).cells.size]!)) [(0, set4 x0 x1 x2 x3), (1, set4 y0 y1 y2 y3), (2, set4 z0 z1 z2 z3)] =
    some (#[.int .u64 x0, .int .u64 x1, .int .u64 x2, .int .u64 x3, .int .u64 y0, .int .u64 y1, .int .u64 y2, .int .u64 y3, .int .u64 z0, .int .u64 z1, .int .u64 z2, .int .u64 z3] : Array Value) := by kernel_rfl
section
variable {ops : Array Oper} {oi : Oper} {a : Act} {w : World} {K : Act → World → Prop} {Q : Exit → Act → World → Prop}
theorem lits2_ {N : Option Tmp} (hw : Region.wanted oi (yielded ops a.tmps) = true) (hN : oi.dst = N) (u v : Operand) (ho : oi.op = .buildSlice 110 2 #[(0, u), (1, v)]) {x0 x1 x2 x3 y0 y1 y2 y3 : Int} (hu : a.eval u = set4 x0 x1 x2 x3) (hv : a.eval v = set4 y0 y1 y2 y3)
    (h : ∀ (g : Nat) (w1 : World), Blk w1 g 27 (nums .u64 [x0, x1, x2, x3, y0, y1, y2, y3]).toArray → Below w.heap.size w w1 → K (a.put N (.slice (some ⟨g, 0, none⟩) 2 2)) w1) : if Region.wanted oi (yielded ops a.tmps) = true then Oper.wp Tryd.prog oi a w K Q else K (a.put N undef) w := by
  obtain ⟨ie, h1, h2, h3⟩ := info_B
  refine lits_ hw hN 110 27 2 _ ho _ ie _ Tryd.underlying110 h1 h3 (by rw [h2]; omega) (by rw [h2]; omega) (by
    rw [h2]; simp only [List.map_toArray, List.map_cons, List.map_nil, hu, hv]; exact fill2 ..) (fun g w1 _ hb hl => h g w1 hb hl)
theorem lits3_ {N : Option Tmp} (hw : Region.wanted oi (yielded ops a.tmps) = true) (hN : oi.dst = N) (u v q : Operand) (ho : oi.op = .buildSlice 110 3 #[(0, u), (1, v), (2, q)]) {x0 x1 x2 x3 y0 y1 y2 y3 z0 z1 z2 z3 : Int} (hu : a.eval u = set4 x0 x1 x2 x3) (hv : a.eval v = set4 y0 y1 y2 y3) (hq : a.eval q = set4 z0 z1 z2 z3)
    (h : ∀ (g : Nat) (w1 : World), Blk w1 g 27 (nums .u64 [x0, x1, x2, x3, y0, y1, y2, y3, z0, z1, z2, z3]).toArray → Below w.heap.size w w1 → K (a.put N (.slice (some ⟨g, 0, none⟩) 3 3)) w1) : if Region.wanted oi (yielded ops a.tmps) = true then Oper.wp Tryd.prog oi a w K Q else K (a.put N undef) w := by
  obtain ⟨ie, h1, h2, h3⟩ := info_B
  refine lits_ hw hN 110 27 3 _ ho _ ie _ Tryd.underlying110 h1 h3 (by rw [h2]; omega) (by rw [h2]; omega) (by
    rw [h2]; simp only [List.map_toArray, List.map_cons, List.map_nil, hu, hv, hq]; exact fill3 ..) (fun g w1 _ hb hl => h g w1 hb hl)
theorem wp_lits3 {rest : List Oper} {N : Option Tmp} (hgd : oi.guard = none) (hN : oi.dst = N) (u v q : Operand) (ho : oi.op = .buildSlice 110 3 #[(0, u), (1, v), (2, q)]) {x0 x1 x2 x3 y0 y1 y2 y3 z0 z1 z2 z3 : Int} (hu : a.eval u = set4 x0 x1 x2 x3) (hv : a.eval v = set4 y0 y1 y2 y3) (hq : a.eval q = set4 z0 z1 z2 z3)
    (h : ∀ (g : Nat) (w1 : World), Blk w1 g 27 (nums .u64 [x0, x1, x2, x3, y0, y1, y2, y3, z0, z1, z2, z3]).toArray → Below w.heap.size w w1 → wpList Tryd.prog ops Q rest (a.put N (.slice (some ⟨g, 0, none⟩) 3 3)) w1) : wpList Tryd.prog ops Q (oi :: rest) a w := by
  obtain ⟨ie, h1, h2, h3⟩ := info_B
  subst hN
  refine wpList_buildSlice hgd 110 27 3 _ ho _ ie _ Tryd.underlying110 h1 h3 (by rw [h2]; omega) (by rw [h2]; omega) (by
    rw [h2]; simp only [List.map_toArray, List.map_cons, List.map_nil, hu, hv, hq]; exact fill3 ..) (h _ _ (Blk.new _ _ _) (below_one _ _))
end
/-- twelve cells in a row -/
theorem Blk.cells12 {w : World} {g : Nat} {t : TypeId} {x0 x1 x2 x3 y0 y1 y2 y3 z0 z1 z2 z3 : Int} (h : Blk w g t #[.int .u64 x0, .int .u64 x1, .int .u64 x2, .int .u64 x3, .int .u64 y0, .int .u64 y1, .int .u64 y2, .int .u64 y3, .int .u64 z0, .int .u64 z1, .int .u64 z2, .int .u64 z3]) :
    (w.cell? ⟨g, 0, none⟩ = some (.int .u64 x0) ∧ w.cell? ⟨g, 1, none⟩ = some (.int .u64 x1) ∧ w.cell? ⟨g, 2, none⟩ = some (.int .u64 x2) ∧ w.cell? ⟨g, 3, none⟩ = some (.int .u64 x3)) ∧
    (w.cell? ⟨g, 4, none⟩ = some (.int .u64 y0) ∧ w.cell? ⟨g, 5, none⟩ = some (.int .u64 y1) ∧ w.cell? ⟨g, 6, none⟩ = some (.int .u64 y2) ∧ w.cell? ⟨g, 7, none⟩ = some (.int .u64 y3)) ∧
    (w.cell? ⟨g, 8, none⟩ = some (.int .u64 z0) ∧ w.cell? ⟨g, 9, none⟩ = some (.int .u64 z1) ∧ w.cell? ⟨g, 10, none⟩ = some (.int .u64 z2) ∧ w.cell? ⟨g, 11, none⟩ = some (.int .u64 z3)) :=
  ⟨⟨h.cell 0, h.cell 1, h.cell 2, h.cell 3⟩, ⟨h.cell 4, h.cell 5, h.cell 6, h.cell 7⟩, ⟨h.cell 8, h.cell 9, h.cell 10, h.cell 11⟩⟩
end Go.Proofs.YtfbgmlophkbejaaDoor

set_option linter.unusedVariables false
set_option linter.unusedSimpArgs false
namespace Go.Proofs.YtfbgmlophkbejaaDoor
open Go.RowKit Go.Proofs.YtfbgmlophkbejaaDoorW.PrintWords Go.Proofs.YtfbgmlophkbejaaDoorW.PrintLast
/-- is byte b in the set of four words? -/
def inSet (l : List Int) (b : Int) : Bool := bits BinOp.and IntKind.u64 (rd l (b / 64) / 2 ^ (b % 64).toNat) 1 == 1

set_option maxHeartbeats 400000 in
theorem has_any (x0 x1 x2 x3 b : Int) (w : World) (hb0 : 0 ≤ b) (hb1 : b ≤ 255) :
    Calls Tryd.prog 45 #[set4 x0 x1 x2 x3, .int .u8 b] w fun e w' => e = .returned (.bool (inSet [x0, x1, x2, x3] b)) ∧ Below w.heap.size w w' := by
  have hc := four_at x0 x1 x2 x3 (b / 64) (by omega) (by omega)
  go_enter Tryd.func45, Tryd.ntmps45
  go_wp2
  go_ret
  exact ⟨rfl, below_one _ _⟩

/-- r is the first place from 'from' on, below n, where p holds; -1: none -/
def FirstAt (p : Int → Bool) (from_ n r : Int) : Prop :=
  (r = -1 ∧ ∀ j, from_ ≤ j → 0 ≤ j → j < n → p j = false) ∨ (from_ ≤ r ∧ 0 ≤ r ∧ r < n ∧ p r = true ∧ ∀ j, from_ ≤ j → 0 ≤ j → j < r → p j = false)
theorem FirstAt.hit {p : Int → Bool} {fr n k : Int} (hkf : fr ≤ k) (hk0 : 0 ≤ k) (hlt : k < n) (hp : p k = true) (hall : ∀ j, fr ≤ j → 0 ≤ j → j < k → p j = false) : FirstAt p fr n k := .inr ⟨hkf, hk0, hlt, hp, hall⟩
theorem FirstAt.none {p : Int → Bool} {fr n k : Int} (hk : n ≤ k) (hall : ∀ j, fr ≤ j → 0 ≤ j → j < k → p j = false) : FirstAt p fr n (-1) := .inl ⟨rfl, fun j h1 h2 h3 => hall j h1 h2 (by omega)⟩
theorem FirstAt.more {p : Int → Bool} {fr k : Int} (hp : fr ≤ k → p k = false) (hall : ∀ j, fr ≤ j → 0 ≤ j → j < k → p j = false) : ∀ j, fr ≤ j → 0 ≤ j → j < k + 1 → p j = false := fun j h1 h2 h3 => by
  by_cases h : j = k
  · subst h; exact hp h1
  · exact hall j h1 h2 (by omega)
theorem FirstAt.unique {p q : Int → Bool} {fr n r r' : Int} (hpq : ∀ j, 0 ≤ j → j < n → p j = q j) (h : FirstAt p fr n r) (h' : FirstAt q fr n r') : r = r' := by
  rcases h with ⟨rfl, h⟩ | ⟨h1, h2, h3, h4, h5⟩ <;> rcases h' with ⟨rfl, h'⟩ | ⟨h1', h2', h3', h4', h5'⟩
  · rfl
  · have := h r' h1' h2' h3'; rw [hpq _ h2' h3', h4'] at this; cases this
  · have := h' r h1 h2 h3; rw [← hpq _ h2 h3, h4] at this; cases this
  · rcases Int.lt_trichotomy r r' with hh | hh | hh
    · have := h5' r h1 h2 hh; rw [← hpq _ h2 h3, h4] at this; cases this
    · exact hh
    · have := h5 r' h1' h2' hh; rw [hpq _ h2' h3', h4'] at this; cases this

def AllIn (p : Int → Bool) (n : Int) (r : Bool) : Prop := r = true ↔ ∀ j, 0 ≤ j → j < n → p j = true
theorem AllIn.no {p : Int → Bool} {n k : Int} (h0 : 0 ≤ k) (h1 : k < n) (hp : p k = false) : AllIn p n false := ⟨fun h => (Bool.false_ne_true h).elim, fun h => by rw [h k h0 h1] at hp; cases hp⟩
theorem AllIn.yes {p : Int → Bool} {n k : Int} (h1 : n ≤ k) (hall : ∀ j, 0 ≤ j → j < k → p j = true) : AllIn p n true := ⟨fun _ j h2 h3 => hall j h2 (by omega), fun _ => rfl⟩
theorem AllIn.unique {p q : Int → Bool} {n : Int} {r r' : Bool} (hpq : ∀ j, 0 ≤ j → j < n → p j = q j) (h : AllIn p n r) (h' : AllIn q n r') : r = r' := by
  have : r = true ↔ r' = true := h.trans (Iff.trans ⟨fun g j h1 h2 => (hpq j h1 h2).symm.trans (g j h1 h2), fun g j h1 h2 => (hpq j h1 h2).trans (g j h1 h2)⟩ h'.symm)
  cases r <;> cases r' <;> simp_all
end Go.Proofs.YtfbgmlophkbejaaDoor

set_option linter.unusedVariables false
set_option linter.unusedSimpArgs false
namespace Go.Proofs.YtfbgmlophkbejaaDoor
open Go.RowKit Go.Proofs.YtfbgmlophkbejaaDoorW.PrintWords Go.Proofs.YtfbgmlophkbejaaDoorW.PrintLast
/-- the empty set of 256 bytes -/
def no256 : List Int := List.replicate 256 0
theorem info_S : (Tryd.prog.info? 66).map (fun i => (i.zero, i.size)) = some (some (.agg (nums .u8 no256).toArray), 256) := by kernel_rfl
theorem size_S : (Tryd.prog.info? 66).map (·.size) = some 256 := (zero_of_info info_S).2
theorem zero_S (w : World) : (zeroValue 66).run Tryd.prog w = .ok (.agg (nums .u8 no256).toArray) w := (zero_of_info info_S).1 w
theorem built_S : Tryd.prog.built 66 [] = some (nums .u8 no256).toArray := by kernel_rfl
def bit4 (x0 x1 x2 x3 i : Int) : Int := bits BinOp.and IntKind.u64 (rd [x0, x1, x2, x3] (i / 64) / 2 ^ (i % 64).toNat) 1
theorem and1_01 (x : Int) : bits BinOp.and IntKind.u64 x 1 = 0 ∨ bits BinOp.and IntKind.u64 x 1 = 1 := by
  have h : (BitVec.ofInt 64 x &&& BitVec.ofInt 64 1).toNat = (BitVec.ofInt 64 x).toNat % 2 := by
    rw [BitVec.toNat_and, show (BitVec.ofInt 64 1).toNat = 1 from rfl, Nat.and_one_is_mod]
  have e : bits BinOp.and IntKind.u64 x 1 = IntKind.u64.wrap (((BitVec.ofInt 64 x).toNat % 2 : Nat) : Int) := by
    rw [← h]; rfl
  rw [e, IntKind.wrap_u64]
  omega
def IsUnw (x0 x1 x2 x3 : Int) (l : List Int) : Prop := l.length = 256 ∧ ∀ i, 0 ≤ i → i < 256 → rd l i = bit4 x0 x1 x2 x3 i
end Go.Proofs.YtfbgmlophkbejaaDoor

set_option linter.unusedVariables false
set_option linter.unusedSimpArgs false
namespace Go.Proofs.YtfbgmlophkbejaaDoor
open Go.RowKit Go.Proofs.YtfbgmlophkbejaaDoorW.PrintWords Go.Proofs.YtfbgmlophkbejaaDoorW.PrintLast
def U64 (x : Int) : Prop := 0 ≤ x ∧ x < 18446744073709551616
def Wf4 (x0 x1 x2 x3 : Int) : Prop := U64 x0 ∧ U64 x1 ∧ U64 x2 ∧ U64 x3
def inW (x : Int) (j : Nat) : Bool := x.toNat.testBit j
theorem and1_bit (x : Int) (j : Nat) (h : U64 x) : (bits BinOp.and IntKind.u64 (x / 2 ^ j) 1 == 1) = inW x j := by
  obtain ⟨n, rfl⟩ := Int.eq_ofNat_of_zero_le h.1
  have hn : n < 18446744073709551616 := by have := h.2; omega
  have hd : n / 2 ^ j ≤ n := Nat.div_le_self _ _
  have e : ((n : Int) / 2 ^ j) = ((n / 2 ^ j : Nat) : Int) := by
    rw [Int.natCast_ediv, Int.natCast_pow]; rfl
  rw [e, show (1 : Int) = ((1 : Nat) : Int) from rfl, bits_and_u64_nat _ _ (by omega) (by omega), Nat.and_one_is_mod]
  unfold inW
  rw [Int.toNat_natCast, Nat.testBit_eq_decide_div_mod_eq]
  rcases Nat.mod_two_eq_zero_or_one (n / 2 ^ j) with g | g <;> rw [g] <;> rfl
theorem inSet_word {x0 x1 x2 x3 : Int} (h : Wf4 x0 x1 x2 x3) (b : Int) (h0 : 0 ≤ b) (h1 : b < 256) : inSet [x0, x1, x2, x3] b = inW (rd [x0, x1, x2, x3] (b / 64)) (b % 64).toNat := by
  unfold inSet
  refine and1_bit _ _ ?_
  have : b / 64 = 0 ∨ b / 64 = 1 ∨ b / 64 = 2 ∨ b / 64 = 3 := by omega
  rcases this with e | e | e | e <;> rw [e]
  · exact h.1
  · exact h.2.1
  · exact h.2.2.1
  · exact h.2.2.2
theorem inW_ext {x y : Int} (hx : U64 x) (hy : U64 y) (h : ∀ j, j < 64 → inW x j = inW y j) : x = y := by
  have : x.toNat = y.toNat := by
    refine Nat.eq_of_testBit_eq fun j => ?_
    rcases Nat.lt_or_ge j 64 with hj | hj
    · exact h j hj
    · have p : (18446744073709551616 : Nat) ≤ 2 ^ j := by
        have : (2 : Nat) ^ 64 ≤ 2 ^ j := Nat.pow_le_pow_right (by omega) hj
        exact this
      rw [Nat.testBit_lt_two_pow (by have := hx.2; omega), Nat.testBit_lt_two_pow (by have := hy.2; omega)]
  have h1 := hx.1
  have h2 := hy.1
  omega
theorem rd4 (x0 x1 x2 x3 : Int) : rd [x0, x1, x2, x3] 0 = x0 ∧ rd [x0, x1, x2, x3] 1 = x1 ∧ rd [x0, x1, x2, x3] 2 = x2 ∧ rd [x0, x1, x2, x3] 3 = x3 := ⟨rfl, rfl, rfl, rfl⟩
theorem inSet_ext {x0 x1 x2 x3 y0 y1 y2 y3 : Int} (hx : Wf4 x0 x1 x2 x3) (hy : Wf4 y0 y1 y2 y3) (h : ∀ b, 0 ≤ b → b < 256 → inSet [x0, x1, x2, x3] b = inSet [y0, y1, y2, y3] b) : x0 = y0 ∧ x1 = y1 ∧ x2 = y2 ∧ x3 = y3 := by
  have key : ∀ (i : Int) (j : Nat), 0 ≤ i → i < 4 → j < 64 → inW (rd [x0, x1, x2, x3] i) j = inW (rd [y0, y1, y2, y3] i) j := fun i j h0 h1 hj => by
    have := h (64 * i + j) (by omega) (by omega)
    rw [inSet_word hx _ (by omega) (by omega), inSet_word hy _ (by omega) (by omega)] at this
    rw [show (64 * i + (j : Int)) / 64 = i by omega, show ((64 * i + (j : Int)) % 64).toNat = j by omega] at this
    exact this
  exact ⟨inW_ext hx.1 hy.1 fun j hj => key 0 j (by omega) (by omega) hj, inW_ext hx.2.1 hy.2.1 fun j hj => key 1 j (by omega) (by omega) hj,
    inW_ext hx.2.2.1 hy.2.2.1 fun j hj => key 2 j (by omega) (by omega) hj, inW_ext hx.2.2.2 hy.2.2.2 fun j hj => key 3 j (by omega) (by omega) hj⟩
/-! and, or, and-not of words -/
theorem nat_lt {x : Int} (h : U64 x) : x.toNat < 18446744073709551616 := by have := h.2; have := h.1; omega
theorem and_u64 {x y : Int} (hx : U64 x) (hy : U64 y) : bits .and .u64 x y = ((x.toNat &&& y.toNat : Nat) : Int) := u64_and x y hx.1 hx.2 hy.1 hy.2
theorem or_u64 {x y : Int} (hx : U64 x) (hy : U64 y) : bits .or .u64 x y = ((x.toNat ||| y.toNat : Nat) : Int) := u64_or x y hx.1 hx.2 hy.1 hy.2
theorem andNot_u64 {x y : Int} (hx : U64 x) (hy : U64 y) : bits .andNot .u64 x y = ((x.toNat &&& (18446744073709551615 - y.toNat) : Nat) : Int) := u64_andNot x y hx.1 hx.2 hy.1 hy.2
theorem U64.and {x y : Int} (hx : U64 x) (hy : U64 y) : U64 (bits .and .u64 x y) := by
  rw [and_u64 hx hy]
  have := Nat.and_le_left (n := x.toNat) (m := y.toNat)
  exact ⟨by omega, by have := nat_lt hx; omega⟩
theorem U64.or {x y : Int} (hx : U64 x) (hy : U64 y) : U64 (bits .or .u64 x y) := by
  rw [or_u64 hx hy]
  have : x.toNat ||| y.toNat < 2 ^ 64 := Nat.or_lt_two_pow (nat_lt hx) (nat_lt hy)
  exact ⟨by omega, by omega⟩
theorem U64.andNot {x y : Int} (hx : U64 x) (hy : U64 y) : U64 (bits .andNot .u64 x y) := by
  rw [andNot_u64 hx hy]
  have := Nat.and_le_left (n := x.toNat) (m := 18446744073709551615 - y.toNat)
  exact ⟨by omega, by have := nat_lt hx; omega⟩
theorem inW_and {x y : Int} (hx : U64 x) (hy : U64 y) (j : Nat) : inW (bits .and .u64 x y) j = (inW x j && inW y j) := by
  unfold inW; rw [and_u64 hx hy, Int.toNat_natCast, Nat.testBit_and]
theorem inW_or {x y : Int} (hx : U64 x) (hy : U64 y) (j : Nat) : inW (bits .or .u64 x y) j = (inW x j || inW y j) := by
  unfold inW; rw [or_u64 hx hy, Int.toNat_natCast, Nat.testBit_or]
theorem inW_andNot {x y : Int} (hx : U64 x) (hy : U64 y) (j : Nat) (hj : j < 64) : inW (bits .andNot .u64 x y) j = (inW x j && !inW y j) := by
  unfold inW; rw [andNot_u64 hx hy, Int.toNat_natCast, Nat.testBit_and]
  have := Nat.testBit_two_pow_sub_succ (n := 64) (x := y.toNat) (nat_lt hy) j
  rw [show (2 : Nat) ^ 64 - (y.toNat + 1) = 18446744073709551615 - y.toNat by have := nat_lt hy; omega] at this
  rw [this, decide_eq_true hj, Bool.true_and]
theorem inSet_op {x0 x1 x2 x3 y0 y1 y2 y3 : Int} {f : Int → Int → Int} {g : Bool → Bool → Bool} (hu : ∀ {x y}, U64 x → U64 y → U64 (f x y)) (hf : ∀ {x y}, U64 x → U64 y → ∀ j, j < 64 → inW (f x y) j = g (inW x j) (inW y j))
    (hx : Wf4 x0 x1 x2 x3) (hy : Wf4 y0 y1 y2 y3) (b : Int) (h0 : 0 ≤ b) (h1 : b < 256) :
    inSet [f x0 y0, f x1 y1, f x2 y2, f x3 y3] b = g (inSet [x0, x1, x2, x3] b) (inSet [y0, y1, y2, y3] b) := by
  have hz : Wf4 (f x0 y0) (f x1 y1) (f x2 y2) (f x3 y3) := ⟨hu hx.1 hy.1, hu hx.2.1 hy.2.1, hu hx.2.2.1 hy.2.2.1, hu hx.2.2.2 hy.2.2.2⟩
  rw [inSet_word hz b h0 h1, inSet_word hx b h0 h1, inSet_word hy b h0 h1]
  have : b / 64 = 0 ∨ b / 64 = 1 ∨ b / 64 = 2 ∨ b / 64 = 3 := by omega
  rcases this with e | e | e | e <;> rw [e]
  · exact hf hx.1 hy.1 _ (by omega)
  · exact hf hx.2.1 hy.2.1 _ (by omega)
  · exact hf hx.2.2.1 hy.2.2.1 _ (by omega)
  · exact hf hx.2.2.2 hy.2.2.2 _ (by omega)
theorem inSet_zero (b : Int) (h0 : 0 ≤ b) (h1 : b < 256) : inSet [0, 0, 0, 0] b = false := by
  have z : U64 0 := ⟨by omega, by omega⟩
  rw [inSet_word ⟨z, z, z, z⟩ b h0 h1]
  have : b / 64 = 0 ∨ b / 64 = 1 ∨ b / 64 = 2 ∨ b / 64 = 3 := by omega
  rcases this with e | e | e | e <;> rw [e] <;> exact Nat.zero_testBit _
/-! a bit more -/
theorem pow_U64 (j : Nat) (hj : j < 64) : U64 (2 ^ j) := by
  have h : (2 : Int) ^ j = ((2 ^ j : Nat) : Int) := by rw [Int.natCast_pow]; rfl
  have h2 : (2 : Nat) ^ j < 2 ^ 64 := Nat.pow_lt_pow_right (by omega) hj
  rw [h]
  generalize (2 : Nat) ^ j = m at h2
  exact ⟨by omega, by omega⟩
theorem inW_pow (j i : Nat) : inW (2 ^ j) i = decide (j = i) := by
  have h : (2 : Int) ^ j = ((2 ^ j : Nat) : Int) := by rw [Int.natCast_pow]; rfl
  unfold inW
  rw [h, Int.toNat_natCast, Nat.testBit_two_pow]
/-- the set with byte c more -/
def put4 (l : List Int) (c : Int) : List Int := l.set (c / 64).toNat (bits .or .u64 (rd l (c / 64)) (2 ^ (c % 64).toNat))
theorem put4_eq (x0 x1 x2 x3 c : Int) (h0 : 0 ≤ c) (h1 : c < 256) : ∃ y0 y1 y2 y3, put4 [x0, x1, x2, x3] c = [y0, y1, y2, y3] := by
  unfold put4
  have : c / 64 = 0 ∨ c / 64 = 1 ∨ c / 64 = 2 ∨ c / 64 = 3 := by omega
  rcases this with e | e | e | e <;> rw [e] <;> exact ⟨_, _, _, _, rfl⟩
theorem put4_spec {x0 x1 x2 x3 y0 y1 y2 y3 c : Int} (hx : Wf4 x0 x1 x2 x3) (h0 : 0 ≤ c) (h1 : c < 256) (hy : put4 [x0, x1, x2, x3] c = [y0, y1, y2, y3]) :
    Wf4 y0 y1 y2 y3 ∧ ∀ b, 0 ≤ b → b < 256 → inSet [y0, y1, y2, y3] b = (inSet [x0, x1, x2, x3] b || decide (b = c)) := by
  have hp : U64 (2 ^ (c % 64).toNat) := pow_U64 _ (by omega)
  have hc : c / 64 = 0 ∨ c / 64 = 1 ∨ c / 64 = 2 ∨ c / 64 = 3 := by omega
  have hw : Wf4 y0 y1 y2 y3 := by
    unfold put4 at hy
    rcases hc with e | e | e | e <;> rw [e] at hy <;> simp [rd] at hy <;> obtain ⟨rfl, rfl, rfl, rfl⟩ := hy
    · exact ⟨hx.1.or hp, hx.2.1, hx.2.2.1, hx.2.2.2⟩
    · exact ⟨hx.1, hx.2.1.or hp, hx.2.2.1, hx.2.2.2⟩
    · exact ⟨hx.1, hx.2.1, hx.2.2.1.or hp, hx.2.2.2⟩
    · exact ⟨hx.1, hx.2.1, hx.2.2.1, hx.2.2.2.or hp⟩
  refine ⟨hw, fun b hb0 hb1 => ?_⟩
  rw [inSet_word hw b hb0 hb1, inSet_word hx b hb0 hb1, ← hy]
  unfold put4
  rw [rd_set _ (c / 64) (b / 64) _ (by omega) (by simp; omega) (by omega)]
  by_cases e : b / 64 = c / 64
  · rw [if_pos e]
    have hu : U64 (rd [x0, x1, x2, x3] (c / 64)) := by
      rcases hc with e | e | e | e <;> rw [e]
      · exact hx.1
      · exact hx.2.1
      · exact hx.2.2.1
      · exact hx.2.2.2
    rw [inW_or hu hp, inW_pow, e]
    congr 1
    exact decide_eq_decide.2 ⟨fun h => by omega, fun h => by rw [h]⟩
  · rw [if_neg e, decide_eq_false (fun h => e (by rw [h])), Bool.or_false]
end Go.Proofs.YtfbgmlophkbejaaDoor

set_option linter.unusedVariables false
set_option linter.unusedSimpArgs false
namespace Go.Proofs.YtfbgmlophkbejaaDoor
open Go.RowKit Go.Proofs.YtfbgmlophkbejaaDoorW.PrintWords Go.Proofs.YtfbgmlophkbejaaDoorW.PrintLast
theorem index4 (x0 x1 x2 x3 : Int) : (∀ w : World, (Instr.index 27 (set4 x0 x1 x2 x3) (.int .i64 0)).run Tryd.prog w = .ok (.int .u64 x0) w) ∧ (∀ w : World, (Instr.index 27 (set4 x0 x1 x2 x3) (.int .i64 1)).run Tryd.prog w = .ok (.int .u64 x1) w) ∧
    (∀ w : World, (Instr.index 27 (set4 x0 x1 x2 x3) (.int .i64 2)).run Tryd.prog w = .ok (.int .u64 x2) w) ∧ (∀ w : World, (Instr.index 27 (set4 x0 x1 x2 x3) (.int .i64 3)).run Tryd.prog w = .ok (.int .u64 x3) w) :=
  ⟨fun _ => by kernel_rfl, fun _ => by kernel_rfl, fun _ => by kernel_rfl, fun _ => by kernel_rfl⟩
set_option maxRecDepth 100000 in
set_option maxHeartbeats 2000000 in
theorem Minus_any (x0 x1 x2 x3 y0 y1 y2 y3 : Int) (w : World) : Calls Tryd.prog 36 #[set4 x0 x1 x2 x3, set4 y0 y1 y2 y3] w fun e w' => e = .returned (set4 (bits .andNot .u64 x0 y0) (bits .andNot .u64 x1 y1) (bits .andNot .u64 x2 y2) (bits .andNot .u64 x3 y3)) ∧ Below w.heap.size w w' := by
  obtain ⟨i0, i1, i2, i3⟩ := index4 y0 y1 y2 y3
  go_enter Tryd.func36, Tryd.ntmps36
  go_wp2
  refine wp_loop_rounds 5 ?_
  iterate 5
    rw [rounds_succ]
    go_wp2
  exact bodyPost_ret (v := set4 _ _ _ _) (by simp [results, Tryd.results36, go_sem]) rfl ⟨rfl, below_alloc (below_alloc (below_one _ _) _) _⟩
set_option maxRecDepth 100000 in
set_option maxHeartbeats 2000000 in
theorem put_any (x0 x1 x2 x3 c : Int) (w : World) (hx : Wf4 x0 x1 x2 x3) (h0 : 0 ≤ c) (h1 : c < 256) :
    Calls Tryd.prog 68 #[set4 x0 x1 x2 x3, .int .u8 c] w (Set4Such (fun y0 y1 y2 y3 => Wf4 y0 y1 y2 y3 ∧ ∀ b, 0 ≤ b → b < 256 → inSet [y0, y1, y2, y3] b = (inSet [x0, x1, x2, x3] b || decide (b = c))) w) := by
  obtain ⟨y0, y1, y2, y3, hy⟩ := put4_eq x0 x1 x2 x3 c h0 h1
  have hp := put4_spec hx h0 h1 hy
  have hc : c / 64 = 0 ∨ c / 64 = 1 ∨ c / 64 = 2 ∨ c / 64 = 3 := by omega
  have hwr : IntKind.u64.wrap (2 ^ (c % 64).toNat) = 2 ^ (c % 64).toNat := by
    have hu := pow_U64 (c % 64).toNat (by omega)
    rw [IntKind.wrap_u64]
    exact Int.emod_eq_of_lt hu.1 hu.2
  rcases hc with e | e | e | e
  all_goals
    unfold put4 at hy
    rw [e] at hy
    simp [rd] at hy
    obtain ⟨rfl, rfl, rfl, rfl⟩ := hy
    have Hp := Lib.hid hp
    clear hp
    go_enter Tryd.func68, Tryd.ntmps68
    go_wp2
    exact bodyPost_ret (v := set4 _ _ _ _) (by simp [results, Tryd.results68, go_sem]) rfl ⟨_, _, _, _, Hp.out, rfl, below_alloc (below_one _ _) _⟩
def allB : List Int := (List.range 256).map fun (i : Nat) => (i : Int)
/-- the members below k, rising -/
def memK (p : Int → Bool) : Nat → List Int
  | 0 => []
  | k + 1 => if p k then memK p k ++ [(k : Int)] else memK p k
theorem memK_zero (p : Int → Bool) : memK p 0 = [] := by simp only [memK]
theorem memK_len (p : Int → Bool) : ∀ k, (memK p k).length ≤ k
  | 0 => by simp [memK]
  | k + 1 => by
    have := memK_len p k
    rw [memK]
    split <;> simp <;> omega
theorem memK_mem (p : Int → Bool) : ∀ k x, x ∈ memK p k → 0 ≤ x ∧ x < k ∧ p x = true
  | 0, x, h => by simp [memK] at h
  | k + 1, x, h => by
    rw [memK] at h
    split at h
    · rcases List.mem_append.1 h with h | h
      · have := memK_mem p k x h; exact ⟨this.1, by omega, this.2.2⟩
      · simp at h; subst h; exact ⟨by omega, by omega, by assumption⟩
    · have := memK_mem p k x h; exact ⟨this.1, by omega, this.2.2⟩
theorem memK_hit (p : Int → Bool) (k : Int) (h : 0 ≤ k) (hp : p k = true) : memK p (k + 1).toNat = memK p k.toNat ++ [k] := by
  obtain ⟨n, rfl⟩ := Int.eq_ofNat_of_zero_le h
  show memK p (n + 1) = _
  rw [memK, if_pos hp]; rfl
theorem memK_miss (p : Int → Bool) (k : Int) (h : 0 ≤ k) (hp : p k = false) : memK p (k + 1).toNat = memK p k.toNat := by
  obtain ⟨n, rfl⟩ := Int.eq_ofNat_of_zero_le h
  show memK p (n + 1) = _
  rw [memK, if_neg (by rw [hp]; simp)]; rfl
/-- the i-th set of a flat list of words -/
def quadIn (xs : List Int) (i : Nat) (b : Int) : Bool := inSet [xs.getD (4 * i) 0, xs.getD (4 * i + 1) 0, xs.getD (4 * i + 2) 0, xs.getD (4 * i + 3) 0] b
/-- is byte b in one of the first n sets -/
def anyK (xs : List Int) (b : Int) : Nat → Bool
  | 0 => false
  | n + 1 => anyK xs b n || quadIn xs n b
theorem anyK_zero (xs : List Int) (b : Int) : anyK xs b 0 = false := by simp only [anyK]
theorem anyK_succ (xs : List Int) (b : Int) (k : Int) (h : 0 ≤ k) : anyK xs b (k + 1).toNat = (anyK xs b k.toNat || quadIn xs k.toNat b) := by
  obtain ⟨n, rfl⟩ := Int.eq_ofNat_of_zero_le h
  show anyK xs b (n + 1) = _
  rw [anyK]; rfl
theorem quad_at (xs : List Int) (k : Nat) (hx : ∀ x ∈ xs, U64 x) : Wf4 (xs.getD (4 * k) 0) (xs.getD (4 * k + 1) 0) (xs.getD (4 * k + 2) 0) (xs.getD (4 * k + 3) 0) ∧
    ∀ b, quadIn xs k b = inSet [xs.getD (4 * k) 0, xs.getD (4 * k + 1) 0, xs.getD (4 * k + 2) 0, xs.getD (4 * k + 3) 0] b := by
  have h : ∀ j, U64 (xs.getD j 0) := fun j => by
    rw [List.getD_eq_getElem?_getD]
    rcases Nat.lt_or_ge j xs.length with g | g
    · rw [List.getElem?_eq_getElem g]; exact hx _ (List.getElem_mem g)
    · rw [List.getElem?_eq_none g]; exact ⟨by simp, by simp⟩
  exact ⟨⟨h _, h _, h _, h _⟩, fun b => rfl⟩
theorem size_B : (Tryd.prog.info? 27).map (·.size) = some 4 := by kernel_rfl
theorem Blk.four {w : World} {g : Nat} {t : TypeId} {y0 y1 y2 y3 : Int} (h : Blk w g t (arr4 y0 y1 y2 y3)) (v0 v1 v2 v3 : Int) :
    Blk ((((w.setCell ⟨g, 0, none⟩ (.int .u64 v0)).setCell ⟨g, 1, none⟩ (.int .u64 v1)).setCell ⟨g, 2, none⟩ (.int .u64 v2)).setCell ⟨g, 3, none⟩ (.int .u64 v3)) g t (arr4 v0 v1 v2 v3) :=
  (((h.set_ 0 (.int .u64 v0)).set_ 1 (.int .u64 v1)).set_ 2 (.int .u64 v2)).set_ 3 (.int .u64 v3)
theorem union_step {xs : List Int} {k : Int} {y0 y1 y2 y3 z0 z1 z2 z3 : Int} (hk : 0 ≤ k) (hy : Wf4 y0 y1 y2 y3) (hs : ∀ b, 0 ≤ b → b < 256 → inSet [y0, y1, y2, y3] b = anyK xs b k.toNat) (hz : Wf4 z0 z1 z2 z3) (hq : ∀ b, quadIn xs k.toNat b = inSet [z0, z1, z2, z3] b) :
    Wf4 (bits .or .u64 y0 z0) (bits .or .u64 y1 z1) (bits .or .u64 y2 z2) (bits .or .u64 y3 z3) ∧ ∀ b, 0 ≤ b → b < 256 → inSet [bits .or .u64 y0 z0, bits .or .u64 y1 z1, bits .or .u64 y2 z2, bits .or .u64 y3 z3] b = anyK xs b (k + 1).toNat :=
  ⟨⟨hy.1.or hz.1, hy.2.1.or hz.2.1, hy.2.2.1.or hz.2.2.1, hy.2.2.2.or hz.2.2.2⟩, fun b h0 h1 => by
    rw [inSet_op (f := fun x y => bits .or .u64 x y) (g := fun a b => a || b) (fun hx hy => hx.or hy) (fun hx hy j _ => inW_or hx hy j) hy hz b h0 h1, hs b h0 h1, anyK_succ _ _ _ hk, hq b]⟩
set_option maxRecDepth 100000 in
set_option maxHeartbeats 4000000 in
theorem union_any (g n c : Nat) (xs : List Int) (w : World) (hn : xs.length = 4 * n) (hc : ∀ j, j < xs.length → w.cell? ⟨g, j, none⟩ = some (.int .u64 (xs.getD j 0))) (hx : ∀ x ∈ xs, U64 x) (hmax : n ≤ 1000000) :
    Calls Tryd.prog 37 #[.slice (some ⟨g, 0, none⟩) n c] w (Set4Such (fun y0 y1 y2 y3 => Wf4 y0 y1 y2 y3 ∧ ∀ b, 0 ≤ b → b < 256 → inSet [y0, y1, y2, y3] b = anyK xs b n) w) := by
  go_enter Tryd.func37, Tryd.ntmps37
  go_wp2
  go_loopw [10] (fun v wr => ∃ (k : Int) (y0 y1 y2 y3 : Int), 0 ≤ k ∧ k ≤ n ∧ v = .int .i64 k ∧ Hid (Wf4 y0 y1 y2 y3 ∧ ∀ b, 0 ≤ b → b < 256 → inSet [y0, y1, y2, y3] b = anyK xs b k.toNat) ∧ Below w.heap.size w wr ∧ Blk wr w.heap.size 27 (arr4 0 0 0 0) ∧ Blk wr (w.heap.size + 1) 27 (arr4 y0 y1 y2 y3)) (fun v _ => n - (intOf v).toNat)
  case atStart =>
    have z : U64 0 := ⟨by omega, by omega⟩
    exact ⟨0, 0, 0, 0, 0, by omega, by omega, rfl, ⟨⟨z, z, z, z⟩, fun b h0 h1 => by rw [inSet_zero b h0 h1]; exact (anyK_zero xs b).symm⟩, below_alloc (below_one _ _) _, (Blk.new _ _ _).alloc _, Blk.at_new (by simp)⟩
  case round =>
    obtain ⟨k, y0, y1, y2, y3, hk0, hk1, rfl, hy, hbel, hb0, hb1⟩ := hrel
    by_cases hlt : k < n
    · have e0 := pw_cell_below hbel (hc (k.toNat * 4) (by omega))
      have e1 := pw_cell_below hbel (hc (k.toNat * 4 + 1) (by omega))
      have e2 := pw_cell_below hbel (hc (k.toNat * 4 + 2) (by omega))
      have e3 := pw_cell_below hbel (hc (k.toNat * 4 + 3) (by omega))
      have hz := quad_at xs k.toNat hx
      rw [Nat.mul_comm 4 k.toNat] at hz
      generalize xs.getD (k.toNat * 4) 0 = z0 at *
      generalize xs.getD (k.toNat * 4 + 1) 0 = z1 at *
      generalize xs.getD (k.toNat * 4 + 2) 0 = z2 at *
      generalize xs.getD (k.toNat * 4 + 3) 0 = z3 at *
      have Hz := Lib.hid hz
      have Hc := Lib.hid hc
      have Hx := Lib.hid hx
      clear hz hc hx
      obtain ⟨i0, i1, i2, i3⟩ := index4 z0 z1 z2 z3
      go_wp2
      have hb0' : Blk (wr.alloc (.cells (arr4 z0 z1 z2 z3) 27)) w.heap.size 27 (arr4 0 0 0 0) := hb0.alloc _
      have hb1' : Blk (wr.alloc (.cells (arr4 z0 z1 z2 z3) 27)) (w.heap.size + 1) 27 (arr4 y0 y1 y2 y3) := hb1.alloc _
      have hbel' : Below w.heap.size w (wr.alloc (.cells (arr4 z0 z1 z2 z3) 27)) := below_alloc hbel _
      clear e0 e1 e2 e3 hbel hb0 hb1
      generalize wr.alloc (.cells (arr4 z0 z1 z2 z3) 27) = w2 at *
      obtain ⟨d0, d1, d2, d3⟩ := hb1'.cells4
      have f0 := hb1'.frozen 0
      have f1 := hb1'.frozen 1
      have f2 := hb1'.frozen 2
      have f3 := hb1'.frozen 3
      refine wp_loop_rounds 5 ?_
      iterate 5
        rw [rounds_succ]
        go_wp2
      have hs := hy.out
      refine ⟨⟨k + 1, _, _, _, _, by omega, by omega, rfl, union_step hk0 hs.1 hs.2 Hz.out.1 Hz.out.2, ?_, ?_, hb1'.four _ _ _ _⟩, by simp [intOf]; omega⟩
      · exact below_set (below_set (below_set (below_set hbel' (by simp) _) (by simp) _) (by simp) _) (by simp) _
      · exact (((hb0'.far (by simp) _).far (by simp) _).far (by simp) _).far (by simp) _
    · obtain rfl : k = n := by omega
      go_wp2_with (first | (refine wp_load_blk rfl 27 _ rfl (w.heap.size + 1) rfl 27 _ hb1 _ Tryd.underlying27 rfl 4 size_B rfl ?_) | (refine wp_store_blk rfl 27 _ _ rfl rfl w.heap.size _ rfl rfl 27 _ hb0 4 size_B rfl rfl (nums_one .u64 [y0, y1, y2, y3]) ?_; intro w3 hb3 hg3))
      refine bodyPost_ret (ret_blk (ty := 27) rfl _ _ _ _ _ _ rfl hb3 Tryd.underlying27 rfl 4 size_B rfl) rfl ?_
      exact ⟨y0, y1, y2, y3, hy.out, rfl, below_grown hbel hg3 (Nat.le_refl _)⟩
set_option maxHeartbeats 1000000 in
theorem union_nil (w : World) : Calls Tryd.prog 37 #[.slice none 0 0] w fun e w' => e = .returned (set4 0 0 0 0) ∧ Below w.heap.size w w' := by
  go_enter Tryd.func37, Tryd.ntmps37
  go_wp2
  refine wp_loop_rounds 1 ?_
  rw [rounds_succ]
  go_wp2
  exact bodyPost_ret (v := set4 _ _ _ _) (by simp [results, Tryd.results37, go_sem]) rfl ⟨rfl, below_alloc (below_one _ _) _⟩
end Go.Proofs.YtfbgmlophkbejaaDoor

set_option linter.unusedVariables false
set_option linter.unusedSimpArgs false
namespace Go.Proofs.YtfbgmlophkbejaaDoor
open Go.RowKit Go.Proofs.YtfbgmlophkbejaaDoorW.PrintWords Go.Proofs.YtfbgmlophkbejaaDoorW.PrintLast
theorem union_two {g : Nat} {w : World} {x0 x1 x2 x3 y0 y1 y2 y3 : Int} (hx : Wf4 x0 x1 x2 x3) (hy : Wf4 y0 y1 y2 y3) (hb : Blk w g 27 (nums .u64 [x0, x1, x2, x3, y0, y1, y2, y3]).toArray) :
    Calls Tryd.prog 37 #[.slice (some ⟨g, 0, none⟩) 2 2] w (Set4Such (fun r0 r1 r2 r3 => Wf4 r0 r1 r2 r3 ∧ ∀ b, 0 ≤ b → b < 256 → inSet [r0, r1, r2, r3] b = (inSet [x0, x1, x2, x3] b || inSet [y0, y1, y2, y3] b)) w) := by
  refine (union_any g 2 2 [x0, x1, x2, x3, y0, y1, y2, y3] w rfl (fun j hj => ?_) (fun x h => ?_) (by omega)).mono ?_
  · have := blk_num_at hb (j : Int) (by omega) (by omega)
    simpa [rd, List.getD_eq_getElem?_getD] using this
  · simp only [List.mem_cons, List.not_mem_nil, or_false] at h
    rcases h with rfl | rfl | rfl | rfl | rfl | rfl | rfl | rfl
    · exact hx.1
    · exact hx.2.1
    · exact hx.2.2.1
    · exact hx.2.2.2
    · exact hy.1
    · exact hy.2.1
    · exact hy.2.2.1
    · exact hy.2.2.2
  · rintro e w' ⟨r0, r1, r2, r3, ⟨h1, h2⟩, he, hl⟩
    refine ⟨r0, r1, r2, r3, ⟨h1, fun b h0 hb => ?_⟩, he, hl⟩
    rw [h2 b h0 hb]
    simp only [anyK, quadIn, Bool.false_or]
    rfl
theorem union_three {g : Nat} {w : World} {x0 x1 x2 x3 y0 y1 y2 y3 z0 z1 z2 z3 : Int} (hx : Wf4 x0 x1 x2 x3) (hy : Wf4 y0 y1 y2 y3) (hz : Wf4 z0 z1 z2 z3) (hb : Blk w g 27 (nums .u64 [x0, x1, x2, x3, y0, y1, y2, y3, z0, z1, z2, z3]).toArray) :
    Calls Tryd.prog 37 #[.slice (some ⟨g, 0, none⟩) 3 3] w (Set4Such (fun r0 r1 r2 r3 => Wf4 r0 r1 r2 r3 ∧ ∀ b, 0 ≤ b → b < 256 → inSet [r0, r1, r2, r3] b = (inSet [x0, x1, x2, x3] b || inSet [y0, y1, y2, y3] b || inSet [z0, z1, z2, z3] b)) w) := by
  refine (union_any g 3 3 [x0, x1, x2, x3, y0, y1, y2, y3, z0, z1, z2, z3] w rfl (fun j hj => ?_) (fun x h => ?_) (by omega)).mono ?_
  · have := blk_num_at hb (j : Int) (by omega) (by omega)
    simpa [rd, List.getD_eq_getElem?_getD] using this
  · simp only [List.mem_cons, List.not_mem_nil, or_false] at h
    rcases h with rfl | rfl | rfl | rfl | rfl | rfl | rfl | rfl | rfl | rfl | rfl | rfl
    · exact hx.1
    · exact hx.2.1
    · exact hx.2.2.1
    · exact hx.2.2.2
    · exact hy.1
    · exact hy.2.1
    · exact hy.2.2.1
    · exact hy.2.2.2
    · exact hz.1
    · exact hz.2.1
    · exact hz.2.2.1
    · exact hz.2.2.2
  · rintro e w' ⟨r0, r1, r2, r3, ⟨h1, h2⟩, he, hl⟩
    refine ⟨r0, r1, r2, r3, ⟨h1, fun b h0 hb => ?_⟩, he, hl⟩
    rw [h2 b h0 hb]
    simp only [anyK, quadIn, Bool.false_or]
    rfl
theorem minus_such {x0 x1 x2 x3 y0 y1 y2 y3 : Int} (w : World) (hx : Wf4 x0 x1 x2 x3) (hy : Wf4 y0 y1 y2 y3) : Calls Tryd.prog 36 #[set4 x0 x1 x2 x3, set4 y0 y1 y2 y3] w
    (Set4Such (fun r0 r1 r2 r3 => Wf4 r0 r1 r2 r3 ∧ ∀ b, 0 ≤ b → b < 256 → inSet [r0, r1, r2, r3] b = (inSet [x0, x1, x2, x3] b && !inSet [y0, y1, y2, y3] b)) w) := by
  refine (Minus_any x0 x1 x2 x3 y0 y1 y2 y3 w).mono ?_
  rintro e w' ⟨rfl, hb⟩
  exact ⟨_, _, _, _, ⟨⟨hx.1.andNot hy.1, hx.2.1.andNot hy.2.1, hx.2.2.1.andNot hy.2.2.1, hx.2.2.2.andNot hy.2.2.2⟩, fun b h0 h1 => inSet_op (f := fun x y => bits .andNot .u64 x y) (g := fun a b => a && !b) (fun hx hy => hx.andNot hy) (fun hx hy j hj => inW_andNot hx hy j hj) hx hy b h0 h1⟩, rfl, hb⟩
/-- a set's post whose members are known: the set itself -/
theorem such_is {x0 x1 x2 x3 : Int} {p : Int → Bool} {w : World} {e : Ending} {w' : World} (hx : Wf4 x0 x1 x2 x3) (hp : ∀ b, 0 ≤ b → b < 256 → p b = inSet [x0, x1, x2, x3] b)
    (h : Set4Such (fun r0 r1 r2 r3 => Wf4 r0 r1 r2 r3 ∧ ∀ b, 0 ≤ b → b < 256 → inSet [r0, r1, r2, r3] b = p b) w e w') : e = .returned (set4 x0 x1 x2 x3) ∧ Below w.heap.size w w' := by
  obtain ⟨r0, r1, r2, r3, ⟨h1, h2⟩, he, hl⟩ := h
  obtain ⟨rfl, rfl, rfl, rfl⟩ := inSet_ext h1 hx (fun b h0 hb => (h2 b h0 hb).trans (hp b h0 hb))
  exact ⟨he, hl⟩
theorem info_u64 : (Tryd.prog.info? 25).map (fun i => i.size) = some 1 := by kernel_rfl
theorem cells_u64 : Tryd.prog.cellsOf 25 = 1 := by kernel_rfl
theorem eq_u64 (d : Nat) (w : World) (a b : Int) : (Op.equalIn (d + 1) 25 (.int .u64 a) (.int .u64 b)).run Tryd.prog w = .ok (a == b) w := by
  simp only [Op.equalIn, Sem.run_bind, run_underlying Tryd.underlying25, Result.andThen_ok]
  simp
theorem equal4_same (x0 x1 x2 x3 : Int) (w : World) : (Op.equalIn 10000 27 (set4 x0 x1 x2 x3) (set4 x0 x1 x2 x3)).run Tryd.prog w = .ok true w := by
  obtain ⟨i, hi, hz⟩ := Option.map_eq_some_iff.1 info_u64
  have r4 : List.range 4 = [0, 1, 2, 3] := rfl
  have q0 : (part 25 #[Value.int .u64 x0, .int .u64 x1, .int .u64 x2, .int .u64 x3] 0).run Tryd.prog w = .ok (.int .u64 x0) w := by kernel_rfl
  have q1 : (part 25 #[Value.int .u64 x0, .int .u64 x1, .int .u64 x2, .int .u64 x3] 1).run Tryd.prog w = .ok (.int .u64 x1) w := by kernel_rfl
  have q2 : (part 25 #[Value.int .u64 x0, .int .u64 x1, .int .u64 x2, .int .u64 x3] 2).run Tryd.prog w = .ok (.int .u64 x2) w := by kernel_rfl
  have q3 : (part 25 #[Value.int .u64 x0, .int .u64 x1, .int .u64 x2, .int .u64 x3] 3).run Tryd.prog w = .ok (.int .u64 x3) w := by kernel_rfl
  have hq := eq_u64 9998 w
  rw [show (10000 : Nat) = 9999 + 1 from rfl, run_equalIn_array (w := w) 9999 _ _ Tryd.underlying27 hi, cells_u64, r4]
  simp only [Nat.reduceAdd] at hq
  simp [Op.eqItems, Sem.run_bind, Result.andThen_ok, q0, q1, q2, q3, hq]
theorem wf_zero : Wf4 0 0 0 0 := ⟨⟨by omega, by omega⟩, ⟨by omega, by omega⟩, ⟨by omega, by omega⟩, ⟨by omega, by omega⟩⟩
theorem cross_fact {x0 x1 x2 x3 y0 y1 y2 y3 : Int} (hx : Wf4 x0 x1 x2 x3) (hy : Wf4 y0 y1 y2 y3) : Wf4 (bits .and .u64 x0 y0) (bits .and .u64 x1 y1) (bits .and .u64 x2 y2) (bits .and .u64 x3 y3) ∧
    ∀ b, 0 ≤ b → b < 256 → inSet [bits .and .u64 x0 y0, bits .and .u64 x1 y1, bits .and .u64 x2 y2, bits .and .u64 x3 y3] b = (inSet [x0, x1, x2, x3] b && inSet [y0, y1, y2, y3] b) :=
  ⟨⟨hx.1.and hy.1, hx.2.1.and hy.2.1, hx.2.2.1.and hy.2.2.1, hx.2.2.2.and hy.2.2.2⟩, fun b h0 h1 => inSet_op (f := fun x y => bits .and .u64 x y) (g := fun a b => a && b) (fun hx hy => hx.and hy) (fun hx hy j _ => inW_and hx hy j) hx hy b h0 h1⟩
theorem minus_fact {x0 x1 x2 x3 y0 y1 y2 y3 : Int} (hx : Wf4 x0 x1 x2 x3) (hy : Wf4 y0 y1 y2 y3) : Wf4 (bits .andNot .u64 x0 y0) (bits .andNot .u64 x1 y1) (bits .andNot .u64 x2 y2) (bits .andNot .u64 x3 y3) ∧
    ∀ b, 0 ≤ b → b < 256 → inSet [bits .andNot .u64 x0 y0, bits .andNot .u64 x1 y1, bits .andNot .u64 x2 y2, bits .andNot .u64 x3 y3] b = (inSet [x0, x1, x2, x3] b && !inSet [y0, y1, y2, y3] b) :=
  ⟨⟨hx.1.andNot hy.1, hx.2.1.andNot hy.2.1, hx.2.2.1.andNot hy.2.2.1, hx.2.2.2.andNot hy.2.2.2⟩, fun b h0 h1 => inSet_op (f := fun x y => bits .andNot .u64 x y) (g := fun a b => a && !b) (fun hx hy => hx.andNot hy) (fun hx hy j hj => inW_andNot hx hy j hj) hx hy b h0 h1⟩
theorem has_is {x0 x1 x2 x3 b : Int} {v : Bool} (w : World) (hb0 : 0 ≤ b) (hb1 : b ≤ 255) (h : inSet [x0, x1, x2, x3] b = v) :
    Calls Tryd.prog 45 #[set4 x0 x1 x2 x3, .int .u8 b] w fun e w' => e = .returned (.bool v) ∧ Below w.heap.size w w' := by
  subst h
  exact has_any _ _ _ _ _ _ hb0 hb1
theorem size_strOfNums (xs : List Int) : (strOfNums xs).size = xs.length := by
  simp [strOfNums, ByteArray.size]
end Go.Proofs.YtfbgmlophkbejaaDoor

set_option linter.unusedVariables false
set_option linter.unusedSimpArgs false
namespace Go.Proofs.YtfbgmlophkbejaaDoor
open Go.RowKit Go.Proofs.YtfbgmlophkbejaaDoorW.PrintWords Go.Proofs.YtfbgmlophkbejaaDoorW.PrintLast
/-- byte b stands among the first k of a text -/
def inStr (s : ByteArray) (b : Int) : Nat → Bool
  | 0 => false
  | k + 1 => inStr s b k || decide (bt s k = b)
theorem inStr_zero (s : ByteArray) (b : Int) : inStr s b 0 = false := by simp only [inStr]
theorem inStr_step (s : ByteArray) (b k : Int) (h : 0 ≤ k) : inStr s b (k + 1).toNat = (inStr s b k.toNat || decide (bt s k = b)) := by
  obtain ⟨n, rfl⟩ := Int.eq_ofNat_of_zero_le h
  show inStr s b (n + 1) = _
  rw [inStr]; rfl
theorem rwith_step {s : ByteArray} {l m : List Int} {k : Int} (hk : 0 ≤ k) (hl : l.length = 256) (h0 : 0 ≤ bt s k) (h1 : bt s k < 256)
    (h : ∀ b, 0 ≤ b → b < 256 → rd l b = if inStr s b k.toNat = true then 1 else rd m b) : ∀ b, 0 ≤ b → b < 256 → rd (l.set (bt s k).toNat 1) b = if inStr s b (k + 1).toNat = true then 1 else rd m b := by
  intro b hb0 hb1
  rw [rd_set l (bt s k) b 1 h0 (by omega) hb0, inStr_step s b k hk, h b hb0 hb1]
  by_cases e : b = bt s k
  · subst e; simp
  · have e' : ¬ bt s k = b := fun h => e h.symm
    simp [e, e']
set_option maxRecDepth 100000 in
set_option maxHeartbeats 2000000 in
theorem rwith_any (m : List Int) (s : ByteArray) (w : World) (hm : m.length = 256) (hs : s.size ≤ 9223372036854775807) :
    Calls Tryd.prog 71 #[.agg (nums .u8 m).toArray, .string s] w (ListSuch .u8 (fun l => l.length = 256 ∧ ∀ b, 0 ≤ b → b < 256 → rd l b = if inStr s b s.size = true then 1 else rd m b) w) := by
  have hz := zero_S
  go_enter Tryd.func71, Tryd.ntmps71
  go_upto_region 1 with (fail)
  clear hz
  go_wp2
  go_loopw [5] (fun v wr => ∃ (k : Int) (l : List Int), v = .int .i64 k ∧ 0 ≤ k ∧ k ≤ s.size ∧ l.length = 256 ∧ Hid (∀ b, 0 ≤ b → b < 256 → rd l b = if inStr s b k.toNat = true then 1 else rd m b) ∧ Below w.heap.size w wr ∧ Blk wr w.heap.size 66 (nums .u8 l).toArray ∧ Blk wr (w.heap.size + 1) 66 (nums .u8 no256).toArray) (fun v _ => s.size - (intOf v).toNat)
  case atStart => exact ⟨0, m, rfl, by omega, by omega, hm, fun b h0 h1 => by rw [show (0 : Int).toNat = 0 from rfl, inStr_zero]; rfl, below_alloc (below_one _ _) _, (Blk.new _ _ _).alloc _, Blk.at_new (by simp)⟩
  case round =>
    obtain ⟨k, l, rfl, hk0, hk1, hl, hall, hbel, b0, b1⟩ := hrel
    by_cases hlt : k < s.size
    · have hbt := bt_at s k
      have hbr := bt_range s k
      have c1 := blk_num_at b0 (bt s k) hbr.1 (by omega)
      have c2 := b0.frozen (bt s k).toNat
      go_wp2
      exact ⟨⟨k + 1, l.set (bt s k).toNat 1, rfl, by omega, by omega, by rw [List.length_set, hl], rwith_step hk0 hl hbr.1 (by omega) hall.out, below_set hbel (by simp) _, blk_num_set b0 _ _, b1.far (by simp) _⟩, by simp [intOf]; omega⟩
    · obtain rfl : k = s.size := by omega
      go_wp2_with (first | (refine wp_load_blk rfl 66 _ rfl w.heap.size rfl 66 _ b0 _ Tryd.underlying66 rfl 256 size_S (by rw [nums_size, hl]) ?_) | (refine wp_store_blk rfl 66 _ _ rfl rfl (w.heap.size + 1) _ rfl rfl 66 _ b1 256 size_S (by rw [nums_size, hl]) rfl (nums_one _ _) ?_; intro w3 hb3 hg3))
      refine bodyPost_ret (ret_blk (ty := 66) rfl _ _ _ _ _ _ rfl hb3 Tryd.underlying66 rfl 256 size_S (by rw [nums_size, hl])) rfl ?_
      exact ⟨l, ⟨hl, hall.out⟩, rfl, below_grown hbel hg3 (by omega)⟩
theorem rfrom_step {l m : List Int} {a k : Int} (hk : 0 ≤ k) (hk1 : k < 256) (hak : a ≤ k) (hl : l.length = 256)
    (h : ∀ b, 0 ≤ b → b < 256 → rd l b = if a ≤ b ∧ b < k then 1 else rd m b) : ∀ b, 0 ≤ b → b < 256 → rd (l.set k.toNat 1) b = if a ≤ b ∧ b < k + 1 then 1 else rd m b := by
  intro b hb0 hb1
  rw [rd_set l k b 1 hk (by omega) hb0, h b hb0 hb1]
  by_cases e : b = k
  · subst e; rw [if_pos rfl, if_pos ⟨hak, by omega⟩]
  · rw [if_neg e]
    by_cases g : a ≤ b ∧ b < k
    · rw [if_pos g, if_pos ⟨g.1, by omega⟩]
    · rw [if_neg g, if_neg (by omega)]
set_option maxRecDepth 100000 in
set_option maxHeartbeats 2000000 in
theorem rfrom_any (m : List Int) (a z : Int) (w : World) (hm : m.length = 256) (ha : 0 ≤ a) (ha1 : a ≤ 255) (hz0 : 0 ≤ z) (hz1 : z ≤ 255) :
    Calls Tryd.prog 70 #[.agg (nums .u8 m).toArray, .int .i64 a, .int .i64 z] w (ListSuch .u8 (fun l => l.length = 256 ∧ ∀ b, 0 ≤ b → b < 256 → rd l b = if a ≤ b ∧ b ≤ z then 1 else rd m b) w) := by
  have hz := zero_S
  go_enter Tryd.func70, Tryd.ntmps70
  go_upto_region 1 with (fail)
  clear hz
  go_wp2
  go_loopw [7] (fun v wr => ∃ (k : Int) (l : List Int), v = .int .i64 k ∧ a ≤ k ∧ k ≤ 256 ∧ (k = a ∨ k ≤ z + 1) ∧ l.length = 256 ∧ Hid (∀ b, 0 ≤ b → b < 256 → rd l b = if a ≤ b ∧ b < k then 1 else rd m b) ∧ Below w.heap.size w wr ∧ Blk wr w.heap.size 66 (nums .u8 l).toArray ∧ Blk wr (w.heap.size + 1) 66 (nums .u8 no256).toArray) (fun v _ => 256 - (intOf v).toNat)
  case atStart => exact ⟨a, m, rfl, by omega, by omega, by omega, hm, fun b h0 h1 => by rw [if_neg (by omega)], below_alloc (below_one _ _) _, (Blk.new _ _ _).alloc _, Blk.at_new (by simp)⟩
  case round =>
    obtain ⟨k, l, rfl, hk0, hk1, hk2, hl, hall, hbel, b0, b1⟩ := hrel
    by_cases hlt : k ≤ z
    · have c1 := blk_num_at b0 k (by omega) (by omega)
      have c2 := b0.frozen k.toNat
      go_wp2
      exact ⟨⟨k + 1, l.set k.toNat 1, rfl, by omega, by omega, by omega, by rw [List.length_set, hl], rfrom_step (by omega) (by omega) hk0 hl hall.out, below_set hbel (by simp) _, blk_num_set b0 _ _, b1.far (by simp) _⟩, by simp [intOf]; omega⟩
    · go_wp2_with (first | (refine wp_load_blk rfl 66 _ rfl w.heap.size rfl 66 _ b0 _ Tryd.underlying66 rfl 256 size_S (by rw [nums_size, hl]) ?_) | (refine wp_store_blk rfl 66 _ _ rfl rfl (w.heap.size + 1) _ rfl rfl 66 _ b1 256 size_S (by rw [nums_size, hl]) rfl (nums_one _ _) ?_; intro w3 hb3 hg3))
      refine bodyPost_ret (ret_blk (ty := 66) rfl _ _ _ _ _ _ rfl hb3 Tryd.underlying66 rfl 256 size_S (by rw [nums_size, hl])) rfl ?_
      refine ⟨l, ⟨hl, fun b h0 h1 => ?_⟩, rfl, below_grown hbel hg3 (by omega)⟩
      rw [hall.out b h0 h1]
      by_cases g : a ≤ b ∧ b < k
      · rw [if_pos g, if_pos (by omega)]
      · rw [if_neg g, if_neg (by omega)]
set_option maxRecDepth 100000 in
set_option maxHeartbeats 4000000 in
theorem with_any (x0 x1 x2 x3 : Int) (s : ByteArray) (w : World) (hx : Wf4 x0 x1 x2 x3) (hs : s.size ≤ 9223372036854775807) :
    Calls Tryd.prog 67 #[set4 x0 x1 x2 x3, .string s] w (Set4Such (fun y0 y1 y2 y3 => Wf4 y0 y1 y2 y3 ∧ ∀ b, 0 ≤ b → b < 256 → inSet [y0, y1, y2, y3] b = (inSet [x0, x1, x2, x3] b || inStr s b s.size)) w) := by
  go_enter Tryd.func67, Tryd.ntmps67
  go_wp2
  go_loopw [8] (fun v wr => ∃ (k y0 y1 y2 y3 : Int), v = .int .i64 k ∧ 0 ≤ k ∧ k ≤ s.size ∧ Hid (Wf4 y0 y1 y2 y3 ∧ ∀ b, 0 ≤ b → b < 256 → inSet [y0, y1, y2, y3] b = (inSet [x0, x1, x2, x3] b || inStr s b k.toNat)) ∧ Below w.heap.size w wr ∧ Blk wr w.heap.size 27 (arr4 y0 y1 y2 y3) ∧ Blk wr (w.heap.size + 1) 27 (arr4 0 0 0 0)) (fun v _ => s.size - (intOf v).toNat)
  case atStart => exact ⟨0, x0, x1, x2, x3, rfl, by omega, by omega, ⟨hx, fun b h0 h1 => by rw [show (0 : Int).toNat = 0 from rfl, inStr_zero, Bool.or_false]⟩, below_alloc (below_one _ _) _, (Blk.new _ _ _).alloc _, Blk.at_new (by simp)⟩
  case round =>
    obtain ⟨k, y0, y1, y2, y3, rfl, hk0, hk1, hy, hbel, b0, b1⟩ := hrel
    by_cases hlt : k < s.size
    · have hbt := bt_at s k
      have hbr := bt_range s k
      go_upto_region 4 with (fail)
      have hst : ∀ w1 w2 : World, (Below w.heap.size w w1 ∧ Blk w1 w.heap.size 27 (arr4 y0 y1 y2 y3) ∧ Blk w1 (w.heap.size + 1) 27 (arr4 0 0 0 0)) → Below w1.heap.size w1 w2 → (Below w.heap.size w w2 ∧ Blk w2 w.heap.size 27 (arr4 y0 y1 y2 y3) ∧ Blk w2 (w.heap.size + 1) 27 (arr4 0 0 0 0)) := fun _ _ ⟨h1, h2, h3⟩ h => ⟨below_after h1 h, h2.after h, h3.after h⟩
      refine start_ (n := 6) (S := (fun w' => Below w.heap.size w w' ∧ Blk w' w.heap.size 27 (arr4 y0 y1 y2 y3) ∧ Blk w' (w.heap.size + 1) 27 (arr4 0 0 0 0))) (ds := [5]) #[false, false, false, false, false, false] (by kernel_rfl) rfl rfl ⟨hbel.drew, b0.drew, b1.drew⟩ (fun hHeld => ?_)
      refine pure_ (i := 1) (N := some 12) (v := ?_) (a' := ?_) #[false, true, false, false, false, false] rfl rfl (by kernel_rfl) (fun _ _ _ h => h) (Or.inl ⟨by rfl, ?_⟩) ?_ ?_
      rotate_left
      · intro w'
        go_simp
        with_reducible rfl
      rotate_left
      · simp only [Act.put, List.setIfInBounds_toArray, List.set_cons_zero, List.set_cons_succ, i64_w, i32_w]
        rfl
      refine pure_ (i := 2) (N := some 13) (v := ?_) (a' := ?_) #[false, true, true, false, false, false] rfl rfl (by kernel_rfl) (fun _ _ _ h => h) (Or.inl ⟨by rfl, ?_⟩) ?_ ?_
      rotate_left
      · intro w'
        go_simp
        with_reducible rfl
      rotate_left
      · simp only [Act.put, List.setIfInBounds_toArray, List.set_cons_zero, List.set_cons_succ, i64_w, i32_w]
        rfl
      refine take_ (i := 0) (N := some 11) (v := ?_) (a' := ?_) #[true, true, true, false, false, false] rfl rfl (by kernel_rfl) (fun _ _ _ h => h) (Or.inl ⟨by rfl, ?_⟩) hHeld ?_ ?_
      rotate_left
      · rintro w' ⟨s1, s2, s3⟩
        refine exec_load_blk 27 (.tmp 2) ?_ w.heap.size ?_ 27 s2 _ Tryd.underlying27 rfl 4 size_B rfl
        · rfl
        · rfl
      rotate_left
      · simp only [Act.put, List.setIfInBounds_toArray, List.set_cons_zero, List.set_cons_succ, i64_w, i32_w]
        rfl
      refine take_ (i := 3) (N := some 14) (v := ?_) (a' := ?_) #[true, true, true, true, false, false] rfl rfl (by kernel_rfl) (fun _ _ _ h => h) (Or.inl ⟨by rfl, ?_⟩) hHeld ?_ ?_
      rotate_left
      · rintro w' ⟨s1, s2, s3⟩
        go_simp
        with_reducible rfl
      rotate_left
      · simp only [Act.put, List.setIfInBounds_toArray, List.set_cons_zero, List.set_cons_succ, i64_w, i32_w]
        rfl
      refine one_ (i := 4) (N := some 15) #[true, true, true, true, true, false] rfl rfl (by kernel_rfl) (by decide) (fun K hK => ?_)
      refine goes_ Tryd.func68 (by kernel_rfl) rfl #[set4 y0 y1 y2 y3, .int .u8 (bt s k)] (by rfl) rfl rfl (by first | rfl | (simp only [List.map_toArray, List.map_cons, List.map_nil]; done) | (simp only [List.map_toArray, List.map_cons, List.map_nil]; rfl)) ?_
      refine (put_any y0 y1 y2 y3 (bt s k) _ hy.out.1 hbr.1 (by omega)).mono ?_
      rintro _ wq ⟨u0, u1, u2, u3, hu, rfl, hbc⟩
      refine ⟨_, rfl, ?_⟩
      have Hu := Lib.hid hu
      clear hu
      refine hK.out _ _ (hst _ _ hHeld hbc) (fun hHeld => ?_)
      clear hK K
      refine norm_ (a' := ?_) ?_ ?_
      rotate_left
      · show Act.put _ (some 15) _ = _
        simp only [Act.put, List.setIfInBounds_toArray, List.set_cons_zero, List.set_cons_succ, i64_w, i32_w]
        rfl
      refine last_ (i := 5) (N := none) #[true, true, true, true, true, true] rfl rfl (by kernel_rfl) (by decide) (fun K hK => ?_)
      refine store_ (by rfl) rfl 27 _ _ rfl w.heap.size (arr4 u0 u1 u2 u3) rfl rfl 27 _ hHeld.2.1 4 size_B rfl rfl (nums_one .u64 [u0, u1, u2, u3]) ?_
      intro w9 h9 k9
      have hf9 : Below w.heap.size w w9 ∧ Blk w9 w.heap.size 27 (arr4 u0 u1 u2 u3) ∧ Blk w9 (w.heap.size + 1) 27 (arr4 0 0 0 0) := ⟨below_grown hHeld.1 k9 (by omega), h9, hHeld.2.2.grown k9 (by simp)⟩
      clear hHeld
      refine hK.out _ _ ?_
      clear hK K
      refine done_ (by kernel_rfl) ?_
      go_wp2
      exact ⟨⟨k + 1, u0, u1, u2, u3, rfl, by omega, by omega, ⟨Hu.out.1, fun b h0 h1 => by rw [Hu.out.2 b h0 h1, hy.out.2 b h0 h1, inStr_step s b k hk0, Bool.or_assoc]; exact congrArg (inSet [x0, x1, x2, x3] b || ·) (congrArg (inStr s b k.toNat || ·) (decide_eq_decide.2 ⟨Eq.symm, Eq.symm⟩))⟩, hf9⟩, by simp [intOf]; omega⟩
    · obtain rfl : k = s.size := by omega
      go_wp2_with (first | (refine wp_load_blk rfl 27 _ rfl w.heap.size rfl 27 _ b0 _ Tryd.underlying27 rfl 4 size_B rfl ?_) | (refine wp_store_blk rfl 27 _ _ rfl rfl (w.heap.size + 1) _ rfl rfl 27 _ b1 4 size_B rfl rfl (nums_one .u64 [y0, y1, y2, y3]) ?_; intro w3 hb3 hg3))
      refine bodyPost_ret (ret_blk (ty := 27) rfl _ _ _ _ _ _ rfl hb3 Tryd.underlying27 rfl 4 size_B rfl) rfl ?_
      exact ⟨y0, y1, y2, y3, hy.out, rfl, below_grown hbel hg3 (by omega)⟩
end Go.Proofs.YtfbgmlophkbejaaDoor

set_option linter.unusedVariables false
set_option linter.unusedSimpArgs false
namespace Go.Proofs.YtfbgmlophkbejaaDoor
open Go.RowKit Go.Proofs.YtfbgmlophkbejaaDoorW.PrintWords Go.Proofs.YtfbgmlophkbejaaDoorW.PrintLast
theorem size_4 : (Tryd.prog.info? 26).map (·.size) = some 4 := by kernel_rfl
theorem built_4 : Tryd.prog.built 26 [] = some (arr4 0 0 0 0) := by kernel_rfl
theorem shl_fact (k : Int) (h0 : 0 ≤ k) : IntKind.u64.wrap (2 ^ (k % 64).toNat) = 2 ^ (k % 64).toNat := by
  have hu := pow_U64 (k % 64).toNat (by omega)
  rw [IntKind.wrap_u64]
  exact Int.emod_eq_of_lt hu.1 hu.2
theorem words_step {y0 y1 y2 y3 k : Int} {m : List Int} (hk : 0 ≤ k) (hy : Wf4 y0 y1 y2 y3 ∧ ∀ b, 0 ≤ b → b < 256 → inSet [y0, y1, y2, y3] b = (decide (b < k) && (rd m b == 1))) (h1 : k < 256) (hm : (rd m k == 1) = true) :
    ∃ z0 z1 z2 z3, put4 [y0, y1, y2, y3] k = [z0, z1, z2, z3] ∧ Wf4 z0 z1 z2 z3 ∧ ∀ b, 0 ≤ b → b < 256 → inSet [z0, z1, z2, z3] b = (decide (b < k + 1) && (rd m b == 1)) := by
  obtain ⟨z0, z1, z2, z3, hz⟩ := put4_eq y0 y1 y2 y3 k hk h1
  have hp := put4_spec hy.1 hk h1 hz
  refine ⟨z0, z1, z2, z3, hz, hp.1, fun b h0 hb => ?_⟩
  rw [hp.2 b h0 hb, hy.2 b h0 hb]
  by_cases e : b = k
  · subst e; simp [hm]; omega
  · have e1 : decide (b = k) = false := by simpa using e
    have e2 : decide (b < k + 1) = decide (b < k) := decide_eq_decide.2 ⟨fun h => by omega, fun h => by omega⟩
    rw [e1, e2, Bool.or_false]
theorem words_skip {y0 y1 y2 y3 k : Int} {m : List Int} (hy : Wf4 y0 y1 y2 y3 ∧ ∀ b, 0 ≤ b → b < 256 → inSet [y0, y1, y2, y3] b = (decide (b < k) && (rd m b == 1))) (hm : (rd m k == 1) = false) :
    Wf4 y0 y1 y2 y3 ∧ ∀ b, 0 ≤ b → b < 256 → inSet [y0, y1, y2, y3] b = (decide (b < k + 1) && (rd m b == 1)) := by
  refine ⟨hy.1, fun b h0 hb => ?_⟩
  rw [hy.2 b h0 hb]
  by_cases e : b = k
  · subst e; simp [hm]
  · have e2 : decide (b < k + 1) = decide (b < k) := decide_eq_decide.2 ⟨fun h => by omega, fun h => by omega⟩
    rw [e2]
/-- byte b stands among the first k of a list -/
def inList (xs : List Int) (b : Int) : Nat → Bool
  | 0 => false
  | k + 1 => inList xs b k || decide (rd xs k = b)
theorem inList_zero (xs : List Int) (b : Int) : inList xs b 0 = false := by simp only [inList]
theorem inList_step (xs : List Int) (b k : Int) (h : 0 ≤ k) : inList xs b (k + 1).toNat = (inList xs b k.toNat || decide (rd xs k = b)) := by
  obtain ⟨n, rfl⟩ := Int.eq_ofNat_of_zero_le h
  show inList xs b (n + 1) = _
  rw [inList]; rfl
theorem inRange_step {a b k : Int} (h : a ≤ k) : (decide (a ≤ b) && decide (b < k + 1)) = ((decide (a ≤ b) && decide (b < k)) || decide (b = k)) := by
  by_cases e : b = k
  · subst e; simp; omega
  · have e2 : decide (b < k + 1) = decide (b < k) := decide_eq_decide.2 ⟨fun h => by omega, fun h => by omega⟩
    rw [e2, decide_eq_false e, Bool.or_false]
theorem inRange_end {a b k z : Int} (h : ¬ k ≤ z) (hk : k = a ∨ k ≤ z + 1) : (decide (a ≤ b) && decide (b < k)) = (decide (a ≤ b) && decide (b ≤ z)) := by
  by_cases g : a ≤ b
  · rw [show decide (b < k) = decide (b ≤ z) from decide_eq_decide.2 ⟨fun h => by omega, fun h => by omega⟩]
  · rw [decide_eq_false g, Bool.false_and, Bool.false_and]
set_option maxRecDepth 100000 in
set_option maxHeartbeats 8000000 in
theorem make_any (a z : Int) (ad : Addr) (c : Nat) (xs : List Int) (w : World) (ha : 0 ≤ a) (ha1 : a ≤ 255) (hz0 : 0 ≤ z) (hz1 : z ≤ 255) (hr : ∀ k : Int, 0 ≤ k → k < xs.length → 0 ≤ rd xs k ∧ rd xs k ≤ 255) (hl : xs.length ≤ 9223372036854775807)
    (hc : ∀ k : Int, 0 ≤ k → k < xs.length → w.cell? (ad.add k.toNat) = some (.int .u8 (rd xs k))) :
    Calls Tryd.prog 38 #[.int .u8 a, .int .u8 z, .slice (some ad) xs.length c] w (Set4Such (fun y0 y1 y2 y3 => Wf4 y0 y1 y2 y3 ∧ ∀ b, 0 ≤ b → b < 256 → inSet [y0, y1, y2, y3] b = ((decide (a ≤ b) && decide (b ≤ z)) || inList xs b xs.length)) w) := by
  have Hc := Lib.hid hc
  have Hr := Lib.hid hr
  clear hc hr
  go_enter Tryd.func38, Tryd.ntmps38
  go_wp2
  go_loopw [8] (fun v wr => ∃ (k y0 y1 y2 y3 : Int), v = .int .i64 k ∧ a ≤ k ∧ k ≤ 256 ∧ (k = a ∨ k ≤ z + 1) ∧ Hid (Wf4 y0 y1 y2 y3 ∧ ∀ b, 0 ≤ b → b < 256 → inSet [y0, y1, y2, y3] b = (decide (a ≤ b) && decide (b < k))) ∧ Below w.heap.size w wr ∧ Blk wr w.heap.size 27 (arr4 0 0 0 0) ∧ Blk wr (w.heap.size + 1) 27 (arr4 y0 y1 y2 y3)) (fun v _ => 256 - (intOf v).toNat)
  case atStart => exact ⟨a, 0, 0, 0, 0, rfl, by omega, by omega, by omega, ⟨wf_zero, fun b h0 h1 => by rw [inSet_zero b h0 h1]; by_cases g : a ≤ b <;> simp [g]⟩, below_alloc (below_one _ _) _, (Blk.new _ _ _).alloc _, Blk.at_new (by simp)⟩
  case round =>
    obtain ⟨k, y0, y1, y2, y3, rfl, hk0, hk1, hk2, hy, hbel, b0, b1⟩ := hrel
    by_cases hlt : k ≤ z
    · go_wp2_with (first
        | (refine wp_load_blk rfl 27 _ rfl (w.heap.size + 1) rfl 27 _ b1 _ Tryd.underlying27 rfl 4 size_B rfl ?_)
        | (go_at_call 68; refine (put_any y0 y1 y2 y3 k _ hy.out.1 (by omega) (by omega)).mono ?_; rintro e w3 ⟨u0, u1, u2, u3, hu, rfl, hb3⟩; replace hbel := below_after hbel hb3; replace b0 := b0.after hb3; replace b1 := b1.after hb3; have Hu := Lib.hid hu; clear hu)
        | (refine wp_store_blk rfl 27 _ _ rfl rfl (w.heap.size + 1) _ rfl rfl 27 _ b1 4 size_B rfl rfl (nums_one .u64 [u0, u1, u2, u3]) ?_; intro w4 hb4 hg4))
      exact ⟨⟨k + 1, u0, u1, u2, u3, rfl, by omega, by omega, by omega, ⟨Hu.out.1, fun b h0 h1 => by rw [Hu.out.2 b h0 h1, hy.out.2 b h0 h1, inRange_step hk0]⟩, below_grown hbel hg4 (by omega), b0.grown hg4 (by simp), hb4⟩, by simp [intOf]; omega⟩
    · go_wp2
      replace hy := Lib.hid (And.intro hy.out.1 (fun (b : Int) (h0 : 0 ≤ b) (h1 : b < 256) => (hy.out.2 b h0 h1).trans (inRange_end (b := b) (z := z) (by omega) hk2)))
      go_loopw [25] (fun v wr => ∃ (k y0 y1 y2 y3 : Int), v = .int .i64 k ∧ 0 ≤ k ∧ k ≤ xs.length ∧ Hid (Wf4 y0 y1 y2 y3 ∧ ∀ b, 0 ≤ b → b < 256 → inSet [y0, y1, y2, y3] b = ((decide (a ≤ b) && decide (b ≤ z)) || inList xs b k.toNat)) ∧ Below w.heap.size w wr ∧ Blk wr w.heap.size 27 (arr4 0 0 0 0) ∧ Blk wr (w.heap.size + 1) 27 (arr4 y0 y1 y2 y3)) (fun v _ => xs.length - (intOf v).toNat)
      case atStart => exact ⟨0, y0, y1, y2, y3, rfl, by omega, by omega, ⟨hy.out.1, fun b h0 h1 => by rw [hy.out.2 b h0 h1, show (0 : Int).toNat = 0 from rfl, inList_zero, Bool.or_false]⟩, hbel, b0, b1⟩
      case round =>
        clear hy b0 b1 hbel hk0 hk1 hk2 hlt
        obtain ⟨j, v0, v1, v2, v3, rfl, hj0, hj1, hv, hbel, b0, b1⟩ := hrel
        by_cases hlj : j < xs.length
        · have c0 := pw_cell_below hbel (Hc.out j hj0 hlj)
          have hrj := Hr.out j hj0 hlj
          generalize hx : rd xs j = x at *
          have Hx := Lib.hid hx
          clear hx
          go_wp2_with (first
            | (refine wp_load_blk rfl 27 _ rfl (w.heap.size + 1) rfl 27 _ b1 _ Tryd.underlying27 rfl 4 size_B rfl ?_)
            | (go_at_call 68; refine (put_any v0 v1 v2 v3 x _ hv.out.1 hrj.1 (by omega)).mono ?_; rintro e w3 ⟨u0, u1, u2, u3, hu, rfl, hb3⟩; replace hbel := below_after hbel hb3; replace b0 := b0.after hb3; replace b1 := b1.after hb3; have Hu := Lib.hid hu; clear hu)
            | (refine wp_store_blk rfl 27 _ _ rfl rfl (w.heap.size + 1) _ rfl rfl 27 _ b1 4 size_B rfl rfl (nums_one .u64 [u0, u1, u2, u3]) ?_; intro w4 hb4 hg4))
          exact ⟨⟨j + 1, u0, u1, u2, u3, rfl, by omega, by omega, ⟨Hu.out.1, fun b h0 h1 => by rw [Hu.out.2 b h0 h1, hv.out.2 b h0 h1, inList_step xs b j hj0, Hx.out, Bool.or_assoc]; exact congrArg ((decide (a ≤ b) && decide (b ≤ z)) || ·) (congrArg (inList xs b j.toNat || ·) (decide_eq_decide.2 ⟨Eq.symm, Eq.symm⟩))⟩, below_grown hbel hg4 (by omega), b0.grown hg4 (by simp), hb4⟩, by simp [intOf]; omega⟩
        · obtain rfl : j = xs.length := by omega
          go_wp2_with (first | (refine wp_load_blk rfl 27 _ rfl (w.heap.size + 1) rfl 27 _ b1 _ Tryd.underlying27 rfl 4 size_B rfl ?_) | (refine wp_store_blk rfl 27 _ _ rfl rfl w.heap.size _ rfl rfl 27 _ b0 4 size_B rfl rfl (nums_one .u64 [v0, v1, v2, v3]) ?_; intro w3 hb3 hg3))
          refine bodyPost_ret (ret_blk (ty := 27) rfl _ _ _ _ _ _ rfl hb3 Tryd.underlying27 rfl 4 size_B rfl) rfl ?_
          exact ⟨v0, v1, v2, v3, hv.out, rfl, below_grown hbel hg3 (by omega)⟩
end Go.Proofs.YtfbgmlophkbejaaDoor

set_option linter.unusedVariables false
set_option linter.unusedSimpArgs false
namespace Go.Proofs.YtfbgmlophkbejaaDoor
open Go.RowKit Go.Proofs.YtfbgmlophkbejaaDoorW.PrintWords Go.Proofs.YtfbgmlophkbejaaDoorW.PrintLast
theorem all256 {p q : Int → Bool} (h : ((List.range 256).all fun n => p (n : Int) == q (n : Int)) = true) : ∀ b, 0 ≤ b → b < 256 → p b = q b := by
  intro b h0 h1
  have := List.all_eq_true.1 h b.toNat (by simp; omega)
  have e : ((b.toNat : Nat) : Int) = b := by omega
  rw [e] at this
  exact beq_iff_eq.1 this
theorem wf_lits {x0 x1 x2 x3 : Int} (h : (decide (0 ≤ x0 ∧ x0 < 18446744073709551616) && decide (0 ≤ x1 ∧ x1 < 18446744073709551616) && decide (0 ≤ x2 ∧ x2 < 18446744073709551616) && decide (0 ≤ x3 ∧ x3 < 18446744073709551616)) = true) : Wf4 x0 x1 x2 x3 := by
  simp only [Bool.and_eq_true, decide_eq_true_eq] at h
  exact ⟨h.1.1.1, h.1.1.2, h.1.2, h.2⟩
/-- the document's set of four words -/
def bl (x : List Int) : List Int := (List.range 256).map fun (n : Nat) => if inSet x (n : Int) = true then 1 else 0
theorem bl_len (x : List Int) : (bl x).length = 256 := by simp [bl]
theorem bl_at (x : List Int) (b : Int) (h0 : 0 ≤ b) (h1 : b < 256) : rd (bl x) b = if inSet x b = true then 1 else 0 := by
  have hb : b.toNat < 256 := by omega
  have e : ((b.toNat : Nat) : Int) = b := by omega
  simp [rd, bl, List.getD_eq_getElem?_getD, List.getElem?_range, hb, e]
theorem bl_is {l x : List Int} {p : Int → Bool} (hl : l.length = 256) (h : ∀ b, 0 ≤ b → b < 256 → rd l b = if p b = true then 1 else 0) (hp : ∀ b, 0 ≤ b → b < 256 → p b = inSet x b) : l = bl x :=
  ext_rd (by rw [hl, bl_len]) fun b h0 h1 => by
    rw [h b h0 (by omega), bl_at x b h0 (by omega), hp b h0 (by omega)]
theorem no256_len : no256.length = 256 := List.length_replicate
theorem no256_at (b : Int) : rd no256 b = 0 := by
  unfold rd no256
  rw [List.getD_eq_getElem?_getD, List.getElem?_replicate]
  split <;> rfl
theorem no256_bl : no256 = bl [0, 0, 0, 0] := bl_is (p := fun _ => false) no256_len (fun b h0 h1 => by rw [no256_at]; rfl) (fun b h0 h1 => (inSet_zero b h0 h1).symm)
theorem rwith_is {x y : List Int} (s : ByteArray) (w : World) (hs : s.size ≤ 9223372036854775807) (h : ∀ b, 0 ≤ b → b < 256 → (inSet x b || inStr s b s.size) = inSet y b) :
    Calls Tryd.prog 71 #[.agg (nums .u8 (bl x)).toArray, .string s] w fun e w' => e = .returned (.agg (nums .u8 (bl y)).toArray) ∧ Below w.heap.size w w' := by
  refine (rwith_any (bl x) s w (bl_len x) hs).mono ?_
  rintro e w' ⟨l, ⟨h1, h2⟩, rfl, hb⟩
  obtain rfl := bl_is (p := fun b => inSet x b || inStr s b s.size) h1 (fun b h0 h3 => by
    rw [h2 b h0 h3, bl_at x b h0 h3]
    cases inStr s b s.size <;> cases inSet x b <;> rfl) h
  exact ⟨rfl, hb⟩
theorem rfrom_is {x y : List Int} (a z : Int) (w : World) (ha : 0 ≤ a) (ha1 : a ≤ 255) (hz0 : 0 ≤ z) (hz1 : z ≤ 255) (h : ∀ b, 0 ≤ b → b < 256 → (inSet x b || (decide (a ≤ b) && decide (b ≤ z))) = inSet y b) :
    Calls Tryd.prog 70 #[.agg (nums .u8 (bl x)).toArray, .int .i64 a, .int .i64 z] w fun e w' => e = .returned (.agg (nums .u8 (bl y)).toArray) ∧ Below w.heap.size w w' := by
  refine (rfrom_any (bl x) a z w (bl_len x) ha ha1 hz0 hz1).mono ?_
  rintro e w' ⟨l, ⟨h1, h2⟩, rfl, hb⟩
  obtain rfl := bl_is (p := fun b => inSet x b || (decide (a ≤ b) && decide (b ≤ z))) h1 (fun b h0 h3 => by
    rw [h2 b h0 h3, bl_at x b h0 h3]
    by_cases g : a ≤ b <;> by_cases g' : b ≤ z <;> cases inSet x b <;> simp [g, g']) h
  exact ⟨rfl, hb⟩
theorem with_is {x0 x1 x2 x3 y0 y1 y2 y3 : Int} (s : ByteArray) (w : World) (hx : Wf4 x0 x1 x2 x3) (hy : Wf4 y0 y1 y2 y3) (hs : s.size ≤ 9223372036854775807) (h : ∀ b, 0 ≤ b → b < 256 → (inSet [x0, x1, x2, x3] b || inStr s b s.size) = inSet [y0, y1, y2, y3] b) :
    Calls Tryd.prog 67 #[set4 x0 x1 x2 x3, .string s] w fun e w' => e = .returned (set4 y0 y1 y2 y3) ∧ Below w.heap.size w w' :=
  (with_any x0 x1 x2 x3 s w hx hs).mono fun _ _ g => such_is hy h g
theorem make_is {y0 y1 y2 y3 : Int} (a z : Int) (g c : Nat) (xs : List Int) (w : World) (ha : 0 ≤ a) (ha1 : a ≤ 255) (hz0 : 0 ≤ z) (hz1 : z ≤ 255) (hr : ∀ x ∈ xs, 0 ≤ x ∧ x ≤ 255) (hl : xs.length ≤ 9223372036854775807)
    (hb : Blk w g 5 (nums .u8 xs).toArray) (hy : Wf4 y0 y1 y2 y3) (h : ∀ b, 0 ≤ b → b < 256 → ((decide (a ≤ b) && decide (b ≤ z)) || inList xs b xs.length) = inSet [y0, y1, y2, y3] b) :
    Calls Tryd.prog 38 #[.int .u8 a, .int .u8 z, .slice (some ⟨g, 0, none⟩) xs.length c] w fun e w' => e = .returned (set4 y0 y1 y2 y3) ∧ Below w.heap.size w w' :=
  (make_any a z ⟨g, 0, none⟩ c xs w ha ha1 hz0 hz1 (fun k h0 h1 => by
    have hk : k.toNat < xs.length := by omega
    have e : rd xs k = xs[k.toNat] := by simp [rd, List.getD_eq_getElem?_getD, List.getElem?_eq_getElem hk]
    rw [e]; exact hr _ (List.getElem_mem hk)) hl (fun k h0 h1 => by rw [add_plain]; exact blk_num_at hb k h0 h1)).mono fun _ _ g => such_is hy h g
set_option maxRecDepth 100000 in
set_option maxHeartbeats 4000000 in
theorem make_nil (a z : Int) (c : Nat) (w : World) (ha : 0 ≤ a) (ha1 : a ≤ 255) (hz0 : 0 ≤ z) (hz1 : z ≤ 255) :
    Calls Tryd.prog 38 #[.int .u8 a, .int .u8 z, .slice none 0 c] w (Set4Such (fun y0 y1 y2 y3 => Wf4 y0 y1 y2 y3 ∧ ∀ b, 0 ≤ b → b < 256 → inSet [y0, y1, y2, y3] b = (decide (a ≤ b) && decide (b ≤ z))) w) := by
  go_enter Tryd.func38, Tryd.ntmps38
  go_wp2
  go_loopw [8] (fun v wr => ∃ (k y0 y1 y2 y3 : Int), v = .int .i64 k ∧ a ≤ k ∧ k ≤ 256 ∧ (k = a ∨ k ≤ z + 1) ∧ Hid (Wf4 y0 y1 y2 y3 ∧ ∀ b, 0 ≤ b → b < 256 → inSet [y0, y1, y2, y3] b = (decide (a ≤ b) && decide (b < k))) ∧ Below w.heap.size w wr ∧ Blk wr w.heap.size 27 (arr4 0 0 0 0) ∧ Blk wr (w.heap.size + 1) 27 (arr4 y0 y1 y2 y3)) (fun v _ => 256 - (intOf v).toNat)
  case atStart => exact ⟨a, 0, 0, 0, 0, rfl, by omega, by omega, by omega, ⟨wf_zero, fun b h0 h1 => by rw [inSet_zero b h0 h1]; by_cases g : a ≤ b <;> simp [g]⟩, below_alloc (below_one _ _) _, (Blk.new _ _ _).alloc _, Blk.at_new (by simp)⟩
  case round =>
    obtain ⟨k, y0, y1, y2, y3, rfl, hk0, hk1, hk2, hy, hbel, b0, b1⟩ := hrel
    by_cases hlt : k ≤ z
    · go_wp2_with (first
        | (refine wp_load_blk rfl 27 _ rfl (w.heap.size + 1) rfl 27 _ b1 _ Tryd.underlying27 rfl 4 size_B rfl ?_)
        | (go_at_call 68; refine (put_any y0 y1 y2 y3 k _ hy.out.1 (by omega) (by omega)).mono ?_; rintro e w3 ⟨u0, u1, u2, u3, hu, rfl, hb3⟩; replace hbel := below_after hbel hb3; replace b0 := b0.after hb3; replace b1 := b1.after hb3; have Hu := Lib.hid hu; clear hu)
        | (refine wp_store_blk rfl 27 _ _ rfl rfl (w.heap.size + 1) _ rfl rfl 27 _ b1 4 size_B rfl rfl (nums_one .u64 [u0, u1, u2, u3]) ?_; intro w4 hb4 hg4))
      exact ⟨⟨k + 1, u0, u1, u2, u3, rfl, by omega, by omega, by omega, ⟨Hu.out.1, fun b h0 h1 => by rw [Hu.out.2 b h0 h1, hy.out.2 b h0 h1, inRange_step hk0]⟩, below_grown hbel hg4 (by omega), b0.grown hg4 (by simp), hb4⟩, by simp [intOf]; omega⟩
    · replace hy := Lib.hid (And.intro hy.out.1 (fun (b : Int) (h0 : 0 ≤ b) (h1 : b < 256) => (hy.out.2 b h0 h1).trans (inRange_end (b := b) (z := z) (by omega) hk2)))
      go_wp2
      refine wp_loop_rounds 1 ?_
      rw [rounds_succ]
      go_wp2_with (first | (refine wp_load_blk rfl 27 _ rfl (w.heap.size + 1) rfl 27 _ b1 _ Tryd.underlying27 rfl 4 size_B rfl ?_) | (refine wp_store_blk rfl 27 _ _ rfl rfl w.heap.size _ rfl rfl 27 _ b0 4 size_B rfl rfl (nums_one .u64 [y0, y1, y2, y3]) ?_; intro w3 hb3 hg3))
      refine bodyPost_ret (ret_blk (ty := 27) rfl _ _ _ _ _ _ rfl hb3 Tryd.underlying27 rfl 4 size_B rfl) rfl ?_
      exact ⟨y0, y1, y2, y3, hy.out, rfl, below_grown hbel hg3 (by omega)⟩
theorem make_nil_is {y0 y1 y2 y3 : Int} (a z : Int) (w : World) (ha : 0 ≤ a) (ha1 : a ≤ 255) (hz0 : 0 ≤ z) (hz1 : z ≤ 255) (hy : Wf4 y0 y1 y2 y3) (h : ∀ b, 0 ≤ b → b < 256 → (decide (a ≤ b) && decide (b ≤ z)) = inSet [y0, y1, y2, y3] b) :
    Calls Tryd.prog 38 #[.int .u8 a, .int .u8 z, .slice none 0 0] w fun e w' => e = .returned (set4 y0 y1 y2 y3) ∧ Below w.heap.size w w' :=
  (make_nil a z 0 w ha ha1 hz0 hz1).mono fun _ _ g => such_is hy h g
/-- two results, an array and a number -/
theorem ret_blk2 {P : Program} {fn : Func} {p q : Tmp} {ty : TypeId} (h : fn.results = #[.cell p ty, .tmp q]) (tmps : Array Value) (w : World) (g : Nat) (t : TypeId) (cs : Array Value) (d : TypeDesc) (v : Value)
    (hp : tmps.getD p undef = .pointer (some ⟨g, 0, none⟩)) (hq : tmps.getD q undef = v) (hb : Blk w g t cs) (hu : P.underlying ty = some d) (hd : (match d with | .struct _ | .array _ _ => true | _ => false) = true) (n : Nat) (hi : (P.info? ty).map (·.size) = some n) (hn : cs.size = n) :
    (results fn tmps).run P w = .ok (.tuple #[.agg cs, v]) w := by
  have hp' : tmps[p]?.getD undef = .pointer (some ⟨g, 0, none⟩) := by simpa using hp
  have hq' : tmps[q]?.getD undef = v := by simpa using hq
  simp [results, h, hp', hq', asAddr, run_loadVar_row w g t ty cs (0, 0) d hb hu hd (by rw [hi, hn])]
/-- the words of the named sets -/
def nW (n : Int) : List Int := if n = 1 then [4294967295, 9223372036854775808, 18446744073709551615, 18446744073709551615] else if n = 2 then [5764607548804038655, 9223372041149743104, 18446744073709551615, 18446744073709551615] else if n = 3 then [5764607583163777023, 9223372036854775808, 18446744073709551615, 18446744073709551615] else if n = 4 then [5764608132919590911, 9223372036854775808, 18446744073709551615, 18446744073709551615] else if n = 5 then [14987979620018552831, 12105675803740602368, 18446744073709551615, 18446744073709551615] else if n = 6 then [18158654495175737343, 13258597309286973441, 18446744073709551615, 18446744073709551615] else if n = 7 then [18158681364491141119, 13258597309286973441, 18446744073709551615, 18446744073709551615] else if n = 8 then [18158685221371772927, 17870283327714361345, 18446744073709551615, 18446744073709551615] else if n = 9 then [15276350712183793153, 1152921506620112897, 0, 0] else if n = 10 then [15276350853917704191, 10376293543474888705, 0, 0] else [0, 0, 0, 0]
def nE (n : Int) : Int := if 1 ≤ n ∧ n ≤ 10 then 0 else 10
theorem wf_control : Wf4 4294967295 9223372036854775808 18446744073709551615 18446744073709551615 := wf_lits (by kernel_rfl)
theorem wf_frag : Wf4 5764607548804038655 9223372041149743104 18446744073709551615 18446744073709551615 := wf_lits (by kernel_rfl)
theorem wf_query : Wf4 5764607583163777023 9223372036854775808 18446744073709551615 18446744073709551615 := wf_lits (by kernel_rfl)
theorem wf_squery : Wf4 5764608132919590911 9223372036854775808 18446744073709551615 18446744073709551615 := wf_lits (by kernel_rfl)
theorem wf_path : Wf4 14987979620018552831 12105675803740602368 18446744073709551615 18446744073709551615 := wf_lits (by kernel_rfl)
theorem wf_user : Wf4 18158654495175737343 13258597309286973441 18446744073709551615 18446744073709551615 := wf_lits (by kernel_rfl)
theorem wf_comp : Wf4 18158681364491141119 13258597309286973441 18446744073709551615 18446744073709551615 := wf_lits (by kernel_rfl)
theorem wf_form : Wf4 18158685221371772927 17870283327714361345 18446744073709551615 18446744073709551615 := wf_lits (by kernel_rfl)
theorem wf_host : Wf4 15276350712183793153 1152921506620112897 0 0 := wf_lits (by kernel_rfl)
theorem wf_dom : Wf4 15276350853917704191 10376293543474888705 0 0 := wf_lits (by kernel_rfl)
theorem wf_lo31 : Wf4 4294967295 0 0 0 := wf_lits (by kernel_rfl)
theorem wf_hi : Wf4 0 9223372036854775808 18446744073709551615 18446744073709551615 := wf_lits (by kernel_rfl)
theorem wf_h0 : Wf4 9729 0 0 0 := wf_lits (by kernel_rfl)
theorem wf_d31 : Wf4 141733920767 9223372036854775808 0 0 := wf_lits (by kernel_rfl)
theorem with_query (w : World) : Calls Tryd.prog 67 #[set4 4294967295 9223372036854775808 18446744073709551615 18446744073709551615, .string ⟨#[32, 34, 35, 60, 62]⟩] w fun e w' => e = .returned (set4 5764607583163777023 9223372036854775808 18446744073709551615 18446744073709551615) ∧ Below w.heap.size w w' := with_is (y0 := 5764607583163777023) (y1 := 9223372036854775808) (y2 := 18446744073709551615) (y3 := 18446744073709551615) _ _ wf_control wf_query (by decide) (all256 (by kernel_rfl))
theorem rwith_query (w : World) : Calls Tryd.prog 71 #[.agg (nums .u8 (bl [4294967295, 9223372036854775808, 18446744073709551615, 18446744073709551615])).toArray, .string ⟨#[32, 34, 35, 60, 62]⟩] w fun e w' => e = .returned (.agg (nums .u8 (bl [5764607583163777023, 9223372036854775808, 18446744073709551615, 18446744073709551615])).toArray) ∧ Below w.heap.size w w' := rwith_is _ _ (by decide) (all256 (by kernel_rfl))
theorem with_path (w : World) : Calls Tryd.prog 67 #[set4 5764607583163777023 9223372036854775808 18446744073709551615 18446744073709551615, .string ⟨#[63, 94, 96, 123, 125]⟩] w fun e w' => e = .returned (set4 14987979620018552831 12105675803740602368 18446744073709551615 18446744073709551615) ∧ Below w.heap.size w w' := with_is (y0 := 14987979620018552831) (y1 := 12105675803740602368) (y2 := 18446744073709551615) (y3 := 18446744073709551615) _ _ wf_query wf_path (by decide) (all256 (by kernel_rfl))
theorem rwith_path (w : World) : Calls Tryd.prog 71 #[.agg (nums .u8 (bl [5764607583163777023, 9223372036854775808, 18446744073709551615, 18446744073709551615])).toArray, .string ⟨#[63, 94, 96, 123, 125]⟩] w fun e w' => e = .returned (.agg (nums .u8 (bl [14987979620018552831, 12105675803740602368, 18446744073709551615, 18446744073709551615])).toArray) ∧ Below w.heap.size w w' := rwith_is _ _ (by decide) (all256 (by kernel_rfl))
theorem with_user (w : World) : Calls Tryd.prog 67 #[set4 14987979620018552831 12105675803740602368 18446744073709551615 18446744073709551615, .string ⟨#[47, 58, 59, 61, 64, 91, 92, 93, 124]⟩] w fun e w' => e = .returned (set4 18158654495175737343 13258597309286973441 18446744073709551615 18446744073709551615) ∧ Below w.heap.size w w' := with_is (y0 := 18158654495175737343) (y1 := 13258597309286973441) (y2 := 18446744073709551615) (y3 := 18446744073709551615) _ _ wf_path wf_user (by decide) (all256 (by kernel_rfl))
theorem rwith_user (w : World) : Calls Tryd.prog 71 #[.agg (nums .u8 (bl [14987979620018552831, 12105675803740602368, 18446744073709551615, 18446744073709551615])).toArray, .string ⟨#[47, 58, 59, 61, 64, 91, 92, 93, 124]⟩] w fun e w' => e = .returned (.agg (nums .u8 (bl [18158654495175737343, 13258597309286973441, 18446744073709551615, 18446744073709551615])).toArray) ∧ Below w.heap.size w w' := rwith_is _ _ (by decide) (all256 (by kernel_rfl))
theorem with_comp (w : World) : Calls Tryd.prog 67 #[set4 18158654495175737343 13258597309286973441 18446744073709551615 18446744073709551615, .string ⟨#[36, 37, 38, 43, 44]⟩] w fun e w' => e = .returned (set4 18158681364491141119 13258597309286973441 18446744073709551615 18446744073709551615) ∧ Below w.heap.size w w' := with_is (y0 := 18158681364491141119) (y1 := 13258597309286973441) (y2 := 18446744073709551615) (y3 := 18446744073709551615) _ _ wf_user wf_comp (by decide) (all256 (by kernel_rfl))
theorem rwith_comp (w : World) : Calls Tryd.prog 71 #[.agg (nums .u8 (bl [18158654495175737343, 13258597309286973441, 18446744073709551615, 18446744073709551615])).toArray, .string ⟨#[36, 37, 38, 43, 44]⟩] w fun e w' => e = .returned (.agg (nums .u8 (bl [18158681364491141119, 13258597309286973441, 18446744073709551615, 18446744073709551615])).toArray) ∧ Below w.heap.size w w' := rwith_is _ _ (by decide) (all256 (by kernel_rfl))
theorem with_frag (w : World) : Calls Tryd.prog 67 #[set4 4294967295 9223372036854775808 18446744073709551615 18446744073709551615, .string ⟨#[32, 34, 60, 62, 96]⟩] w fun e w' => e = .returned (set4 5764607548804038655 9223372041149743104 18446744073709551615 18446744073709551615) ∧ Below w.heap.size w w' := with_is (y0 := 5764607548804038655) (y1 := 9223372041149743104) (y2 := 18446744073709551615) (y3 := 18446744073709551615) _ _ wf_control wf_frag (by decide) (all256 (by kernel_rfl))
theorem rwith_frag (w : World) : Calls Tryd.prog 71 #[.agg (nums .u8 (bl [4294967295, 9223372036854775808, 18446744073709551615, 18446744073709551615])).toArray, .string ⟨#[32, 34, 60, 62, 96]⟩] w fun e w' => e = .returned (.agg (nums .u8 (bl [5764607548804038655, 9223372041149743104, 18446744073709551615, 18446744073709551615])).toArray) ∧ Below w.heap.size w w' := rwith_is _ _ (by decide) (all256 (by kernel_rfl))
theorem with_squery (w : World) : Calls Tryd.prog 67 #[set4 5764607583163777023 9223372036854775808 18446744073709551615 18446744073709551615, .string ⟨#[39]⟩] w fun e w' => e = .returned (set4 5764608132919590911 9223372036854775808 18446744073709551615 18446744073709551615) ∧ Below w.heap.size w w' := with_is (y0 := 5764608132919590911) (y1 := 9223372036854775808) (y2 := 18446744073709551615) (y3 := 18446744073709551615) _ _ wf_query wf_squery (by decide) (all256 (by kernel_rfl))
theorem rwith_squery (w : World) : Calls Tryd.prog 71 #[.agg (nums .u8 (bl [5764607583163777023, 9223372036854775808, 18446744073709551615, 18446744073709551615])).toArray, .string ⟨#[39]⟩] w fun e w' => e = .returned (.agg (nums .u8 (bl [5764608132919590911, 9223372036854775808, 18446744073709551615, 18446744073709551615])).toArray) ∧ Below w.heap.size w w' := rwith_is _ _ (by decide) (all256 (by kernel_rfl))
theorem with_form (w : World) : Calls Tryd.prog 67 #[set4 18158681364491141119 13258597309286973441 18446744073709551615 18446744073709551615, .string ⟨#[33, 39, 40, 41, 126]⟩] w fun e w' => e = .returned (set4 18158685221371772927 17870283327714361345 18446744073709551615 18446744073709551615) ∧ Below w.heap.size w w' := with_is (y0 := 18158685221371772927) (y1 := 17870283327714361345) (y2 := 18446744073709551615) (y3 := 18446744073709551615) _ _ wf_comp wf_form (by decide) (all256 (by kernel_rfl))
theorem rwith_form (w : World) : Calls Tryd.prog 71 #[.agg (nums .u8 (bl [18158681364491141119, 13258597309286973441, 18446744073709551615, 18446744073709551615])).toArray, .string ⟨#[33, 39, 40, 41, 126]⟩] w fun e w' => e = .returned (.agg (nums .u8 (bl [18158685221371772927, 17870283327714361345, 18446744073709551615, 18446744073709551615])).toArray) ∧ Below w.heap.size w w' := rwith_is _ _ (by decide) (all256 (by kernel_rfl))
theorem with_host (w : World) : Calls Tryd.prog 67 #[set4 9729 0 0 0, .string ⟨#[32, 35, 47, 58, 60, 62, 63, 64, 91, 92, 93, 94, 124]⟩] w fun e w' => e = .returned (set4 15276350712183793153 1152921506620112897 0 0) ∧ Below w.heap.size w w' := with_is (y0 := 15276350712183793153) (y1 := 1152921506620112897) (y2 := 0) (y3 := 0) _ _ wf_h0 wf_host (by decide) (all256 (by kernel_rfl))
theorem make_lo31 (w : World) : Calls Tryd.prog 38 #[.int .u8 0, .int .u8 31, .slice none 0 0] w fun e w' => e = .returned (set4 4294967295 0 0 0) ∧ Below w.heap.size w w' := make_nil_is 0 31 w (by omega) (by omega) (by omega) (by omega) wf_lo31 (all256 (by kernel_rfl))
theorem make_hi (w : World) : Calls Tryd.prog 38 #[.int .u8 127, .int .u8 255, .slice none 0 0] w fun e w' => e = .returned (set4 0 9223372036854775808 18446744073709551615 18446744073709551615) ∧ Below w.heap.size w w' := make_nil_is 127 255 w (by omega) (by omega) (by omega) (by omega) wf_hi (all256 (by kernel_rfl))
theorem make_h0 {g : Nat} {w : World} (hb : Blk w g 5 (nums .u8 [9, 10, 13]).toArray) : Calls Tryd.prog 38 #[.int .u8 0, .int .u8 0, .slice (some ⟨g, 0, none⟩) 3 3] w fun e w' => e = .returned (set4 9729 0 0 0) ∧ Below w.heap.size w w' := make_is 0 0 g 3 [9, 10, 13] w (by omega) (by omega) (by omega) (by omega) (by simp) (by simp) hb wf_h0 (all256 (by kernel_rfl))
theorem make_d31 {g : Nat} {w : World} (hb : Blk w g 5 (nums .u8 [37, 127]).toArray) : Calls Tryd.prog 38 #[.int .u8 0, .int .u8 31, .slice (some ⟨g, 0, none⟩) 2 2] w fun e w' => e = .returned (set4 141733920767 9223372036854775808 0 0) ∧ Below w.heap.size w w' := make_is 0 31 g 2 [37, 127] w (by omega) (by omega) (by omega) (by omega) (by simp) (by simp) hb wf_d31 (all256 (by kernel_rfl))
theorem union_control {g : Nat} {w : World} (hb : Blk w g 27 (nums .u64 [4294967295, 0, 0, 0, 0, 9223372036854775808, 18446744073709551615, 18446744073709551615]).toArray) : Calls Tryd.prog 37 #[.slice (some ⟨g, 0, none⟩) 2 2] w fun e w' => e = .returned (set4 4294967295 9223372036854775808 18446744073709551615 18446744073709551615) ∧ Below w.heap.size w w' := (union_two wf_lo31 wf_hi hb).mono fun _ _ h => such_is wf_control (all256 (by kernel_rfl)) h
theorem union_dom {g : Nat} {w : World} (hb : Blk w g 27 (nums .u64 [15276350712183793153, 1152921506620112897, 0, 0, 141733920767, 9223372036854775808, 0, 0]).toArray) : Calls Tryd.prog 37 #[.slice (some ⟨g, 0, none⟩) 2 2] w fun e w' => e = .returned (set4 15276350853917704191 10376293543474888705 0 0) ∧ Below w.heap.size w w' := (union_two wf_host wf_d31 hb).mono fun _ _ h => such_is wf_dom (all256 (by kernel_rfl)) h
theorem rwith_host (w : World) : Calls Tryd.prog 71 #[.agg (nums .u8 (bl [0, 0, 0, 0])).toArray, .string ⟨#[0, 9, 10, 13, 32, 35, 47, 58, 60, 62, 63, 64, 91, 92, 93, 94, 124]⟩] w fun e w' => e = .returned (.agg (nums .u8 (bl [15276350712183793153, 1152921506620112897, 0, 0])).toArray) ∧ Below w.heap.size w w' := rwith_is _ _ (by decide) (all256 (by kernel_rfl))
theorem rwith_dom (w : World) : Calls Tryd.prog 71 #[.agg (nums .u8 (bl [15276350716478750719, 1152921506620112897, 0, 0])).toArray, .string ⟨#[37, 127]⟩] w fun e w' => e = .returned (.agg (nums .u8 (bl [15276350853917704191, 10376293543474888705, 0, 0])).toArray) ∧ Below w.heap.size w w' := rwith_is _ _ (by decide) (all256 (by kernel_rfl))
theorem rfrom_lo31 (w : World) : Calls Tryd.prog 70 #[.agg (nums .u8 (bl [0, 0, 0, 0])).toArray, .int .i64 0, .int .i64 31] w fun e w' => e = .returned (.agg (nums .u8 (bl [4294967295, 0, 0, 0])).toArray) ∧ Below w.heap.size w w' := rfrom_is _ _ _ (by omega) (by omega) (by omega) (by omega) (all256 (by kernel_rfl))
theorem rfrom_control (w : World) : Calls Tryd.prog 70 #[.agg (nums .u8 (bl [4294967295, 0, 0, 0])).toArray, .int .i64 127, .int .i64 255] w fun e w' => e = .returned (.agg (nums .u8 (bl [4294967295, 9223372036854775808, 18446744073709551615, 18446744073709551615])).toArray) ∧ Below w.heap.size w w' := rfrom_is _ _ _ (by omega) (by omega) (by omega) (by omega) (all256 (by kernel_rfl))
theorem rfrom_h31 (w : World) : Calls Tryd.prog 70 #[.agg (nums .u8 (bl [15276350712183793153, 1152921506620112897, 0, 0])).toArray, .int .i64 0, .int .i64 31] w fun e w' => e = .returned (.agg (nums .u8 (bl [15276350716478750719, 1152921506620112897, 0, 0])).toArray) ∧ Below w.heap.size w w' := rfrom_is _ _ _ (by omega) (by omega) (by omega) (by omega) (all256 (by kernel_rfl))
theorem rfrom_lo31z (w : World) : Calls Tryd.prog 70 #[.agg (nums .u8 no256).toArray, .int .i64 0, .int .i64 31] w fun e w' => e = .returned (.agg (nums .u8 (bl [4294967295, 0, 0, 0])).toArray) ∧ Below w.heap.size w w' := by rw [no256_bl]; exact rfrom_lo31 w
theorem rwith_hostz (w : World) : Calls Tryd.prog 71 #[.agg (nums .u8 no256).toArray, .string ⟨#[0, 9, 10, 13, 32, 35, 47, 58, 60, 62, 63, 64, 91, 92, 93, 94, 124]⟩] w fun e w' => e = .returned (.agg (nums .u8 (bl [15276350712183793153, 1152921506620112897, 0, 0])).toArray) ∧ Below w.heap.size w w' := by rw [no256_bl]; exact rwith_host w
end Go.Proofs.YtfbgmlophkbejaaDoor

set_option linter.unusedVariables false
set_option linter.unusedSimpArgs false
namespace Go.Proofs.YtfbgmlophkbejaaDoor
open Go.RowKit Go.Proofs.YtfbgmlophkbejaaDoorW.PrintWords Go.Proofs.YtfbgmlophkbejaaDoorW.PrintLast
theorem wp_lits2 {ops : Array Oper} {oi : Oper} {a : Act} {w : World} {Q : Exit → Act → World → Prop} {rest : List Oper} {N : Option Tmp} (hgd : oi.guard = none) (hN : oi.dst = N) (u v : Operand) (ho : oi.op = .buildSlice 110 2 #[(0, u), (1, v)]) {x0 x1 x2 x3 y0 y1 y2 y3 : Int} (hu : a.eval u = set4 x0 x1 x2 x3) (hv : a.eval v = set4 y0 y1 y2 y3)
    (h : ∀ (g : Nat) (w1 : World), Blk w1 g 27 (nums .u64 [x0, x1, x2, x3, y0, y1, y2, y3]).toArray → Below w.heap.size w w1 → wpList Tryd.prog ops Q rest (a.put N (.slice (some ⟨g, 0, none⟩) 2 2)) w1) : wpList Tryd.prog ops Q (oi :: rest) a w := by
  obtain ⟨ie, h1, h2, h3⟩ := info_B
  subst hN
  refine wpList_buildSlice hgd 110 27 2 _ ho _ ie _ Tryd.underlying110 h1 h3 (by rw [h2]; omega) (by rw [h2]; omega) (by
    rw [h2]; simp only [List.map_toArray, List.map_cons, List.map_nil, hu, hv]; exact fill2 ..) (h _ _ (Blk.new _ _ _) (below_one _ _))
theorem info_u8b : (Tryd.prog.info? 5).map (fun i => (i.size, i.zero)) = some (1, some (.int .u8 0)) := by kernel_rfl
theorem fillu2 (x y : Int) : Instr.fill (fun i => some (i * 1, 1)) ((Array.range (2 * 1)).map ((Value.int .u8 0).cells[· % (Value.int .u8 0).cells.size]!)) [(0, .int .u8 x), (1, .int .u8 y)] = some (#[.int .u8 x, .int .u8 y] : Array Value) := by kernel_rfl
theorem litu2_ {ops : Array Oper} {oi : Oper} {a : Act} {w : World} {K : Act → World → Prop} {Q : Exit → Act → World → Prop} {N : Option Tmp} (hw : Region.wanted oi (yielded ops a.tmps) = true) (hN : oi.dst = N) (x y : Int) (ho : oi.op = .buildSlice 70 2 #[(0, .const (.int .u8 x)), (1, .const (.int .u8 y))])
    (h : ∀ (g : Nat) (w1 : World), Blk w1 g 5 (nums .u8 [x, y]).toArray → Below w.heap.size w w1 → K (a.put N (.slice (some ⟨g, 0, none⟩) 2 2)) w1) : if Region.wanted oi (yielded ops a.tmps) = true then Oper.wp Tryd.prog oi a w K Q else K (a.put N undef) w := by
  obtain ⟨ie, h1, h2⟩ := Option.map_eq_some_iff.1 info_u8b
  injection h2 with h3 h4
  refine lits_ hw hN 70 5 2 _ ho _ ie _ Tryd.underlying70 h1 h4 (by rw [h3]; omega) (by rw [h3]; omega) (by
    rw [h3]; simp only [List.map_toArray, List.map_cons, List.map_nil, Act.eval]; exact fillu2 ..) (fun g w1 _ hb hl => h g w1 hb hl)
set_option maxRecDepth 100000 in
set_option maxHeartbeats 20000000 in
theorem named_any (n : Int) (w : World) : Calls Tryd.prog 35 #[.int .i64 n] w fun e w' => e = .returned (.tuple #[set4 (rd (nW n) 0) (rd (nW n) 1) (rd (nW n) 2) (rd (nW n) 3), .int .i64 (nE n)]) ∧ Below w.heap.size w w' := by
  go_enter Tryd.func35, Tryd.ntmps35
  go_upto_region 1 with (fail)
  have b2 : Blk (w.alloc (.cells (arr4 0 0 0 0) 27)) w.heap.size 27 (arr4 0 0 0 0) := Blk.new _ _ _
  have hbel : Below w.heap.size w (w.alloc (.cells (arr4 0 0 0 0) 27)) := below_one _ _
  generalize w.alloc (.cells (arr4 0 0 0 0) 27) = w0 at *
  go_upto_region 2 with (first | (go_at_call 38; with_reducible refine (make_lo31 _).mono ?_; rintro e w1 ⟨rfl, hbc⟩; replace b2 := b2.after hbc; replace hbel := below_after hbel hbc; clear hbc) | (go_at_call 38; with_reducible refine (make_hi _).mono ?_; rintro e w2 ⟨rfl, hbc⟩; replace b2 := b2.after hbc; replace hbel := below_after hbel hbc; clear hbc) | (refine wp_lits2 rfl rfl _ _ rfl rfl rfl ?_; intro gL wL hbL hbc; replace b2 := b2.after hbc; replace hbel := below_after hbel hbc; clear hbc) | (go_at_call 37; refine (union_control hbL).mono ?_; rintro e w3 ⟨rfl, hbc⟩; clear hbL; replace b2 := b2.after hbc; replace hbel := below_after hbel hbc; clear hbc) | (refine wp_store_blk rfl 27 _ _ rfl rfl w3.heap.size (arr4 4294967295 9223372036854775808 18446744073709551615 18446744073709551615) rfl rfl 27 _ (Blk.new _ _ _) 4 size_B rfl rfl (nums_one .u64 [4294967295, 9223372036854775808, 18446744073709551615, 18446744073709551615]) ?_; intro wS b4 kS))
  have m2 := b2.lt
  have m0 := hbel.size
  replace b2 := (b2.alloc _).grown kS (by simp; omega)
  replace hbel := below_grown (below_alloc hbel _) kS (by omega)
  clear kS m2 m0
  generalize w3.heap.size = P4 at *
  go_upto_region 3 with (first | (refine wp_load_blk rfl 27 _ rfl P4 rfl 27 _ b4 _ Tryd.underlying27 rfl 4 size_B rfl ?_) | (go_at_call 67; with_reducible refine (with_query _).mono ?_; rintro e w3 ⟨rfl, hbc⟩; replace b2 := b2.after hbc; replace b4 := b4.after hbc; replace hbel := below_after hbel hbc; clear hbc) | (refine wp_store_blk rfl 27 _ _ rfl rfl w3.heap.size (arr4 5764607583163777023 9223372036854775808 18446744073709551615 18446744073709551615) rfl rfl 27 _ (Blk.new _ _ _) 4 size_B rfl rfl (nums_one .u64 [5764607583163777023, 9223372036854775808, 18446744073709551615, 18446744073709551615]) ?_; intro wS b5 kS))
  have m2 := b2.lt
  have m4 := b4.lt
  have m0 := hbel.size
  replace b2 := (b2.alloc _).grown kS (by simp; omega)
  replace b4 := (b4.alloc _).grown kS (by simp; omega)
  replace hbel := below_grown (below_alloc hbel _) kS (by omega)
  clear kS m2 m4 m0
  generalize w3.heap.size = P5 at *
  go_upto_region 4 with (first | (refine wp_load_blk rfl 27 _ rfl P5 rfl 27 _ b5 _ Tryd.underlying27 rfl 4 size_B rfl ?_) | (go_at_call 67; with_reducible refine (with_path _).mono ?_; rintro e w3 ⟨rfl, hbc⟩; replace b2 := b2.after hbc; replace b4 := b4.after hbc; replace b5 := b5.after hbc; replace hbel := below_after hbel hbc; clear hbc) | (refine wp_store_blk rfl 27 _ _ rfl rfl w3.heap.size (arr4 14987979620018552831 12105675803740602368 18446744073709551615 18446744073709551615) rfl rfl 27 _ (Blk.new _ _ _) 4 size_B rfl rfl (nums_one .u64 [14987979620018552831, 12105675803740602368, 18446744073709551615, 18446744073709551615]) ?_; intro wS b6 kS))
  have m2 := b2.lt
  have m4 := b4.lt
  have m5 := b5.lt
  have m0 := hbel.size
  replace b2 := (b2.alloc _).grown kS (by simp; omega)
  replace b4 := (b4.alloc _).grown kS (by simp; omega)
  replace b5 := (b5.alloc _).grown kS (by simp; omega)
  replace hbel := below_grown (below_alloc hbel _) kS (by omega)
  clear kS m2 m4 m5 m0
  generalize w3.heap.size = P6 at *
  go_upto_region 5 with (first | (refine wp_load_blk rfl 27 _ rfl P6 rfl 27 _ b6 _ Tryd.underlying27 rfl 4 size_B rfl ?_) | (go_at_call 67; with_reducible refine (with_user _).mono ?_; rintro e w3 ⟨rfl, hbc⟩; replace b2 := b2.after hbc; replace b4 := b4.after hbc; replace b5 := b5.after hbc; replace b6 := b6.after hbc; replace hbel := below_after hbel hbc; clear hbc) | (refine wp_store_blk rfl 27 _ _ rfl rfl w3.heap.size (arr4 18158654495175737343 13258597309286973441 18446744073709551615 18446744073709551615) rfl rfl 27 _ (Blk.new _ _ _) 4 size_B rfl rfl (nums_one .u64 [18158654495175737343, 13258597309286973441, 18446744073709551615, 18446744073709551615]) ?_; intro wS b7 kS))
  have m2 := b2.lt
  have m4 := b4.lt
  have m5 := b5.lt
  have m6 := b6.lt
  have m0 := hbel.size
  replace b2 := (b2.alloc _).grown kS (by simp; omega)
  replace b4 := (b4.alloc _).grown kS (by simp; omega)
  replace b5 := (b5.alloc _).grown kS (by simp; omega)
  replace b6 := (b6.alloc _).grown kS (by simp; omega)
  replace hbel := below_grown (below_alloc hbel _) kS (by omega)
  clear kS m2 m4 m5 m6 m0
  generalize w3.heap.size = P7 at *
  go_upto_region 6 with (first | (refine wp_load_blk rfl 27 _ rfl P7 rfl 27 _ b7 _ Tryd.underlying27 rfl 4 size_B rfl ?_) | (go_at_call 67; with_reducible refine (with_comp _).mono ?_; rintro e w3 ⟨rfl, hbc⟩; replace b2 := b2.after hbc; replace b4 := b4.after hbc; replace b5 := b5.after hbc; replace b6 := b6.after hbc; replace b7 := b7.after hbc; replace hbel := below_after hbel hbc; clear hbc) | (refine wp_store_blk rfl 27 _ _ rfl rfl w3.heap.size (arr4 18158681364491141119 13258597309286973441 18446744073709551615 18446744073709551615) rfl rfl 27 _ (Blk.new _ _ _) 4 size_B rfl rfl (nums_one .u64 [18158681364491141119, 13258597309286973441, 18446744073709551615, 18446744073709551615]) ?_; intro wS b8 kS))
  have m2 := b2.lt
  have m4 := b4.lt
  have m5 := b5.lt
  have m6 := b6.lt
  have m7 := b7.lt
  have m0 := hbel.size
  replace b2 := (b2.alloc _).grown kS (by simp; omega)
  replace b4 := (b4.alloc _).grown kS (by simp; omega)
  replace b5 := (b5.alloc _).grown kS (by simp; omega)
  replace b6 := (b6.alloc _).grown kS (by simp; omega)
  replace b7 := (b7.alloc _).grown kS (by simp; omega)
  replace hbel := below_grown (below_alloc hbel _) kS (by omega)
  clear kS m2 m4 m5 m6 m7 m0
  generalize w3.heap.size = P8 at *
  go_upto_region 7 with (first | (refine wpList_buildFlat rfl 70 5 3 _ rfl .u8 [9, 10, 13] Tryd.underlying70 (by kernel_rfl) (by kernel_rfl) rfl (by omega) (by omega) (by kernel_rfl) ?_) | (go_at_call 38; refine (make_h0 (Blk.new _ _ _)).mono ?_; rintro e w2 ⟨rfl, hbc⟩; replace b2 := (b2.alloc _).after hbc; replace b4 := (b4.alloc _).after hbc; replace b5 := (b5.alloc _).after hbc; replace b6 := (b6.alloc _).after hbc; replace b7 := (b7.alloc _).after hbc; replace b8 := (b8.alloc _).after hbc; replace hbel := below_after (below_alloc hbel _) hbc; clear hbc) | (go_at_call 67; with_reducible refine (with_host _).mono ?_; rintro e w3 ⟨rfl, hbc⟩; replace b2 := b2.after hbc; replace b4 := b4.after hbc; replace b5 := b5.after hbc; replace b6 := b6.after hbc; replace b7 := b7.after hbc; replace b8 := b8.after hbc; replace hbel := below_after hbel hbc; clear hbc) | (refine wp_store_blk rfl 27 _ _ rfl rfl w3.heap.size (arr4 15276350712183793153 1152921506620112897 0 0) rfl rfl 27 _ (Blk.new _ _ _) 4 size_B rfl rfl (nums_one .u64 [15276350712183793153, 1152921506620112897, 0, 0]) ?_; intro wS b9 kS))
  have m2 := b2.lt
  have m4 := b4.lt
  have m5 := b5.lt
  have m6 := b6.lt
  have m7 := b7.lt
  have m8 := b8.lt
  have m0 := hbel.size
  replace b2 := (b2.alloc _).grown kS (by simp; omega)
  replace b4 := (b4.alloc _).grown kS (by simp; omega)
  replace b5 := (b5.alloc _).grown kS (by simp; omega)
  replace b6 := (b6.alloc _).grown kS (by simp; omega)
  replace b7 := (b7.alloc _).grown kS (by simp; omega)
  replace b8 := (b8.alloc _).grown kS (by simp; omega)
  replace hbel := below_grown (below_alloc hbel _) kS (by omega)
  clear kS m2 m4 m5 m6 m7 m8 m0
  generalize w3.heap.size = P9 at *
  by_cases h1 : n = 1
  · subst h1
    go_wp2_with (first | (refine wp_load_blk rfl 27 _ rfl P4 rfl 27 _ b4 _ Tryd.underlying27 rfl 4 size_B rfl ?_) | (refine wp_store_blk rfl 27 _ _ rfl rfl w.heap.size (arr4 4294967295 9223372036854775808 18446744073709551615 18446744073709551615) rfl rfl 27 _ b2 4 size_B rfl rfl (nums_one .u64 [4294967295, 9223372036854775808, 18446744073709551615, 18446744073709551615]) ?_; intro wS bS kS))
    refine bodyPost_ret (ret_blk2 (ty := 27) rfl _ _ _ _ _ _ _ rfl rfl bS Tryd.underlying27 rfl 4 size_B rfl) rfl ?_
    exact ⟨rfl, below_grown hbel kS (Nat.le_refl _)⟩
  by_cases h2 : n = 2
  · subst h2
    go_wp2_with (first | (refine wp_load_blk rfl 27 _ rfl P4 rfl 27 _ b4 _ Tryd.underlying27 rfl 4 size_B rfl ?_) | (go_at_call 67; with_reducible refine (with_frag _).mono ?_; rintro e wq ⟨rfl, hbc⟩; replace b2 := b2.after hbc; replace b4 := b4.after hbc; replace b5 := b5.after hbc; replace b6 := b6.after hbc; replace b7 := b7.after hbc; replace b8 := b8.after hbc; replace b9 := b9.after hbc; replace hbel := below_after hbel hbc; clear hbc) | (refine wp_store_blk rfl 27 _ _ rfl rfl w.heap.size (arr4 5764607548804038655 9223372041149743104 18446744073709551615 18446744073709551615) rfl rfl 27 _ b2 4 size_B rfl rfl (nums_one .u64 [5764607548804038655, 9223372041149743104, 18446744073709551615, 18446744073709551615]) ?_; intro wS bS kS))
    refine bodyPost_ret (ret_blk2 (ty := 27) rfl _ _ _ _ _ _ _ rfl rfl bS Tryd.underlying27 rfl 4 size_B rfl) rfl ?_
    exact ⟨rfl, below_grown hbel kS (Nat.le_refl _)⟩
  by_cases h3 : n = 3
  · subst h3
    go_wp2_with (first | (refine wp_load_blk rfl 27 _ rfl P5 rfl 27 _ b5 _ Tryd.underlying27 rfl 4 size_B rfl ?_) | (refine wp_store_blk rfl 27 _ _ rfl rfl w.heap.size (arr4 5764607583163777023 9223372036854775808 18446744073709551615 18446744073709551615) rfl rfl 27 _ b2 4 size_B rfl rfl (nums_one .u64 [5764607583163777023, 9223372036854775808, 18446744073709551615, 18446744073709551615]) ?_; intro wS bS kS))
    refine bodyPost_ret (ret_blk2 (ty := 27) rfl _ _ _ _ _ _ _ rfl rfl bS Tryd.underlying27 rfl 4 size_B rfl) rfl ?_
    exact ⟨rfl, below_grown hbel kS (Nat.le_refl _)⟩
  by_cases h4 : n = 4
  · subst h4
    go_wp2_with (first | (refine wp_load_blk rfl 27 _ rfl P5 rfl 27 _ b5 _ Tryd.underlying27 rfl 4 size_B rfl ?_) | (go_at_call 67; with_reducible refine (with_squery _).mono ?_; rintro e wq ⟨rfl, hbc⟩; replace b2 := b2.after hbc; replace b4 := b4.after hbc; replace b5 := b5.after hbc; replace b6 := b6.after hbc; replace b7 := b7.after hbc; replace b8 := b8.after hbc; replace b9 := b9.after hbc; replace hbel := below_after hbel hbc; clear hbc) | (refine wp_store_blk rfl 27 _ _ rfl rfl w.heap.size (arr4 5764608132919590911 9223372036854775808 18446744073709551615 18446744073709551615) rfl rfl 27 _ b2 4 size_B rfl rfl (nums_one .u64 [5764608132919590911, 9223372036854775808, 18446744073709551615, 18446744073709551615]) ?_; intro wS bS kS))
    refine bodyPost_ret (ret_blk2 (ty := 27) rfl _ _ _ _ _ _ _ rfl rfl bS Tryd.underlying27 rfl 4 size_B rfl) rfl ?_
    exact ⟨rfl, below_grown hbel kS (Nat.le_refl _)⟩
  by_cases h5 : n = 5
  · subst h5
    go_wp2_with (first | (refine wp_load_blk rfl 27 _ rfl P6 rfl 27 _ b6 _ Tryd.underlying27 rfl 4 size_B rfl ?_) | (refine wp_store_blk rfl 27 _ _ rfl rfl w.heap.size (arr4 14987979620018552831 12105675803740602368 18446744073709551615 18446744073709551615) rfl rfl 27 _ b2 4 size_B rfl rfl (nums_one .u64 [14987979620018552831, 12105675803740602368, 18446744073709551615, 18446744073709551615]) ?_; intro wS bS kS))
    refine bodyPost_ret (ret_blk2 (ty := 27) rfl _ _ _ _ _ _ _ rfl rfl bS Tryd.underlying27 rfl 4 size_B rfl) rfl ?_
    exact ⟨rfl, below_grown hbel kS (Nat.le_refl _)⟩
  by_cases h6 : n = 6
  · subst h6
    go_wp2_with (first | (refine wp_load_blk rfl 27 _ rfl P7 rfl 27 _ b7 _ Tryd.underlying27 rfl 4 size_B rfl ?_) | (refine wp_store_blk rfl 27 _ _ rfl rfl w.heap.size (arr4 18158654495175737343 13258597309286973441 18446744073709551615 18446744073709551615) rfl rfl 27 _ b2 4 size_B rfl rfl (nums_one .u64 [18158654495175737343, 13258597309286973441, 18446744073709551615, 18446744073709551615]) ?_; intro wS bS kS))
    refine bodyPost_ret (ret_blk2 (ty := 27) rfl _ _ _ _ _ _ _ rfl rfl bS Tryd.underlying27 rfl 4 size_B rfl) rfl ?_
    exact ⟨rfl, below_grown hbel kS (Nat.le_refl _)⟩
  by_cases h7 : n = 7
  · subst h7
    go_wp2_with (first | (refine wp_load_blk rfl 27 _ rfl P8 rfl 27 _ b8 _ Tryd.underlying27 rfl 4 size_B rfl ?_) | (refine wp_store_blk rfl 27 _ _ rfl rfl w.heap.size (arr4 18158681364491141119 13258597309286973441 18446744073709551615 18446744073709551615) rfl rfl 27 _ b2 4 size_B rfl rfl (nums_one .u64 [18158681364491141119, 13258597309286973441, 18446744073709551615, 18446744073709551615]) ?_; intro wS bS kS))
    refine bodyPost_ret (ret_blk2 (ty := 27) rfl _ _ _ _ _ _ _ rfl rfl bS Tryd.underlying27 rfl 4 size_B rfl) rfl ?_
    exact ⟨rfl, below_grown hbel kS (Nat.le_refl _)⟩
  by_cases h8 : n = 8
  · subst h8
    go_wp2_with (first | (refine wp_load_blk rfl 27 _ rfl P8 rfl 27 _ b8 _ Tryd.underlying27 rfl 4 size_B rfl ?_) | (go_at_call 67; with_reducible refine (with_form _).mono ?_; rintro e wq ⟨rfl, hbc⟩; replace b2 := b2.after hbc; replace b4 := b4.after hbc; replace b5 := b5.after hbc; replace b6 := b6.after hbc; replace b7 := b7.after hbc; replace b8 := b8.after hbc; replace b9 := b9.after hbc; replace hbel := below_after hbel hbc; clear hbc) | (refine wp_store_blk rfl 27 _ _ rfl rfl w.heap.size (arr4 18158685221371772927 17870283327714361345 18446744073709551615 18446744073709551615) rfl rfl 27 _ b2 4 size_B rfl rfl (nums_one .u64 [18158685221371772927, 17870283327714361345, 18446744073709551615, 18446744073709551615]) ?_; intro wS bS kS))
    refine bodyPost_ret (ret_blk2 (ty := 27) rfl _ _ _ _ _ _ _ rfl rfl bS Tryd.underlying27 rfl 4 size_B rfl) rfl ?_
    exact ⟨rfl, below_grown hbel kS (Nat.le_refl _)⟩
  by_cases h9 : n = 9
  · subst h9
    go_wp2_with (first | (refine wp_load_blk rfl 27 _ rfl P9 rfl 27 _ b9 _ Tryd.underlying27 rfl 4 size_B rfl ?_) | (refine wp_store_blk rfl 27 _ _ rfl rfl w.heap.size (arr4 15276350712183793153 1152921506620112897 0 0) rfl rfl 27 _ b2 4 size_B rfl rfl (nums_one .u64 [15276350712183793153, 1152921506620112897, 0, 0]) ?_; intro wS bS kS))
    refine bodyPost_ret (ret_blk2 (ty := 27) rfl _ _ _ _ _ _ _ rfl rfl bS Tryd.underlying27 rfl 4 size_B rfl) rfl ?_
    exact ⟨rfl, below_grown hbel kS (Nat.le_refl _)⟩
  by_cases h10 : n = 10
  · subst h10
    go_upto_region 27 with (fail)
    have hst : ∀ w1 w2 : World, (Below w.heap.size w w1 ∧ Blk w1 w.heap.size 27 (arr4 0 0 0 0) ∧ Blk w1 P9 27 (arr4 15276350712183793153 1152921506620112897 0 0)) → Below w1.heap.size w1 w2 → (Below w.heap.size w w2 ∧ Blk w2 w.heap.size 27 (arr4 0 0 0 0) ∧ Blk w2 P9 27 (arr4 15276350712183793153 1152921506620112897 0 0)) := fun _ _ ⟨h1, h2, h3⟩ h => ⟨below_after h1 h, h2.after h, h3.after h⟩
    refine start_ (n := 7) (S := (fun w' => Below w.heap.size w w' ∧ Blk w' w.heap.size 27 (arr4 0 0 0 0) ∧ Blk w' P9 27 (arr4 15276350712183793153 1152921506620112897 0 0))) (ds := [5]) #[false, false, false, false, false, false, false] (by kernel_rfl) rfl rfl ⟨hbel.drew, b2.drew, b9.drew⟩ (fun hHeld => ?_)
    refine take_ (i := 0) (N := some 58) (v := ?_) (a' := ?_) #[true, false, false, false, false, false, false] rfl rfl (by kernel_rfl) (fun _ _ _ h => h) (Or.inl ⟨by rfl, ?_⟩) hHeld ?_ ?_
    rotate_left
    · rintro w' ⟨s1, s2, s3⟩
      refine exec_load_blk 27 (.tmp 9) ?_ P9 ?_ 27 s3 _ Tryd.underlying27 rfl 4 size_B rfl
      · rfl
      · rfl
    rotate_left
    · simp only [Act.put, List.setIfInBounds_toArray, List.set_cons_zero, List.set_cons_succ, i64_w, i32_w]
      rfl
    refine one_ (i := 1) (N := some 59) #[true, true, false, false, false, false, false] rfl rfl (by kernel_rfl) (by decide) (fun K hK => ?_)
    refine litu2_ (by rfl) rfl 37 127 rfl ?_
    intro G1 W1 B1 hbc
    refine hK.out _ _ (hst _ _ hHeld hbc) (fun hHeld => ?_)
    clear hK K
    refine norm_ (a' := ?_) ?_ ?_
    rotate_left
    · show Act.put _ (some 59) _ = _
      simp only [Act.put, List.setIfInBounds_toArray, List.set_cons_zero, List.set_cons_succ, i64_w, i32_w]
      rfl
    refine one_ (i := 2) (N := some 60) #[true, true, true, false, false, false, false] rfl rfl (by kernel_rfl) (by decide) (fun K hK => ?_)
    refine goes_ Tryd.func38 (by kernel_rfl) rfl #[.int .u8 0, .int .u8 31, .slice (some ⟨G1, 0, none⟩) 2 2] (by rfl) rfl rfl (by first | rfl | (simp only [List.map_toArray, List.map_cons, List.map_nil]; done) | (simp only [List.map_toArray, List.map_cons, List.map_nil]; rfl)) ?_
    refine (make_d31 B1).mono ?_
    rintro _ wq ⟨rfl, hbc⟩
    refine ⟨_, rfl, ?_⟩
    clear B1
    refine hK.out _ _ (hst _ _ hHeld hbc) (fun hHeld => ?_)
    clear hK K
    refine norm_ (a' := ?_) ?_ ?_
    rotate_left
    · show Act.put _ (some 60) _ = _
      simp only [Act.put, List.setIfInBounds_toArray, List.set_cons_zero, List.set_cons_succ, i64_w, i32_w]
      rfl
    refine one_ (i := 3) (N := some 61) #[true, true, true, true, false, false, false] rfl rfl (by kernel_rfl) (by decide) (fun K hK => ?_)
    refine lits2_ (by rfl) rfl _ _ rfl rfl rfl ?_
    intro G3 W3 B3 hbc
    refine hK.out _ _ (hst _ _ hHeld hbc) (fun hHeld => ?_)
    clear hK K
    refine norm_ (a' := ?_) ?_ ?_
    rotate_left
    · show Act.put _ (some 61) _ = _
      simp only [Act.put, List.setIfInBounds_toArray, List.set_cons_zero, List.set_cons_succ, i64_w, i32_w]
      rfl
    refine one_ (i := 4) (N := some 62) #[true, true, true, true, true, false, false] rfl rfl (by kernel_rfl) (by decide) (fun K hK => ?_)
    refine goes_ Tryd.func37 (by kernel_rfl) rfl #[.slice (some ⟨G3, 0, none⟩) 2 2] (by rfl) rfl rfl (by first | rfl | (simp only [List.map_toArray, List.map_cons, List.map_nil]; done) | (simp only [List.map_toArray, List.map_cons, List.map_nil]; rfl)) ?_
    refine (union_dom B3).mono ?_
    rintro _ wq ⟨rfl, hbc⟩
    refine ⟨_, rfl, ?_⟩
    clear B3
    refine hK.out _ _ (hst _ _ hHeld hbc) (fun hHeld => ?_)
    clear hK K
    refine norm_ (a' := ?_) ?_ ?_
    rotate_left
    · show Act.put _ (some 62) _ = _
      simp only [Act.put, List.setIfInBounds_toArray, List.set_cons_zero, List.set_cons_succ, i64_w, i32_w]
      rfl
    refine last_ (i := 5) (N := none) #[true, true, true, true, true, true, false] rfl rfl (by kernel_rfl) (by decide) (fun K hK => ?_)
    refine store_ (by rfl) rfl 27 _ _ rfl w.heap.size (arr4 15276350853917704191 10376293543474888705 0 0) rfl rfl 27 _ hHeld.2.1 4 size_B rfl rfl (nums_one .u64 [15276350853917704191, 10376293543474888705, 0, 0]) ?_
    intro wS bS kS
    refine hK.out _ _ ?_
    clear hK K
    refine pure_ (i := 6) (N := some 3) (v := ?_) (a' := ?_) #[true, true, true, true, true, true, true] rfl rfl (by kernel_rfl) (fun _ _ _ h => h) (Or.inl ⟨by rfl, ?_⟩) ?_ ?_
    rotate_left
    · intro w'
      go_simp
      with_reducible rfl
    rotate_left
    · simp only [Act.put, List.setIfInBounds_toArray, List.set_cons_zero, List.set_cons_succ, i64_w, i32_w]
      rfl
    refine done_ (by kernel_rfl) ?_
    go_wp2
    refine bodyPost_ret (ret_blk2 (ty := 27) rfl _ _ _ _ _ _ _ rfl rfl bS Tryd.underlying27 rfl 4 size_B rfl) rfl ?_
    exact ⟨rfl, below_grown hHeld.1 kS (Nat.le_refl _)⟩
  go_wp2_with (first | (refine wp_store_blk rfl 27 _ _ rfl rfl w.heap.size (arr4 0 0 0 0) rfl rfl 27 _ b2 4 size_B rfl rfl (nums_one .u64 [0, 0, 0, 0]) ?_; intro wS bS kS))
  refine bodyPost_ret (ret_blk2 (ty := 27) rfl _ _ _ _ _ _ _ rfl rfl bS Tryd.underlying27 rfl 4 size_B rfl) rfl ?_
  have e1 : nW n = [0, 0, 0, 0] := by simp [nW, h1, h2, h3, h4, h5, h6, h7, h8, h9, h10]
  have e2 : nE n = 10 := by unfold nE; rw [if_neg (by omega)]
  rw [e1, e2]
  exact ⟨rfl, below_grown hbel kS (Nat.le_refl _)⟩
end Go.Proofs.YtfbgmlophkbejaaDoor

set_option linter.unusedVariables false
set_option linter.unusedSimpArgs false
namespace Go.Proofs.YtfbgmlophkbejaaDoor
open Go.RowKit Go.Proofs.YtfbgmlophkbejaaDoorW.PrintWords Go.Proofs.YtfbgmlophkbejaaDoorW.PrintLast
set_option maxRecDepth 100000 in
set_option maxHeartbeats 20000000 in
theorem rnamed_any (n : Int) (w : World) : Calls Tryd.prog 40 #[.int .i64 n] w fun e w' => e = .returned (.tuple #[.agg (nums .u8 (bl (nW n))).toArray, .int .i64 (nE n)]) ∧ Below w.heap.size w w' := by
  have hz := zero_S
  go_enter Tryd.func40, Tryd.ntmps40
  go_upto_region 1 with (fail)
  have b2 : Blk (w.alloc (.cells (nums .u8 no256).toArray 66)) w.heap.size 66 (nums .u8 no256).toArray := Blk.new _ _ _
  have hbel : Below w.heap.size w (w.alloc (.cells (nums .u8 no256).toArray 66)) := below_one _ _
  generalize w.alloc (.cells (nums .u8 no256).toArray 66) = w0 at *
  go_upto_region 2 with (first | (refine wp_build_nil rfl 66 rfl 10 rfl _ built_S ?_) | (go_at_call 70; with_reducible refine (rfrom_lo31z _).mono ?_; rintro e w1 ⟨rfl, hbc⟩; replace b2 := b2.after hbc; replace hbel := below_after hbel hbc; clear hbc) | (go_at_call 70; with_reducible refine (rfrom_control _).mono ?_; rintro e w3 ⟨rfl, hbc⟩; replace b2 := b2.after hbc; replace hbel := below_after hbel hbc; clear hbc) | (refine wp_store_blk rfl 66 _ _ rfl rfl w3.heap.size (nums .u8 (bl [4294967295, 9223372036854775808, 18446744073709551615, 18446744073709551615])).toArray rfl rfl 66 _ (Blk.new _ _ _) 256 size_S (by rw [nums_size, bl_len]) rfl (nums_one _ _) ?_; intro wS b4 kS))
  have m2 := b2.lt
  have m0 := hbel.size
  replace b2 := (b2.alloc _).grown kS (by simp; omega)
  replace hbel := below_grown (below_alloc hbel _) kS (by omega)
  clear kS m2 m0
  generalize w3.heap.size = P4 at *
  go_upto_region 3 with (first | (refine wp_load_blk rfl 66 _ rfl P4 rfl 66 _ b4 _ Tryd.underlying66 rfl 256 size_S (by rw [nums_size, bl_len]) ?_) | (go_at_call 71; with_reducible refine (rwith_query _).mono ?_; rintro e w3 ⟨rfl, hbc⟩; replace b2 := b2.after hbc; replace b4 := b4.after hbc; replace hbel := below_after hbel hbc; clear hbc) | (refine wp_store_blk rfl 66 _ _ rfl rfl w3.heap.size (nums .u8 (bl [5764607583163777023, 9223372036854775808, 18446744073709551615, 18446744073709551615])).toArray rfl rfl 66 _ (Blk.new _ _ _) 256 size_S (by rw [nums_size, bl_len]) rfl (nums_one _ _) ?_; intro wS b5 kS))
  have m2 := b2.lt
  have m4 := b4.lt
  have m0 := hbel.size
  replace b2 := (b2.alloc _).grown kS (by simp; omega)
  replace b4 := (b4.alloc _).grown kS (by simp; omega)
  replace hbel := below_grown (below_alloc hbel _) kS (by omega)
  clear kS m2 m4 m0
  generalize w3.heap.size = P5 at *
  go_upto_region 4 with (first | (refine wp_load_blk rfl 66 _ rfl P5 rfl 66 _ b5 _ Tryd.underlying66 rfl 256 size_S (by rw [nums_size, bl_len]) ?_) | (go_at_call 71; with_reducible refine (rwith_path _).mono ?_; rintro e w3 ⟨rfl, hbc⟩; replace b2 := b2.after hbc; replace b4 := b4.after hbc; replace b5 := b5.after hbc; replace hbel := below_after hbel hbc; clear hbc) | (refine wp_store_blk rfl 66 _ _ rfl rfl w3.heap.size (nums .u8 (bl [14987979620018552831, 12105675803740602368, 18446744073709551615, 18446744073709551615])).toArray rfl rfl 66 _ (Blk.new _ _ _) 256 size_S (by rw [nums_size, bl_len]) rfl (nums_one _ _) ?_; intro wS b6 kS))
  have m2 := b2.lt
  have m4 := b4.lt
  have m5 := b5.lt
  have m0 := hbel.size
  replace b2 := (b2.alloc _).grown kS (by simp; omega)
  replace b4 := (b4.alloc _).grown kS (by simp; omega)
  replace b5 := (b5.alloc _).grown kS (by simp; omega)
  replace hbel := below_grown (below_alloc hbel _) kS (by omega)
  clear kS m2 m4 m5 m0
  generalize w3.heap.size = P6 at *
  go_upto_region 5 with (first | (refine wp_load_blk rfl 66 _ rfl P6 rfl 66 _ b6 _ Tryd.underlying66 rfl 256 size_S (by rw [nums_size, bl_len]) ?_) | (go_at_call 71; with_reducible refine (rwith_user _).mono ?_; rintro e w3 ⟨rfl, hbc⟩; replace b2 := b2.after hbc; replace b4 := b4.after hbc; replace b5 := b5.after hbc; replace b6 := b6.after hbc; replace hbel := below_after hbel hbc; clear hbc) | (refine wp_store_blk rfl 66 _ _ rfl rfl w3.heap.size (nums .u8 (bl [18158654495175737343, 13258597309286973441, 18446744073709551615, 18446744073709551615])).toArray rfl rfl 66 _ (Blk.new _ _ _) 256 size_S (by rw [nums_size, bl_len]) rfl (nums_one _ _) ?_; intro wS b7 kS))
  have m2 := b2.lt
  have m4 := b4.lt
  have m5 := b5.lt
  have m6 := b6.lt
  have m0 := hbel.size
  replace b2 := (b2.alloc _).grown kS (by simp; omega)
  replace b4 := (b4.alloc _).grown kS (by simp; omega)
  replace b5 := (b5.alloc _).grown kS (by simp; omega)
  replace b6 := (b6.alloc _).grown kS (by simp; omega)
  replace hbel := below_grown (below_alloc hbel _) kS (by omega)
  clear kS m2 m4 m5 m6 m0
  generalize w3.heap.size = P7 at *
  go_upto_region 6 with (first | (refine wp_load_blk rfl 66 _ rfl P7 rfl 66 _ b7 _ Tryd.underlying66 rfl 256 size_S (by rw [nums_size, bl_len]) ?_) | (go_at_call 71; with_reducible refine (rwith_comp _).mono ?_; rintro e w3 ⟨rfl, hbc⟩; replace b2 := b2.after hbc; replace b4 := b4.after hbc; replace b5 := b5.after hbc; replace b6 := b6.after hbc; replace b7 := b7.after hbc; replace hbel := below_after hbel hbc; clear hbc) | (refine wp_store_blk rfl 66 _ _ rfl rfl w3.heap.size (nums .u8 (bl [18158681364491141119, 13258597309286973441, 18446744073709551615, 18446744073709551615])).toArray rfl rfl 66 _ (Blk.new _ _ _) 256 size_S (by rw [nums_size, bl_len]) rfl (nums_one _ _) ?_; intro wS b8 kS))
  have m2 := b2.lt
  have m4 := b4.lt
  have m5 := b5.lt
  have m6 := b6.lt
  have m7 := b7.lt
  have m0 := hbel.size
  replace b2 := (b2.alloc _).grown kS (by simp; omega)
  replace b4 := (b4.alloc _).grown kS (by simp; omega)
  replace b5 := (b5.alloc _).grown kS (by simp; omega)
  replace b6 := (b6.alloc _).grown kS (by simp; omega)
  replace b7 := (b7.alloc _).grown kS (by simp; omega)
  replace hbel := below_grown (below_alloc hbel _) kS (by omega)
  clear kS m2 m4 m5 m6 m7 m0
  generalize w3.heap.size = P8 at *
  go_upto_region 7 with (first | (refine wp_build_nil rfl 66 rfl 21 rfl _ built_S ?_) | (go_at_call 71; with_reducible refine (rwith_hostz _).mono ?_; rintro e w3 ⟨rfl, hbc⟩; replace b2 := b2.after hbc; replace b4 := b4.after hbc; replace b5 := b5.after hbc; replace b6 := b6.after hbc; replace b7 := b7.after hbc; replace b8 := b8.after hbc; replace hbel := below_after hbel hbc; clear hbc) | (refine wp_store_blk rfl 66 _ _ rfl rfl w3.heap.size (nums .u8 (bl [15276350712183793153, 1152921506620112897, 0, 0])).toArray rfl rfl 66 _ (Blk.new _ _ _) 256 size_S (by rw [nums_size, bl_len]) rfl (nums_one _ _) ?_; intro wS b9 kS))
  have m2 := b2.lt
  have m4 := b4.lt
  have m5 := b5.lt
  have m6 := b6.lt
  have m7 := b7.lt
  have m8 := b8.lt
  have m0 := hbel.size
  replace b2 := (b2.alloc _).grown kS (by simp; omega)
  replace b4 := (b4.alloc _).grown kS (by simp; omega)
  replace b5 := (b5.alloc _).grown kS (by simp; omega)
  replace b6 := (b6.alloc _).grown kS (by simp; omega)
  replace b7 := (b7.alloc _).grown kS (by simp; omega)
  replace b8 := (b8.alloc _).grown kS (by simp; omega)
  replace hbel := below_grown (below_alloc hbel _) kS (by omega)
  clear kS m2 m4 m5 m6 m7 m8 m0
  generalize w3.heap.size = P9 at *
  clear hz
  by_cases h1 : n = 1
  · subst h1
    go_wp2_with (first | (refine wp_load_blk rfl 66 _ rfl P4 rfl 66 _ b4 _ Tryd.underlying66 rfl 256 size_S (by rw [nums_size, bl_len]) ?_) | (refine wp_store_blk rfl 66 _ _ rfl rfl w.heap.size (nums .u8 (bl [4294967295, 9223372036854775808, 18446744073709551615, 18446744073709551615])).toArray rfl rfl 66 _ b2 256 size_S (by rw [nums_size, bl_len]) rfl (nums_one _ _) ?_; intro wS bS kS))
    refine bodyPost_ret (ret_blk2 (ty := 66) rfl _ _ _ _ _ _ _ rfl rfl bS Tryd.underlying66 rfl 256 size_S (by rw [nums_size, bl_len])) rfl ?_
    exact ⟨rfl, below_grown hbel kS (Nat.le_refl _)⟩
  by_cases h2 : n = 2
  · subst h2
    go_wp2_with (first | (refine wp_load_blk rfl 66 _ rfl P4 rfl 66 _ b4 _ Tryd.underlying66 rfl 256 size_S (by rw [nums_size, bl_len]) ?_) | (go_at_call 71; with_reducible refine (rwith_frag _).mono ?_; rintro e wq ⟨rfl, hbc⟩; replace b2 := b2.after hbc; replace b4 := b4.after hbc; replace b5 := b5.after hbc; replace b6 := b6.after hbc; replace b7 := b7.after hbc; replace b8 := b8.after hbc; replace b9 := b9.after hbc; replace hbel := below_after hbel hbc; clear hbc) | (refine wp_store_blk rfl 66 _ _ rfl rfl w.heap.size (nums .u8 (bl [5764607548804038655, 9223372041149743104, 18446744073709551615, 18446744073709551615])).toArray rfl rfl 66 _ b2 256 size_S (by rw [nums_size, bl_len]) rfl (nums_one _ _) ?_; intro wS bS kS))
    refine bodyPost_ret (ret_blk2 (ty := 66) rfl _ _ _ _ _ _ _ rfl rfl bS Tryd.underlying66 rfl 256 size_S (by rw [nums_size, bl_len])) rfl ?_
    exact ⟨rfl, below_grown hbel kS (Nat.le_refl _)⟩
  by_cases h3 : n = 3
  · subst h3
    go_wp2_with (first | (refine wp_load_blk rfl 66 _ rfl P5 rfl 66 _ b5 _ Tryd.underlying66 rfl 256 size_S (by rw [nums_size, bl_len]) ?_) | (refine wp_store_blk rfl 66 _ _ rfl rfl w.heap.size (nums .u8 (bl [5764607583163777023, 9223372036854775808, 18446744073709551615, 18446744073709551615])).toArray rfl rfl 66 _ b2 256 size_S (by rw [nums_size, bl_len]) rfl (nums_one _ _) ?_; intro wS bS kS))
    refine bodyPost_ret (ret_blk2 (ty := 66) rfl _ _ _ _ _ _ _ rfl rfl bS Tryd.underlying66 rfl 256 size_S (by rw [nums_size, bl_len])) rfl ?_
    exact ⟨rfl, below_grown hbel kS (Nat.le_refl _)⟩
  by_cases h4 : n = 4
  · subst h4
    go_wp2_with (first | (refine wp_load_blk rfl 66 _ rfl P5 rfl 66 _ b5 _ Tryd.underlying66 rfl 256 size_S (by rw [nums_size, bl_len]) ?_) | (go_at_call 71; with_reducible refine (rwith_squery _).mono ?_; rintro e wq ⟨rfl, hbc⟩; replace b2 := b2.after hbc; replace b4 := b4.after hbc; replace b5 := b5.after hbc; replace b6 := b6.after hbc; replace b7 := b7.after hbc; replace b8 := b8.after hbc; replace b9 := b9.after hbc; replace hbel := below_after hbel hbc; clear hbc) | (refine wp_store_blk rfl 66 _ _ rfl rfl w.heap.size (nums .u8 (bl [5764608132919590911, 9223372036854775808, 18446744073709551615, 18446744073709551615])).toArray rfl rfl 66 _ b2 256 size_S (by rw [nums_size, bl_len]) rfl (nums_one _ _) ?_; intro wS bS kS))
    refine bodyPost_ret (ret_blk2 (ty := 66) rfl _ _ _ _ _ _ _ rfl rfl bS Tryd.underlying66 rfl 256 size_S (by rw [nums_size, bl_len])) rfl ?_
    exact ⟨rfl, below_grown hbel kS (Nat.le_refl _)⟩
  by_cases h5 : n = 5
  · subst h5
    go_wp2_with (first | (refine wp_load_blk rfl 66 _ rfl P6 rfl 66 _ b6 _ Tryd.underlying66 rfl 256 size_S (by rw [nums_size, bl_len]) ?_) | (refine wp_store_blk rfl 66 _ _ rfl rfl w.heap.size (nums .u8 (bl [14987979620018552831, 12105675803740602368, 18446744073709551615, 18446744073709551615])).toArray rfl rfl 66 _ b2 256 size_S (by rw [nums_size, bl_len]) rfl (nums_one _ _) ?_; intro wS bS kS))
    refine bodyPost_ret (ret_blk2 (ty := 66) rfl _ _ _ _ _ _ _ rfl rfl bS Tryd.underlying66 rfl 256 size_S (by rw [nums_size, bl_len])) rfl ?_
    exact ⟨rfl, below_grown hbel kS (Nat.le_refl _)⟩
  by_cases h6 : n = 6
  · subst h6
    go_wp2_with (first | (refine wp_load_blk rfl 66 _ rfl P7 rfl 66 _ b7 _ Tryd.underlying66 rfl 256 size_S (by rw [nums_size, bl_len]) ?_) | (refine wp_store_blk rfl 66 _ _ rfl rfl w.heap.size (nums .u8 (bl [18158654495175737343, 13258597309286973441, 18446744073709551615, 18446744073709551615])).toArray rfl rfl 66 _ b2 256 size_S (by rw [nums_size, bl_len]) rfl (nums_one _ _) ?_; intro wS bS kS))
    refine bodyPost_ret (ret_blk2 (ty := 66) rfl _ _ _ _ _ _ _ rfl rfl bS Tryd.underlying66 rfl 256 size_S (by rw [nums_size, bl_len])) rfl ?_
    exact ⟨rfl, below_grown hbel kS (Nat.le_refl _)⟩
  by_cases h7 : n = 7
  · subst h7
    go_wp2_with (first | (refine wp_load_blk rfl 66 _ rfl P8 rfl 66 _ b8 _ Tryd.underlying66 rfl 256 size_S (by rw [nums_size, bl_len]) ?_) | (refine wp_store_blk rfl 66 _ _ rfl rfl w.heap.size (nums .u8 (bl [18158681364491141119, 13258597309286973441, 18446744073709551615, 18446744073709551615])).toArray rfl rfl 66 _ b2 256 size_S (by rw [nums_size, bl_len]) rfl (nums_one _ _) ?_; intro wS bS kS))
    refine bodyPost_ret (ret_blk2 (ty := 66) rfl _ _ _ _ _ _ _ rfl rfl bS Tryd.underlying66 rfl 256 size_S (by rw [nums_size, bl_len])) rfl ?_
    exact ⟨rfl, below_grown hbel kS (Nat.le_refl _)⟩
  by_cases h8 : n = 8
  · subst h8
    go_wp2_with (first | (refine wp_load_blk rfl 66 _ rfl P8 rfl 66 _ b8 _ Tryd.underlying66 rfl 256 size_S (by rw [nums_size, bl_len]) ?_) | (go_at_call 71; with_reducible refine (rwith_form _).mono ?_; rintro e wq ⟨rfl, hbc⟩; replace b2 := b2.after hbc; replace b4 := b4.after hbc; replace b5 := b5.after hbc; replace b6 := b6.after hbc; replace b7 := b7.after hbc; replace b8 := b8.after hbc; replace b9 := b9.after hbc; replace hbel := below_after hbel hbc; clear hbc) | (refine wp_store_blk rfl 66 _ _ rfl rfl w.heap.size (nums .u8 (bl [18158685221371772927, 17870283327714361345, 18446744073709551615, 18446744073709551615])).toArray rfl rfl 66 _ b2 256 size_S (by rw [nums_size, bl_len]) rfl (nums_one _ _) ?_; intro wS bS kS))
    refine bodyPost_ret (ret_blk2 (ty := 66) rfl _ _ _ _ _ _ _ rfl rfl bS Tryd.underlying66 rfl 256 size_S (by rw [nums_size, bl_len])) rfl ?_
    exact ⟨rfl, below_grown hbel kS (Nat.le_refl _)⟩
  by_cases h9 : n = 9
  · subst h9
    go_wp2_with (first | (refine wp_load_blk rfl 66 _ rfl P9 rfl 66 _ b9 _ Tryd.underlying66 rfl 256 size_S (by rw [nums_size, bl_len]) ?_) | (refine wp_store_blk rfl 66 _ _ rfl rfl w.heap.size (nums .u8 (bl [15276350712183793153, 1152921506620112897, 0, 0])).toArray rfl rfl 66 _ b2 256 size_S (by rw [nums_size, bl_len]) rfl (nums_one _ _) ?_; intro wS bS kS))
    refine bodyPost_ret (ret_blk2 (ty := 66) rfl _ _ _ _ _ _ _ rfl rfl bS Tryd.underlying66 rfl 256 size_S (by rw [nums_size, bl_len])) rfl ?_
    exact ⟨rfl, below_grown hbel kS (Nat.le_refl _)⟩
  by_cases h10 : n = 10
  · subst h10
    go_wp2_with (first | (refine wp_load_blk rfl 66 _ rfl P9 rfl 66 _ b9 _ Tryd.underlying66 rfl 256 size_S (by rw [nums_size, bl_len]) ?_) | (go_at_call 70; with_reducible refine (rfrom_h31 _).mono ?_; rintro e wq ⟨rfl, hbc⟩; replace b2 := b2.after hbc; replace b4 := b4.after hbc; replace b5 := b5.after hbc; replace b6 := b6.after hbc; replace b7 := b7.after hbc; replace b8 := b8.after hbc; replace b9 := b9.after hbc; replace hbel := below_after hbel hbc; clear hbc) | (go_at_call 71; with_reducible refine (rwith_dom _).mono ?_; rintro e wq ⟨rfl, hbc⟩; replace b2 := b2.after hbc; replace b4 := b4.after hbc; replace b5 := b5.after hbc; replace b6 := b6.after hbc; replace b7 := b7.after hbc; replace b8 := b8.after hbc; replace b9 := b9.after hbc; replace hbel := below_after hbel hbc; clear hbc) | (refine wp_store_blk rfl 66 _ _ rfl rfl w.heap.size (nums .u8 (bl [15276350853917704191, 10376293543474888705, 0, 0])).toArray rfl rfl 66 _ b2 256 size_S (by rw [nums_size, bl_len]) rfl (nums_one _ _) ?_; intro wS bS kS))
    refine bodyPost_ret (ret_blk2 (ty := 66) rfl _ _ _ _ _ _ _ rfl rfl bS Tryd.underlying66 rfl 256 size_S (by rw [nums_size, bl_len])) rfl ?_
    exact ⟨rfl, below_grown hbel kS (Nat.le_refl _)⟩
  go_wp2_with (first | (refine wp_build_nil rfl 66 rfl 59 rfl _ built_S ?_) | (refine wp_store_blk rfl 66 _ _ rfl rfl w.heap.size (nums .u8 no256).toArray rfl rfl 66 _ b2 256 size_S rfl rfl (nums_one _ _) ?_; intro wS bS kS))
  refine bodyPost_ret (ret_blk2 (ty := 66) rfl _ _ _ _ _ _ _ rfl rfl bS Tryd.underlying66 rfl 256 size_S rfl) rfl ?_
  have e1 : nW n = [0, 0, 0, 0] := by simp [nW, h1, h2, h3, h4, h5, h6, h7, h8, h9, h10]
  have e2 : nE n = 10 := by unfold nE; rw [if_neg (by omega)]
  rw [e1, e2, ← no256_bl]
  exact ⟨rfl, below_grown hbel kS (Nat.le_refl _)⟩
end Go.Proofs.YtfbgmlophkbejaaDoor
