/- Opening arguments of the statements' rows: slices of slices of whole numbers. -/
import Derived.Test.YtgippjhkimohlaaDoorOpu
import Derived.Deep.Matrix
set_option linter.unusedVariables false
set_option linter.unusedSimpArgs false
namespace Go.Proofs.YtgippjhkimohlaaDoor
open Go.ChangeShapes Go.WideShapes Go.ChangeAt Go.RowKit Go.Proofs.YtgippjhkimohlaaDoorW.PrintWords
/-- a slice of slices of whole numbers, read -/
def RowsInt (W : World) (k : IntKind) (A : Option Addr) (ls : List (List Int)) : Prop :=
  ∀ j, j < ls.length → ∃ (ad : Addr) (B : Option Addr) (c : Nat), A = some ad ∧ W.cell? (ad.add j) = some (.slice B (ls.getD j []).length c) ∧ ReadsInt W k B (ls.getD j []).length (ls.getD j []) ∧ (ls.getD j []).length ≤ c
theorem RowsInt.below {W W' : World} {k : IntKind} {A : Option Addr} {ls : List (List Int)} (h : RowsInt W k A ls) (hb : Below W.heap.size W W') : RowsInt W' k A ls := by
  intro j hj
  obtain ⟨ad, B, c, h1, h2, h3, h4⟩ := h j hj
  refine ⟨ad, B, c, h1, ?_, h3.below hb, h4⟩
  exact (hb.cell (World.block_lt_of_cell? W _ h2)).trans h2
theorem bulk_map {H : Type} (f : Nat → DataW H) (g : Nat → List Int) (l : List Nat) (h : ∀ r ∈ l, (g r).length + 1 ≤ Rows.uptoBulk (f r)) : (l.map g).flatten.length + l.length ≤ Rows.uptoBulkAll (l.map f) := by
  induction l with
  | nil => simp [Rows.uptoBulkAll]
  | cons x r ih =>
    have h1 := h x (by simp)
    have h2 := ih (fun y hy => h y (by simp [hy]))
    simp only [List.map_cons, List.flatten_cons, List.length_append, List.length_cons, Rows.uptoBulkAll]
    omega
/-- a slice of slices of whole numbers -/
theorem open_rows {P : Program} {W : World} {base : Nat} {H : Type} {enc : TypeId × Value → H} {t e q : TypeId} {k : IntKind} {v : Value} {d : DataW H} {ps : List MemPlace} {held : Bool} {bs : Nat}
    (ht : P.underlying t = some (.slice e)) (he : P.underlying e = some (.slice q)) (hq : P.underlying q = some (.int k)) (hc : P.cellsOf e = 1) (hc2 : P.cellsOf q = 1)
    (hv : Value.okWide P W .any base t v) (h : DataW.Trod enc P W bs (fun _ => true) held t v d ps) :
    ∃ (A : Option Addr) (ls : List (List Int)) (c : Nat), v = .slice A ls.length c ∧ RowsInt W k A ls ∧ (∀ x ∈ ls.flatten, (Lit.int k x).wf = true) ∧ ls.flatten.length + ls.length ≤ Rows.uptoBulk d := by
  obtain ⟨a0, len, cap, rfl⟩ := okWide_slice ht hv
  obtain ⟨fuel, hf⟩ := h
  rcases Deep.open_int_rows ht he hq hc hc2 hf with ⟨h1, h2⟩ | ⟨a, n, c, A, L, C, Z, h1, hb, hnc, hcm, h2, hrow⟩
  · simp only [Value.cells, List.cons.injEq, and_true, Value.slice.injEq] at h1
    obtain ⟨rfl, rfl, rfl⟩ := h1
    exact ⟨none, [], 0, rfl, fun j hj => by simp at hj, by simp, by simp⟩
  · simp only [Value.cells, List.cons.injEq, and_true, Value.slice.injEq] at h1
    obtain ⟨rfl, rfl, rfl⟩ := h1
    have hll : ((List.range len).map fun r => (Z r).take (L r)).length = len := by simp
    have hg : ∀ j, j < len → ((List.range len).map fun r => (Z r).take (L r)).getD j [] = (Z j).take (L j) := fun j hj => by
      rw [List.getD_eq_getElem?_getD, List.getElem?_map, List.getElem?_range hj]
      rfl
    have hzl : ∀ r, r < len → ((Z r).take (L r)).length = L r := fun r hr => by
      obtain ⟨_, h3, _, h5, _⟩ := hrow r (by omega)
      rw [List.length_take]
      omega
    refine ⟨some a, (List.range len).map fun r => (Z r).take (L r), cap, by rw [hll], fun j hj => ?_, ?_, ?_⟩
    · rw [hll] at hj
      rw [hg j hj]
      obtain ⟨h3, h4, h5, h6, h7, h8, h9⟩ := hrow j (by omega)
      refine ⟨a, A j, C j, rfl, by rw [hzl j hj]; exact h3, ⟨rfl, by rw [hzl j hj]; unfold maxLen at h5; omega, fun hp => ?_⟩, by rw [hzl j hj]; exact h4⟩
      rw [hzl j hj] at hp ⊢
      cases hA : A j with
      | none => have := h8 hA; omega
      | some ad =>
        refine ⟨ad, rfl, fun i hi => ?_⟩
        rw [(h9 ad hA).2 i (by omega), List.getD_eq_getElem?_getD, List.getD_eq_getElem?_getD, List.getElem?_take, if_pos hi]
    · intro x hx
      rw [List.mem_flatten] at hx
      obtain ⟨l, hl, hx⟩ := hx
      rw [List.mem_map] at hl
      obtain ⟨r, hr, rfl⟩ := hl
      obtain ⟨_, _, _, _, h7, _⟩ := hrow r (by have := List.mem_range.1 hr; omega)
      exact h7 x (List.mem_of_mem_take hx)
    · obtain rfl : d = _ := congrArg Prod.fst h2
      have := bulk_map (H := H) (fun r => Deep.intRow k (A r) (L r) (Z r)) (fun r => (Z r).take (L r)) (List.range len) (fun r hr => by
        have hr2 := List.mem_range.1 hr
        rw [hzl r hr2]
        obtain ⟨h3, h4, h5, h6, h7, h8, h9⟩ := hrow r (by omega)
        cases hA : A r with
        | none =>
          have := h8 hA
          simp only [Deep.intRow, Rows.uptoBulk]
          omega
        | some ad =>
          simp only [Deep.intRow, Rows.uptoBulk, bulk_lits, hzl r hr2]
          omega)
      simp only [List.length_range] at this
      simp only [Rows.uptoBulk, List.length_map, List.length_range]
      omega
end Go.Proofs.YtgippjhkimohlaaDoor
