/- ScalarMemory: the four lists and what is asked for, in memory. -/
import Derived.Test.YtgippjhkimohlaaDoorMemA
set_option linter.unusedVariables false
set_option linter.unusedSimpArgs false
namespace Go.Proofs.YtgippjhkimohlaaDoor
open Go.RowKit Go.Proofs.YtgippjhkimohlaaDoorW.PrintWords Go.Proofs.YtgippjhkimohlaaDoorW.PrintLast
/-- five rows: where they lie, how long they are, what room they have -/
structure Five where
  A : Nat → Option Addr
  n : Nat → Nat
  c : Nat → Nat
def Five.val (F : Five) (i : Nat) : Value := .slice (F.A i) (F.n i) (F.c i)
structure Five.Ok (F : Five) (gd gl H : Nat) : Prop where
  form : ∀ i, i < 5 → F.A i = none ∨ ∃ g, F.A i = some ⟨g, 0, none⟩ ∧ g < H ∧ g ≠ gd ∧ g ≠ gl
  apart : ∀ i j g, i < 5 → j < 5 → i ≠ j → F.A i = some ⟨g, 0, none⟩ → F.A j ≠ some ⟨g, 0, none⟩
  size : ∀ i, i < 5 → F.n i ≤ 16777216
  gd : gd < H
  gl : gl < H
def lstCells (F : Five) : Array Value := #[F.val 0, F.val 1, F.val 2, F.val 3]
theorem own_grown {F : Five} {w w' : World} {B i g : Nat} {xs : List Value} (h : w.ownsRow B 21 1 (F.val i) (F.n i) xs) (hg : w.grownBy w' (some g)) (hne : F.A i ≠ some ⟨g, 0, none⟩) (hf : F.A i = none ∨ ∃ g, F.A i = some ⟨g, 0, none⟩) : w'.ownsRow B 21 1 (F.val i) (F.n i) xs := by
  refine h.kept hg ?_
  rcases hf with hf | ⟨g2, hf⟩
  · exact Or.inl (by simp [Five.val, hf, Value.ownBlock])
  · refine Or.inr ?_
    simp only [Five.val, hf, Value.ownBlock]
    intro e
    exact hne (by rw [hf, Option.some.inj e])
/-- while the lists are marked -/
structure Mem (F : Five) (X : Nat → List Int) (B gd gl H : Nat) (w : World) : Prop where
  own : ∀ i, i < 5 → w.ownsRow B 21 1 (F.val i) (F.n i) (nums .i32 (X i))
  dec : w.heap[gd]? = some (.cells #[.string ⟨#[]⟩] 102 (0, 0))
  lst : w.heap[gl]? = some (.cells (lstCells F) 24 (0, 0))
  old : H ≤ w.heap.size
def upd (X : Nat → List Int) (k : Nat) (y : List Int) : Nat → List Int := fun i => if i = k then y else X i
theorem Mem.len {F : Five} {X : Nat → List Int} {B gd gl H : Nat} {w : World} (h : Mem F X B gd gl H w) {i : Nat} (hi : i < 5) : (X i).length = F.n i := by
  have := (h.own i hi).1
  simpa [nums] using this
theorem Mem.lstAt {F : Five} {X : Nat → List Int} {B gd gl H : Nat} {w : World} (h : Mem F X B gd gl H w) {i : Nat} (hi : i < 4) : w.cell? ⟨gl, i, none⟩ = some (F.val i) := by
  rw [Lib.cell_of_heap h.lst]
  have : i = 0 ∨ i = 1 ∨ i = 2 ∨ i = 3 := by omega
  rcases this with rfl | rfl | rfl | rfl <;> rfl
theorem Mem.store {F : Five} {X : Nat → List Int} {B gd gl H : Nat} {w : World} (h : Mem F X B gd gl H w) (ok : F.Ok gd gl H) {k : Nat} (hk : k < 4) (j x : Int) (hj0 : 0 ≤ j) (hj : j < F.n k) :
    ∃ g, F.A k = some ⟨g, 0, none⟩ ∧ B ≤ g ∧ w.cell? ⟨g, j.toNat, none⟩ = some (.int .i32 (rd (X k) j)) ∧ w.frozen? ⟨g, j.toNat, none⟩ = false ∧
      Mem F (upd X k ((X k).set j.toNat x)) B gd gl H (w.setCell ⟨g, j.toNat, none⟩ (.int .i32 x)) := by
  have ho := h.own k (by omega)
  obtain ⟨g, cap, hv, hB, hlt⟩ := ho.form (by omega)
  have hA : F.A k = some ⟨g, 0, none⟩ := by
    unfold Five.val at hv
    injection hv
  have hc : F.c k = cap := by
    unfold Five.val at hv
    injection hv
  have hv2 : F.val k = .slice (some ⟨g, 0, none⟩) (F.n k) (F.c k) := by unfold Five.val; rw [hA]
  rw [hv2] at ho
  obtain ⟨c0, c1⟩ := own_at ho j hj0 (by omega)
  obtain ⟨s1, s2⟩ := own_store ho j x
  refine ⟨g, hA, hB, c0, c1, ?_⟩
  rcases ok.form k (by omega) with hf | ⟨g2, hf, hgH, hgd, hgl⟩
  · rw [hf] at hA; cases hA
  have hg2 : g2 = g := by rw [hf] at hA; injection hA with e; injection e
  subst hg2
  refine ⟨fun i hi => ?_, ?_, ?_, Nat.le_trans h.old s2.size⟩
  · unfold upd
    by_cases e : i = k
    · subst e
      rw [if_pos rfl, hv2]
      exact s1
    · rw [if_neg e]
      refine own_grown (h.own i hi) s2 (ok.apart k i g2 (by omega) hi (fun e2 => e e2.symm) hA) ?_
      rcases ok.form i hi with f | ⟨g3, f, _⟩
      · exact Or.inl f
      · exact Or.inr ⟨g3, f⟩
  · rw [s2.block gd (by have := ok.gd; have := h.old; omega) (fun e => hgd (Option.some.inj e).symm)]
    exact h.dec
  · rw [s2.block gl (by have := ok.gl; have := h.old; omega) (fun e => hgl (Option.some.inj e).symm)]
    exact h.lst
/-- while they grow: those from k on are not grown yet -/
structure Mem2 (F : Five) (X : Nat → List Int) (B gd gl H k : Nat) (w : World) : Prop where
  rds : ∀ i, i < 5 → ReadsInt w .i32 (F.A i) (F.n i) (X i)
  own : ∀ i, k ≤ i → i < 5 → w.ownsRow B 21 1 (F.val i) (F.n i) (nums .i32 (X i))
  dec : w.heap[gd]? = some (.cells #[.string ⟨#[]⟩] 102 (0, 0))
  lst : w.heap[gl]? = some (.cells (lstCells F) 24 (0, 0))
  old : H ≤ w.heap.size
theorem own_rd5 {F : Five} {w : World} {B i : Nat} {xs : List Int} (h : w.ownsRow B 21 1 (F.val i) (F.n i) (nums .i32 xs)) : ReadsInt w .i32 (F.A i) (F.n i) xs := by
  obtain ⟨A2, c2, e2, h2⟩ := own_reads h
  unfold Five.val at e2
  injection e2 with e3 e4 e5
  subst e3
  exact h2
theorem Mem.to2 {F : Five} {X : Nat → List Int} {B gd gl H : Nat} {w : World} (h : Mem F X B gd gl H w) : Mem2 F X B gd gl H 0 w :=
  ⟨fun i hi => own_rd5 (h.own i hi), fun i _ hi => h.own i hi, h.dec, h.lst, h.old⟩
theorem Mem2.lstAt {F : Five} {X : Nat → List Int} {B gd gl H k : Nat} {w : World} (h : Mem2 F X B gd gl H k w) {i : Nat} (hi : i < 4) : w.cell? ⟨gl, i, none⟩ = some (F.val i) := by
  rw [Lib.cell_of_heap h.lst]
  have : i = 0 ∨ i = 1 ∨ i = 2 ∨ i = 3 := by omega
  rcases this with rfl | rfl | rfl | rfl <;> rfl
theorem Mem2.up {F : Five} {X : Nat → List Int} {B gd gl H k : Nat} {w : World} (h : Mem2 F X B gd gl H k w) : Mem2 F X B gd gl H (k + 1) w :=
  ⟨h.rds, fun i h1 h2 => h.own i (by omega) h2, h.dec, h.lst, h.old⟩
theorem reads_block {w w' : World} {A : Option Addr} {n : Nat} {xs : List Int} (h : ReadsInt w .i32 A n xs) (hb : ∀ ad, A = some ad → w'.heap[ad.block]? = w.heap[ad.block]?) : ReadsInt w' .i32 A n xs := by
  refine ⟨h.1, h.2.1, fun hn => ?_⟩
  obtain ⟨ad, e, hc⟩ := h.2.2 hn
  refine ⟨ad, e, fun j hj => ?_⟩
  rw [← hc j hj]
  refine World.cell?_of_block ?_
  have ea : (ad.add j).block = ad.block := by unfold Addr.add; split <;> rfl
  rw [ea]
  exact hb ad e
theorem Mem2.below {F : Five} {X : Nat → List Int} {B gd gl H k : Nat} {w w' : World} (h : Mem2 F X B gd gl H k w) (hb : Below w.heap.size w w') (ok : F.Ok gd gl H) : Mem2 F X B gd gl H k w' :=
  ⟨fun i hi => (h.rds i hi).below hb, fun i h1 h2 => pw_own_below (h.own i h1 h2) hb, (hb.block gd (by have := ok.gd; have := h.old; omega)).trans h.dec, (hb.block gl (by have := ok.gl; have := h.old; omega)).trans h.lst, Nat.le_trans h.old hb.size⟩
/-- where the grown row lies -/
def At (F : Five) (k H : Nat) (v : Value) : Prop := v.ownBlock = (F.val k).ownBlock ∨ ∃ b, v.ownBlock = some b ∧ H ≤ b
theorem Mem2.grow {F : Five} {X : Nat → List Int} {B gd gl H k m : Nat} {W w1 w' : World} {v v' : Value} (h : Mem2 F X B gd gl H (k + 1) W) (ok : F.Ok gd gl H) (hk : k < 4) (hv : At F k H v) (hb : Below W.heap.size W w1) (hg : W.grownBy w' v.ownBlock) (G : Grew w1 w' v v' m) (hm : F.n k ≤ m) : Mem2 F X B gd gl H (k + 1) w' ∧ At F k H v' := by
  have hne : ∀ g, g < H → F.A k ≠ some ⟨g, 0, none⟩ → v.ownBlock ≠ some g := by
    intro g hgH hA e
    rcases hv with hv | ⟨b, hv, hbH⟩
    · rw [hv] at e
      rcases ok.form k (by omega) with f | ⟨g3, f, _⟩
      · rw [Five.val, f] at e; cases e
      · rw [Five.val, f] at e
        injection e with e
        exact hA (by rw [f]; subst e; rfl)
    · rw [hv] at e
      injection e with e
      omega
  have hother : ∀ g, g < H → F.A k ≠ some ⟨g, 0, none⟩ → w'.heap[g]? = W.heap[g]? := fun g hgH hA => hg.block g (by have := h.old; omega) (fun e => hne g hgH hA e.symm)
  have hgdne : F.A k ≠ some ⟨gd, 0, none⟩ := by
    rcases ok.form k (by omega) with f | ⟨g3, f, _, h3, _⟩
    · rw [f]; simp
    · rw [f]; intro e; injection e with e; injection e with e; exact h3 e
  have hglne : F.A k ≠ some ⟨gl, 0, none⟩ := by
    rcases ok.form k (by omega) with f | ⟨g3, f, _, _, h3⟩
    · rw [f]; simp
    · rw [f]; intro e; injection e with e; injection e with e; exact h3 e
  refine ⟨⟨fun i hi => ?_, fun i h1 h2 => ?_, (hother gd ok.gd hgdne).trans h.dec, (hother gl ok.gl hglne).trans h.lst, Nat.le_trans h.old hg.size⟩, ?_⟩
  · by_cases e : i = k
    · subst e
      refine ⟨(h.rds i hi).1, (h.rds i hi).2.1, fun hn => ?_⟩
      obtain ⟨ad, ea, hc⟩ := (h.rds i hi).2.2 hn
      refine ⟨ad, ea, fun j hj => ?_⟩
      rw [← hc j hj]
      rcases ok.form i hi with f | ⟨g, f, hgH, _⟩
      · rw [f] at ea; cases ea
      have had : ad = ⟨g, 0, none⟩ := by rw [f] at ea; exact (Option.some.inj ea).symm
      subst had
      have eadd : ((⟨g, 0, none⟩ : Addr).add j) = ⟨g, j, none⟩ := by unfold Addr.add; split <;> simp_all
      rw [eadd]
      by_cases hvb : v.ownBlock = some g
      · rw [G.cells g j hvb (by omega)]
        exact World.cell?_of_block (hb.block g (by have := h.old; omega))
      · exact World.cell?_of_block (hg.block g (by have := h.old; omega) (fun e => hvb e.symm))
    · refine reads_block (h.rds i hi) fun ad ea => ?_
      rcases ok.form i hi with f | ⟨g, f, hgH, _⟩
      · rw [f] at ea; cases ea
      have had : ad = ⟨g, 0, none⟩ := by rw [f] at ea; exact (Option.some.inj ea).symm
      subst had
      exact hother g hgH (ok.apart i k g hi (by omega) e f)
  · have e : i ≠ k := by omega
    refine (h.own i h1 h2).kept hg ?_
    rcases ok.form i h2 with f | ⟨g, f, hgH, _⟩
    · exact Or.inl (by simp [Five.val, f, Value.ownBlock])
    · refine Or.inr ?_
      have := hne g hgH (ok.apart i k g h2 (by omega) e f)
      simp only [Five.val, f, Value.ownBlock]
      exact fun e => this e.symm
  · rcases G.at_ with e | ⟨b, e, hbz⟩
    · unfold At
      rw [e]
      exact hv
    · exact Or.inr ⟨b, e, by have := h.old; have := hb.size; omega⟩
end Go.Proofs.YtgippjhkimohlaaDoor
