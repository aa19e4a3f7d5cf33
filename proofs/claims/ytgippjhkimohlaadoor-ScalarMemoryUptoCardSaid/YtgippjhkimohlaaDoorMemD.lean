/- ScalarMemory: a row of pieces, written into. -/
import Derived.Test.YtgippjhkimohlaaDoorMemC
import Derived.Laws.OwnMore
import Derived.Test.YtgippjhkimohlaaDoorQUmex0
set_option linter.unusedVariables false
set_option linter.unusedSimpArgs false
namespace Go.Proofs.YtgippjhkimohlaaDoor
open Go.RowKit Go.Proofs.YtgippjhkimohlaaDoorW.PrintWords Go.Proofs.YtgippjhkimohlaaDoorW.PrintLast
theorem own_lows {w : World} {base base' size n : Nat} {e : TypeId} {v : Value} {xs : List Value} (h : w.ownsRow base e size v n xs) (hb : base' ≤ base) : w.ownsRow base' e size v n xs := by
  refine ⟨h.1, ?_⟩
  rcases h.2 with hn | ⟨g, cap, cur, hv, hg, rest⟩
  · exact .inl hn
  · exact .inr ⟨g, cap, cur, hv, Nat.le_trans hb hg, rest⟩
theorem Mem2.other {F : Five} {X : Nat → List Int} {B gd gl H k g : Nat} {w w' : World} (h : Mem2 F X B gd gl H k w) (ok : F.Ok gd gl H) (hg : w.grownBy w' (some g)) (hH : H ≤ g) : Mem2 F X B gd gl H k w' := by
  have blk : ∀ b, b < H → w'.heap[b]? = w.heap[b]? := fun b hb => hg.block b (by have := h.old; omega) (fun e => by injection e with e; omega)
  refine ⟨fun i hi => reads_block (h.rds i hi) fun ad ea => ?_, fun i h1 h2 => own_blk (h.own i h1 h2) fun g2 e => ?_, (blk gd ok.gd).trans h.dec, (blk gl ok.gl).trans h.lst, Nat.le_trans h.old hg.size⟩
  · rcases ok.form i hi with f | ⟨g3, f, h3, _⟩
    · rw [f] at ea; cases ea
    · rw [f] at ea; injection ea with ea; subst ea; exact blk g3 h3
  · rcases ok.form i h2 with f | ⟨g3, f, h3, _⟩
    · rw [Five.val, f] at e; cases e
    · rw [Five.val, f] at e
      simp only [Value.ownBlock, Option.some.injEq] at e
      subst e
      exact blk g3 h3
/-- the field At of a piece of a row, written -/
theorem pieceAt {w : World} {B n cap : Nat} {A : Option Addr} {xs : List Value} (h : w.ownsRow B 32 4 (.slice A n cap) n xs) (i : Int) (h0 : 0 ≤ i) (h1 : i < n) (x : Value) :
    ∃ g, A = some ⟨g, 0, none⟩ ∧ B ≤ g ∧ (∃ u, w.cell? ⟨g, i.toNat * 4, none⟩ = some u) ∧ w.frozen? ⟨g, i.toNat * 4, none⟩ = false ∧
      (∃ xs', (w.setCell ⟨g, i.toNat * 4, none⟩ x).ownsRow B 32 4 (.slice A n cap) n xs') ∧ w.grownBy (w.setCell ⟨g, i.toNat * 4, none⟩ x) (some g) := by
  obtain ⟨g, cap2, hv, hB, hlt⟩ := h.form (by omega)
  injection hv with e1 e2 e3
  subst e1
  subst e3
  have hl := h.1
  refine ⟨g, rfl, hB, ?_, h.frozenAt _, ⟨_, (h.stored _ x).1⟩, (h.stored _ x).2⟩
  rw [h.cellAt (i.toNat * 4) (by omega)]
  exact ⟨_, List.getElem?_eq_getElem (by omega)⟩
theorem Mem2.four {F : Five} {X : Nat → List Int} {B gd gl H : Nat} {w : World} {A : Option Addr} {n c : Nat} {l : List Int} (h : Mem2 F X B gd gl H (4 : Int).toNat w) (hF : F.val 4 = .slice A n c) (hX : X 4 = l) : ReadsInt w .i32 A n l ∧ n ≤ c := by
  have hr := h.rds 4 (by omega)
  have ho := own_le (h.own 4 (by decide) (by omega))
  unfold Five.val at hF
  injection hF with e1 e2 e3
  rw [e1, e2, hX] at hr
  rw [e2, e3] at ho
  exact ⟨hr, ho⟩
theorem mX {w w' : World} {v : Value} {ok : Nat → Prop} (h : Kd.R (Kd.int .i32) 21 w' w.heap.size ok v [120]) : ∃ A c, v = .slice A 1 c ∧ 1 ≤ c ∧ ReadsInt w' .i32 A 1 [120] := by
  obtain ⟨A, c, rfl, m⟩ := made_R h
  exact ⟨A, c, rfl, m.cap, m.reads⟩
theorem mSameX (A A2 : Option Addr) (c c2 : Nat) (w : World) (hc : 1 ≤ c) (hc2 : 1 ≤ c2) (R : ReadsInt w .i32 A 1 [120]) (R2 : ReadsInt w .i32 A2 1 [120]) : Calls Tryd.prog 18 #[.slice A 1 c, .slice A2 1 c2] w fun e w' => e = .returned (.bool true) ∧ Below w.heap.size w w' :=
  mSame [120] A A2 c c2 w (by decide) hc hc2 R R2
theorem litX (W : World) : ReadsInt (W.alloc (.cells #[.int .i32 120] 21)) .i32 (some ⟨W.heap.size, 0, none⟩) 1 [120] := by
  have h := World.ownsRow_lit (base := 0) (e := 21) (size := 1) W #[.int .i32 120] 1 (by omega) (by decide) rfl
  obtain ⟨A, c, e, hr⟩ := own_reads (k := .i32) (xs := [120]) h
  injection e with e1 e2 e3
  subst e1
  exact hr
end Go.Proofs.YtgippjhkimohlaaDoor
