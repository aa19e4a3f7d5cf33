/- From this repo's own contracts to the printed form: rows of numbers, rows of pieces. -/
import Derived.Test.YtgippjhkimohlaaDoorScaP
import Derived.Test.YtgippjhkimohlaaDoorScaO
set_option linter.unusedVariables false
set_option linter.unusedSimpArgs false
namespace Go.Proofs.YtgippjhkimohlaaDoor
open Go.RowKit Go.Proofs.YtgippjhkimohlaaDoorW.PrintWords Go.Proofs.YtgippjhkimohlaaDoorW.PrintLast
theorem reps_map {α β : Type} {R : α → List Value → Prop} {R' : β → List Value → Prop} {size : Nat} {ps : List α} {cs : List Value} (f : α → β) (hf : ∀ p c, R p c → R' (f p) c) (h : Reps R size ps cs) : Reps R' size (ps.map f) cs := by
  refine ⟨by rw [List.length_map]; exact h.1, fun j q hq => ?_⟩
  rw [List.getElem?_map] at hq
  obtain ⟨p, hp, rfl⟩ := Option.map_eq_some_iff.1 hq
  exact hf _ _ (h.2 j p hp)
theorem own_row_map {α β : Type} {R : α → List Value → Prop} {R' : β → List Value → Prop} {e : TypeId} {size base : Nat} {w : World} {v : Value} {ps : List α} (f : α → β) (hf : ∀ p c, R p c → R' (f p) c) (h : OwnRow R e size w base v ps) : OwnRow R' e size w base v (ps.map f) := by
  obtain ⟨inner, h1, h2⟩ := h
  exact ⟨inner, by rw [List.length_map]; exact h1, reps_map f hf h2⟩
theorem R_of_nums {k : IntKind} {e : TypeId} {base : Nat} {w : World} {v : Value} {l : List Int} (h : w.ownsRow base e 1 v l.length (nums k l)) : Kd.R (Kd.int k) e w base (fun _ => True) v l := Kd.R_of_own h (fun _ _ => trivial)
theorem ints_of_C {k : IntKind} {w : World} {A : Option Addr} {n : Nat} {l : List Int} (h : Kd.C (Kd.int k) w A n l) : ReadsInt w k A n l := Kd.reads_of_C (enc := Value.int k) (d := (0 : Int)) (h1 := fun _ => rfl) h
theorem C_of_ints {k : IntKind} {w : World} {A : Option Addr} {n : Nat} {l : List Int} (h : ReadsInt w k A n l) : Kd.C (Kd.int k) w A n l := Kd.C_of_reads (enc := Value.int k) (d := (0 : Int)) (h1 := fun _ => rfl) h
theorem R_of_rpost {T : TypeId} {l : List Int} {w w' : World} {e : Ending} (h : RPost T l w e w') : ∃ v0_ : Value, e = .returned v0_ ∧ Kd.R (Kd.int .i32) T w' w.heap.size (fun _ => True) v0_ l ∧ Below w.heap.size w w' := by
  obtain ⟨hb, v, rfl, ho⟩ := h
  exact ⟨v, rfl, R_of_nums ho, hb⟩
end Go.Proofs.YtgippjhkimohlaaDoor
