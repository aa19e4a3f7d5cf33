/- Opening an argument that is a struct of two whole numbers and a truth. -/
import Derived.Test.YtmjlkifmbhaiiaaDoorOpu
set_option linter.unusedVariables false
set_option linter.unusedSimpArgs false
namespace Go.Proofs.YtmjlkifmbhaiiaaDoor
open Go.ChangeShapes Go.WideShapes Go.ChangeAt Go.RowKit Go.Proofs.YtmjlkifmbhaiiaaDoorW.PrintWords
theorem list3_of' {α : Type} {l : List α} (h : l.length = 3) : ∃ a b c, l = [a, b, c] := match l, h with
  | [a, b, c], _ => ⟨a, b, c, rfl⟩
theorem open_dlt {P : Program} {W : World} {base : Nat} {H : Type} {enc : TypeId × Value → H} {t e sl : TypeId} {f0 f1 f2 : Field} {v : Value} {d : DataW H} {ps : List MemPlace} {held : Bool} {bs : Nat}
    (hs : P.underlying t = some (.struct #[f0, f1, f2])) (ho0 : f0.offset = 0) (ho1 : f1.offset = 1) (ho2 : f2.offset = 2) (h0 : f0.type = e) (h1 : f1.type = e) (h2 : f2.type = sl)
    (he : P.underlying e = some (.int .i64)) (hl : P.underlying sl = some .bool) (hcs : P.cellsOf t = 3) (hce : P.cellsOf e = 1) (hcl : P.cellsOf sl = 1)
    (hv : Value.okWide P W .any base t v) (h : DataW.Trod enc P W bs (fun _ => true) held t v d ps) :
    ∃ (a b : Int) (c : Bool), v = .agg #[.int .i64 a, .int .i64 b, .bool c] := by
  obtain ⟨cs, rfl, hsz, _⟩ : ∃ cs, v = .agg cs ∧ cs.size = P.cellsOf t ∧ Row.okWide P W .any base t cs := by
    simpa [Value.okWide, hs] using hv
  rw [hcs] at hsz
  obtain ⟨l⟩ := cs
  obtain ⟨c0, c1, c2, rfl⟩ := list3_of' (l := l) hsz
  obtain ⟨fuel, hf⟩ := h
  obtain ⟨y0, y1, y2, n, hx, _, g0, g1, g2⟩ := Go.Deep.trod_struct3 hs hf
  rw [ho0, h0, hce] at g0
  rw [ho1, h1, hce] at g1
  rw [ho2, h2, hcl] at g2
  obtain ⟨x0, e0, rfl, w0⟩ := DataW.trod_int he g0
  obtain ⟨x1, e1, rfl, w1⟩ := DataW.trod_int he g1
  obtain ⟨x2, e2, rfl⟩ := DataW.trod_bool hl g2
  simp [Value.cells] at e0 e1 e2
  subst e0 e1 e2
  exact ⟨x0, x1, x2, rfl⟩
end Go.Proofs.YtmjlkifmbhaiiaaDoor
