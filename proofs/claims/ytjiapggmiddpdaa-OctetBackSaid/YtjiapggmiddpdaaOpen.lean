/- Opening arguments of the statements' rows. -/
import Derived.Test.YtjiapggmiddpdaaOctW
import Derived.ProofKit
import Derived.OpenShut
import Derived.ShutString
import Derived.ChangeOld
import Derived.SizedLaws
import Derived.Laws.IdiomArrays
import Derived.Deep.Strs
import Derived.ChangeSlices
set_option linter.unusedVariables false
set_option linter.unusedSimpArgs false
namespace Go.Proofs.Ytjiapggmiddpdaa
open Go.ChangeShapes Go.WideShapes Go.ChangeAt Go.RowKit Go.Proofs.YtjiapggmiddpdaaW.PrintWords
theorem list4_of {l : List Value} (h : l.length = 4) : ∃ a b c d, l = [a, b, c, d] := by
  match l, h with
  | [a, b, c, d], _ => exact ⟨a, b, c, d, rfl⟩
theorem wf_u64 {x : Int} (h : (Lit.int .u64 x).wf = true) : U64 x := by
  have : 0 ≤ x ∧ x ≤ 18446744073709551615 := by simpa [Lit.wf, IntKind.min, IntKind.max, IntKind.signed, IntKind.bits] using h
  exact ⟨this.1, by omega⟩
theorem open_set4 {P : Program} {W : World} {base : Nat} {H : Type} {enc : TypeId × Value → H} {t e : TypeId} {v : Value} {d : DataW H} {ps : List MemPlace} {sp : Nat → Bool} {held : Bool} {bs : Nat}
    (ht : P.underlying t = some (.array 4 e)) (he : P.underlying e = some (.int .u64)) (hct : P.cellsOf t = 4) (hce : P.cellsOf e = 1)
    (hv : Value.okWide P W .any base t v) (h : DataW.Trod enc P W bs sp held t v d ps) :
    ∃ x0 x1 x2 x3, v = set4 x0 x1 x2 x3 ∧ U64 x0 ∧ U64 x1 ∧ U64 x2 ∧ U64 x3 := by
  obtain ⟨cs, rfl, hsz, _⟩ : ∃ cs, v = .agg cs ∧ cs.size = P.cellsOf t ∧ Row.okWide P W .any base t cs := by
    simpa [Value.okWide, ht] using hv
  rw [hct] at hsz
  obtain ⟨l⟩ := cs
  obtain ⟨c0, c1, c2, c3, rfl⟩ := list4_of (l := l) hsz
  obtain ⟨fuel, hf⟩ := h
  obtain ⟨y0, y1, y2, y3, m, hx, hy0, hy1, hy2, hy3⟩ := trod_array4 ht hce hf
  obtain ⟨x0, e0, rfl, w0⟩ := DataW.trod_int he hy0
  obtain ⟨x1, e1, rfl, w1⟩ := DataW.trod_int he hy1
  obtain ⟨x2, e2, rfl, w2⟩ := DataW.trod_int he hy2
  obtain ⟨x3, e3, rfl, w3⟩ := DataW.trod_int he hy3
  simp at e0 e1 e2 e3
  subst e0 e1 e2 e3
  exact ⟨x0, x1, x2, x3, rfl, wf_u64 w0, wf_u64 w1, wf_u64 w2, wf_u64 w3⟩
theorem list12_of {l : List Value} (h : l.length = 12) : ∃ a0 a1 a2 a3 b0 b1 b2 b3 c0 c1 c2 c3, l = [a0, a1, a2, a3, b0, b1, b2, b3, c0, c1, c2, c3] := by
  match l, h with
  | [a0, a1, a2, a3, b0, b1, b2, b3, c0, c1, c2, c3], _ => exact ⟨a0, a1, a2, a3, b0, b1, b2, b3, c0, c1, c2, c3, rfl⟩
theorem open_row4 {P : Program} {W : World} {H : Type} {enc : TypeId × Value → H} {t e : TypeId} {c0 c1 c2 c3 : Value} {y : DataW H × List MemPlace} {sp : Nat → Bool} {held : Bool} {bs n : Nat}
    (ht : P.underlying t = some (.array 4 e)) (he : P.underlying e = some (.int .u64)) (hce : P.cellsOf e = 1) (h : DataW.trod enc P W bs sp held n t [c0, c1, c2, c3] = some y) :
    ∃ x0 x1 x2 x3, c0 = .int .u64 x0 ∧ c1 = .int .u64 x1 ∧ c2 = .int .u64 x2 ∧ c3 = .int .u64 x3 ∧ U64 x0 ∧ U64 x1 ∧ U64 x2 ∧ U64 x3 := by
  obtain ⟨y0, y1, y2, y3, m, hx, hy0, hy1, hy2, hy3⟩ := trod_array4 ht hce h
  obtain ⟨x0, e0, rfl, w0⟩ := DataW.trod_int he hy0
  obtain ⟨x1, e1, rfl, w1⟩ := DataW.trod_int he hy1
  obtain ⟨x2, e2, rfl, w2⟩ := DataW.trod_int he hy2
  obtain ⟨x3, e3, rfl, w3⟩ := DataW.trod_int he hy3
  simp at e0 e1 e2 e3
  subst e0 e1 e2 e3
  exact ⟨x0, x1, x2, x3, rfl, rfl, rfl, rfl, wf_u64 w0, wf_u64 w1, wf_u64 w2, wf_u64 w3⟩
theorem open_set12 {P : Program} {W : World} {base : Nat} {H : Type} {enc : TypeId × Value → H} {t e t0 : TypeId} {f0 f1 f2 : Field} {v : Value} {d : DataW H} {ps : List MemPlace} {sp : Nat → Bool} {held : Bool} {bs : Nat}
    (hs : P.underlying t = some (.struct #[f0, f1, f2])) (ho0 : f0.offset = 0) (ho1 : f1.offset = 4) (ho2 : f2.offset = 8) (h0 : f0.type = t0) (h1 : f1.type = t0) (h2 : f2.type = t0)
    (ht : P.underlying t0 = some (.array 4 e)) (he : P.underlying e = some (.int .u64)) (hcs : P.cellsOf t = 12) (hct : P.cellsOf t0 = 4) (hce : P.cellsOf e = 1)
    (hv : Value.okWide P W .any base t v) (h : DataW.Trod enc P W bs sp held t v d ps) :
    ∃ x0 x1 x2 x3 y0 y1 y2 y3 z0 z1 z2 z3, v = .agg #[.int .u64 x0, .int .u64 x1, .int .u64 x2, .int .u64 x3, .int .u64 y0, .int .u64 y1, .int .u64 y2, .int .u64 y3, .int .u64 z0, .int .u64 z1, .int .u64 z2, .int .u64 z3] ∧ Wf4 x0 x1 x2 x3 ∧ Wf4 y0 y1 y2 y3 ∧ Wf4 z0 z1 z2 z3 := by
  obtain ⟨cs, rfl, hsz, _⟩ : ∃ cs, v = .agg cs ∧ cs.size = P.cellsOf t ∧ Row.okWide P W .any base t cs := by
    simpa [Value.okWide, hs] using hv
  rw [hcs] at hsz
  obtain ⟨l⟩ := cs
  obtain ⟨a0, a1, a2, a3, b0, b1, b2, b3, c0, c1, c2, c3, rfl⟩ := list12_of (l := l) hsz
  obtain ⟨fuel, hf⟩ := h
  obtain ⟨y0, y1, y2, n, hx, _, g0, g1, g2⟩ := Go.Deep.trod_struct3 hs hf
  rw [ho0, h0, hct] at g0
  rw [ho1, h1, hct] at g1
  rw [ho2, h2, hct] at g2
  obtain ⟨x0, x1, x2, x3, rfl, rfl, rfl, rfl, hx⟩ := open_row4 ht he hce g0
  obtain ⟨y0, y1, y2, y3, rfl, rfl, rfl, rfl, hy⟩ := open_row4 ht he hce g1
  obtain ⟨z0, z1, z2, z3, rfl, rfl, rfl, rfl, hz⟩ := open_row4 ht he hce g2
  exact ⟨x0, x1, x2, x3, y0, y1, y2, y3, z0, z1, z2, z3, rfl, hx, hy, hz⟩
theorem wf_i64 {x : Int} (h : (Lit.int .i64 x).wf = true) : -9223372036854775808 ≤ x ∧ x ≤ 9223372036854775807 := by
  simpa [Lit.wf, IntKind.min, IntKind.max, IntKind.signed, IntKind.bits] using h
theorem wf_i32 {x : Int} (h : (Lit.int .i32 x).wf = true) : -2147483648 ≤ x ∧ x ≤ 2147483647 := by
  simpa [Lit.wf, IntKind.min, IntKind.max, IntKind.signed, IntKind.bits] using h
theorem wf_u8 {x : Int} (h : (Lit.int .u8 x).wf = true) : 0 ≤ x ∧ x ≤ 255 := by
  simpa [Lit.wf, IntKind.min, IntKind.max, IntKind.signed, IntKind.bits] using h
theorem list3_of {l : List Value} (h : l.length = 3) : ∃ a b c, l = [a, b, c] := by
  match l, h with
  | [a, b, c], _ => exact ⟨a, b, c, rfl⟩
/-- a struct of two bytes and a slice of bytes -/
theorem open_three {P : Program} {W : World} {base : Nat} {H : Type} {enc : TypeId × Value → H} {t e sl : TypeId} {f0 f1 f2 : Field} {v : Value} {d : DataW H} {ps : List MemPlace} {held : Bool} {bs : Nat}
    (hs : P.underlying t = some (.struct #[f0, f1, f2])) (ho0 : f0.offset = 0) (ho1 : f1.offset = 1) (ho2 : f2.offset = 2) (h0 : f0.type = e) (h1 : f1.type = e) (h2 : f2.type = sl)
    (he : P.underlying e = some (.int .u8)) (hl : P.underlying sl = some (.slice e)) (hcs : P.cellsOf t = 3) (hce : P.cellsOf e = 1) (hcl : P.cellsOf sl = 1) (hB : P.bytesOf e = 1)
    (hw : ∀ n ∈ d.weights P t, n ≤ reachBytes)
    (hv : Value.okWide P W .any base t v) (h : DataW.Trod enc P W bs (fun _ => true) held t v d ps) :
    ∃ (a b : Int) (A : Option Addr) (c : Nat) (xs : List Int), v = .agg #[.int .u8 a, .int .u8 b, .slice A xs.length c] ∧ (0 ≤ a ∧ a ≤ 255) ∧ (0 ≤ b ∧ b ≤ 255) ∧ (∀ x ∈ xs, 0 ≤ x ∧ x ≤ 255) ∧ ReadsInt W .u8 A xs.length xs ∧ xs.length ≤ 140737488351232 := by
  obtain ⟨cs, rfl, hsz, _⟩ : ∃ cs, v = .agg cs ∧ cs.size = P.cellsOf t ∧ Row.okWide P W .any base t cs := by
    simpa [Value.okWide, hs] using hv
  rw [hcs] at hsz
  obtain ⟨l⟩ := cs
  obtain ⟨c0, c1, c2, rfl⟩ := list3_of (l := l) hsz
  obtain ⟨fuel, hf⟩ := h
  obtain ⟨y0, y1, y2, n, hx, _, g0, g1, g2⟩ := Go.Deep.trod_struct3 hs hf
  rw [ho0, h0, hce] at g0
  rw [ho1, h1, hce] at g1
  rw [ho2, h2, hcl] at g2
  obtain ⟨x0, e0, rfl, w0⟩ := DataW.trod_int he g0
  obtain ⟨x1, e1, rfl, w1⟩ := DataW.trod_int he g1
  simp [Value.cells] at e0 e1
  subst e0 e1
  have hd := congrArg Prod.fst hx
  simp only at hd
  rcases open_ints hl he hce g2 with ⟨hc, _⟩ | ⟨a, len, cap, zs, hc, _, hle, hcap, hz, hy, hcell, hwf⟩
  · simp [Value.cells] at hc
    subst hc
    exact ⟨x0, x1, none, 0, [], rfl, wf_u8 w0, wf_u8 w1, by simp, ReadsInt.nil _ _, by simp⟩
  · simp [Value.cells] at hc
    subst hc
    simp only [if_true] at hz
    obtain ⟨xs, rfl, hR, _, hwx⟩ := ReadsInt.ofRow (k := .u8) (w := W) (a := some a) (len := len) (cap := cap) (zs := zs) (.inr ⟨a, rfl, hle, hcap, hz, hcell, hwf⟩)
    refine ⟨x0, x1, some a, cap, xs, rfl, wf_u8 w0, wf_u8 w1, fun x hx => wf_u8 (hwx x hx), hR, ?_⟩
    have hm := hw (((lits (H := H) .u8 (zs.take xs.length)).length + (lits (H := H) .u8 (zs.drop xs.length)).length) * P.bytesOf e) (by
      rw [hd]
      simp only [DataW.weights, hs]
      refine DataW.weights_mem_each (j := 2) (t := sl) (d := y2.1) (by simp [h2]) rfl _ ?_
      rw [hy]
      simp [DataW.weights, hl])
    rw [hB] at hm
    have h3 : (lits (H := H) .u8 (zs.take xs.length)).length + (lits (H := H) .u8 (zs.drop xs.length)).length = zs.length := by
      simp [lits]
      omega
    rw [h3] at hm
    have : reachBytes = 140737488351232 := rfl
    omega
end Go.Proofs.Ytjiapggmiddpdaa
