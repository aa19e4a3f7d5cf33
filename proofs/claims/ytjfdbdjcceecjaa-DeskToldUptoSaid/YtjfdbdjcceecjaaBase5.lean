/- append of one whole number as a step of a region that draws its order; texts of one byte. -/
import Derived.Test.YtjfdbdjcceecjaaBase3
set_option linter.unusedVariables false
set_option linter.unusedSimpArgs false
namespace Go.Proofs.Ytjfdbdjcceecjaa
open Go.RowKit Go.Proofs.YtjfdbdjcceecjaaW.PrintWords Go.Proofs.YtjfdbdjcceecjaaW.PrintLast
section
variable {P : Program} {ops : Array Oper} {oi : Oper} {a : Act} {K : Act → World → Prop} {Q : Exit → Act → World → Prop}
theorem app1_ {w0 W : World} {N : Option Tmp} (base : Nat) (hw : Region.wanted oi (yielded ops a.tmps) = true) (hN : oi.dst = N) (s x : Operand) (t e : TypeId) (k : IntKind) (bytes : Nat)
    (ho : oi.op = .call { callee := .builtin .append, args := #[s, x], argTypes := #[t, t] })
    (ht : P.underlying t = some (.slice e)) (hinfo : (P.info? e).map (fun i => (i.zero, i.size, i.bytes)) = some (some (.int k 0), 1, bytes)) (hb0 : 0 < bytes)
    (v : Value) (xs : List Int) (y : Int) (hs : a.eval s = v) (hx : a.eval x = .slice (some ⟨W.heap.size, 0, none⟩) 1 1)
    (HO : W.ownsRow base e 1 v xs.length (nums k xs)) (HB : Below base w0 W) (hbase : base ≤ W.heap.size) (hl : (xs.length + 1) * bytes ≤ 140737488355328)
    (h : ∀ v1 w1, w1.ownsRow base e 1 v1 (xs ++ [y]).length (nums k (xs ++ [y])) → Below base w0 w1 → W.grownBy w1 v.ownBlock → K (a.put N v1) w1) :
    if Region.wanted oi (yielded ops a.tmps) = true then Oper.wp P oi a (W.alloc (.cells #[.int k y] e)) K Q else K (a.put N undef) (W.alloc (.cells #[.int k y] e)) := by
  subst hN
  refine step_append_cells (ys := [.int k y]) base hw s x t e (.int k 0) 1 bytes ho ht hinfo rfl (by omega) hb0 v xs.length (nums k xs) hs hx rfl (fun u hu => by obtain rfl := List.mem_singleton.1 hu; rfl) HO HB hbase hl fun v1 w1 h1 h2 h3 _ => h v1 w1 ?_ h2 h3
  rw [List.length_append, nums_append]
  exact h1
theorem app1d_ {w0 W : World} {N : Option Tmp} (base : Nat) (hw : Region.wanted oi (yielded ops a.tmps) = true) (hN : oi.dst = N) (s x : Operand) (t e : TypeId) (k : IntKind) (bytes : Nat)
    (ho : oi.op = .call { callee := .builtin .append, args := #[s, x], argTypes := #[t, t] })
    (ht : P.underlying t = some (.slice e)) (hinfo : (P.info? e).map (fun i => (i.zero, i.size, i.bytes)) = some (some (.int k 0), 1, bytes)) (hb0 : 0 < bytes)
    (v : Value) (xs : List Int) (y : Int) (hs : a.eval s = v) (hx : a.eval x = .slice (some ⟨W.heap.size, 0, none⟩) 1 1)
    (HO : W.ownsRow base e 1 v xs.length (nums k xs)) (HB : Below base w0 W) (hbase : base ≤ W.heap.size) (hl : (xs.length + 1) * bytes ≤ 140737488355328)
    (h : ∀ v1 w1, w1.ownsRow base e 1 v1 (xs ++ [y]).length (nums k (xs ++ [y])) → Below base w0 w1 → W.drew.grownBy w1 v.ownBlock → K (a.put N v1) w1) :
    if Region.wanted oi (yielded ops a.tmps) = true then Oper.wp P oi a (W.alloc (.cells #[.int k y] e)).drew K Q else K (a.put N undef) (W.alloc (.cells #[.int k y] e)).drew :=
  app1_ (W := W.drew) base hw hN s x t e k bytes ho ht hinfo hb0 v xs y hs hx HO HB.drew hbase hl h
end
end Go.Proofs.Ytjfdbdjcceecjaa
